/- Texts for FnExactPutField, packed by a program of this session (wip/pack.py), part 1 of 3: the print's words that are used, the printed walks, the plain laws, the row; no condition. -/
import Derived.Test.YtfiieppnpmodoaaDoorMgFnExactPutField0
import Derived.Test.YtfiieppnpmodoaaDoorProg
import Derived.KernelRfl
import Derived.Below
import Derived.Lib.LaidTab
import Derived.Lib.SmallJoins
import Derived.Lib.AppendIntMem
import Derived.Deep.Draws
import Derived.Deep.AppendLies
import Derived.Maps.AppendAt
import Derived.OwnWalk
import Derived.Laws.BytesArg
import Derived.Laws.MakeOwn
import Derived.Laws.OwnMore
import Derived.Deep.OwnRows
import Derived.Tactics
import Derived.Lib.ConvBytes
import Derived.Laws.Slices
import Derived.WalkKit
import Derived.RowKit3
import Derived.Deep.LoopGhost
import Derived.Deep.QuietTactic
import Derived.BigQuiet
import Derived.WideLaws
import Derived.Deep.DeepCutAuto
import Derived.Deep.CutBlock
import Derived.Deep.RegionHeld3
import Derived.Laws.Rows
import Derived.Lib.AppendStr
import Derived.ArgAppend
import Derived.Laws.IdiomCopy
import Derived.OrdersHeld
import Derived.Laws.BitsLemmas
import Derived.RowKit
import Derived.Laws.Runes
import Derived.Shelf.Strings.Builder1
import Derived.Shelf.Strings.Builder2
import Derived.Shelf.Small.Strs
import Derived.Shelf.Strings.BuilderF
import Derived.Shelf.Strings.BuilderK
import Derived.Shelf.Strings.Builder2Cap
import Derived.Shelf.Strconv.Atoi
import Derived.Shelf.Strconv.Itoa0
import Derived.Shelf.Strconv.Itoa1
import Derived.Shelf.LaysM
import Derived.Shelf.Strconv.Itoa2
import Derived.Shelf.Strconv.Itoa3
import Derived.Shelf.Strconv.AtoiErrFast
import Derived.Shelf.Strconv.ParseIntEmpty
import Derived.Shelf.Strconv.AtoiFail
import Derived.Shelf.Strconv.Clone
import Derived.Shelf.Strconv.SyntaxError
import Derived.Shelf.LaysC
import Derived.Shelf.Strconv.ToError
import Derived.Shelf.Strconv.AtoiErr
import Derived.Shelf.Strconv.ErrVar
import Derived.Shelf.Strconv.Lower
import Derived.Shelf.Strconv.ParseUint10
import Derived.Shelf.Strconv.ParseUint10Empty
import Derived.Shelf.Strconv.ParseUint10Any
import Derived.Shelf.Strconv.ParseInt10
import Derived.Shelf.Strconv.AtoiLong
import Derived.Shelf.Strconv.AtoiInnerAll
import Derived.Shelf.Strconv.RangeError
import Derived.Shelf.Strconv.ToErrorRange
import Derived.Shelf.Strconv.AtoiAll
import Derived.Shelf.Strconv.ErrVarAll
import Derived.Shelf.Strconv.ParseUintEmpty
import Derived.Shelf.Strconv.ParseUint10b64
import Derived.Shelf.Strconv.ParseUint10b32
import Derived.Shelf.Strconv.ParseUint10b16
import Derived.Shelf.Strconv.ParseUint10b8
import Derived.Shelf.Strconv.ParseUint10At
import Derived.Shelf.Strconv.ParseInt10At64
import Derived.Shelf.Strconv.ParseInt10At32
import Derived.Shelf.Strconv.ParseInt10At16
import Derived.Shelf.Strconv.ParseInt10At8
import Derived.Shelf.Strconv.ParseInt10All
import Derived.Shelf.Strings.Search1
import Derived.Shelf.Strings.Prefix
import Derived.Shelf.Bits.Mul64
import Derived.Shelf.Strings.Repeat
import Derived.Shelf.Strings.BuilderCap
namespace Go.Proofs.YtfiieppnpmodoaaDoor.Q
open Go.RowKit Go.Proofs.YtfiieppnpmodoaaDoorW.PrintWords Go.Proofs.YtfiieppnpmodoaaDoorW.PrintLast Go.Proofs.YtfiieppnpmodoaaDoorW.PrintMore
theorem e256_ (x : Int) : wrap64 (x % 256) = x % 256 := by unfold wrap64; omega
theorem bB {b : Nat} {w W : World} (h : Below b w W := by repeat (first | (with_reducible first | exact HB.out | apply below_alloc | apply pw_below_drewN | apply below_drew1) | exact HB.out)) : Below b w W := h
theorem bG {b : Nat} {w W : World} (h : Below b w W := by repeat (first | (with_reducible first | exact HB.out | apply below_alloc | apply pw_below_drewN | apply below_drew1 | refine below_set ?_ (Aside0.out (by assumption))) | exact HB.out)) : Below b w W := h
theorem rA {p q : Prop} (h : p) (k : p → q := by intro h_; (with_reducible repeat (first | apply Kd.R_alloc | apply Kd.R_drewN | apply Kd.R_drew)); exact h_) : q := k h
theorem kA {p q : Prop} (h : p) (k : p → q := by intro h_; (with_reducible repeat (first | refine blk_drewN ?_ _ | refine blk_drew ?_ | refine blk_alloc ?_ _)); exact h_) : q := k h
theorem goesM_ {P : Program} {ops : Array Oper} {Q : Exit → Act → World → Prop} {rest : List Oper} {oi : Oper} {a : Act} {w : World} (N : Option Tmp) (hd : oi.dst = N) (hg : oi.guard = none) {f : FuncId} {fn : Func} {av_ : Array Operand} {ts : Array TypeId} (hf : P.funcs[f]? = some fn) (hname : (fn.name == "runtime.NumGoroutine") = false) (hb : fn.body.isSome = true) (args : Array Value) (hop : oi.op = .call { callee := .value (.func f), args := av_, argTypes := ts }) (h : Calls P f args w fun e w' => ∃ v, e = .returned v ∧ wpList P ops Q rest (a.put N v) w') (hargs : av_.map a.eval = args := by (try simp only [List.map_toArray, List.map_cons, List.map_nil]); first | done | rfl | (simp only [List.length_drop, List.length_take]; rfl)) : wpList P ops Q (oi :: rest) a w := goesL_ N hd hg hf hname hb args hop hargs h
end Go.Proofs.YtfiieppnpmodoaaDoor.Q
section
namespace Go.Proofs.YtfiieppnpmodoaaDoor.Q
open Go.RowKit
theorem gPow : Tryd.prog.globalNamed "internal/strconv.uint64pow10" = some 3 := by kernel_rfl
def GLW (w : World) : Prop := Lib.TabIs Tryd.prog w "internal/strconv.uint64pow10" .u64 Lib.pow10Tab
theorem GLW_below {w W : World} (h : GLW w) (b : Below w.heap.size w W) : GLW W := Joins.tab_stays gPow h b (Nat.le_refl _)
end Go.Proofs.YtfiieppnpmodoaaDoor.Q
end
section
namespace Go.Proofs.YtfiieppnpmodoaaDoor.Q
open Go.RowKit Go.Proofs.YtfiieppnpmodoaaDoorW.PrintWords Go.Proofs.YtfiieppnpmodoaaDoorW.PrintLast Go.Proofs.YtfiieppnpmodoaaDoorW.PrintMore
attribute [local go_sem] max2_int min2_int max_two min_two max_three min_three max_four min_four
set_option linter.unusedVariables false
set_option linter.unusedSimpArgs false
def errW : Option Int → Value
 | none => .nilIface
 | some c => .iface 0 (.int .i64 c)
theorem errW_none : errW none = .nilIface := rfl
theorem errW_some (c : Int) : errW (some c) = .iface 0 (.int .i64 c) := rfl
theorem info5 : (Tryd.prog.info? 5).map (fun i => (i.zero, i.size, i.bytes)) = some (some (.int .u8 0), 1, 1) := by kernel_rfl
structure S85 where
 f0 : Int
 f1 : Int
 f2 : Int
def z85 : S85 := ⟨(0 : Int), (0 : Int), (0 : Int)⟩
def k85 : Kd S85 := Kd.iso (Kd.pair (Kd.int .i64) (Kd.pair (Kd.int .i64) (Kd.int .i64))) (fun x : S85 => (x.f0, x.f1, x.f2))
theorem k85_open {w : World} {x : S85} {cs : List Value} (h : k85.K w x cs) : cs = [.int .i64 x.f0, .int .i64 x.f1, .int .i64 x.f2] := by
 obtain ⟨_, _, rfl, rfl, ⟨_, _, rfl, rfl, rfl⟩⟩ := h
 exact rfl
theorem k85_mkM (w : World) (base : Nat) (ok : Nat → Prop) (x : S85)  : k85.M w base ok x [.int .i64 x.f0, .int .i64 x.f1, .int .i64 x.f2] := ⟨[.int .i64 x.f0], [.int .i64 x.f1, .int .i64 x.f2], rfl, rfl, ⟨[.int .i64 x.f1], [.int .i64 x.f2], rfl, rfl, rfl⟩⟩
def rd_T85 (xs : List S85) (i : Int) : S85 := xs.getD i.toNat z85
theorem at_T85 {w : World} {A : Option Addr} {n : Nat} {xs : List S85} (h : Kd.C k85 w A n xs) (i : Int) (h0 : 0 ≤ i) (h1 : i < n) : ∃ ad , A = some ad ∧ w.cell? (ad.add (i.toNat * 3)) = some (.int .i64 (rd_T85 xs i).f0) ∧ w.cell? ⟨(ad.add (i.toNat * 3)).block, (ad.add (i.toNat * 3)).off + 1, none⟩ = some (.int .i64 (rd_T85 xs i).f1) ∧ w.cell? ⟨(ad.add (i.toNat * 3)).block, (ad.add (i.toNat * 3)).off + 2, none⟩ = some (.int .i64 (rd_T85 xs i).f2) := by
 obtain ⟨ad, c, e, _, hK, hc0⟩ := Kd.C_get h z85 i h0 h1
 have hc : ∀ j u, c[j]? = some u → w.cell? (ad.add (i.toNat * 3 + j)) = some u := hc0
 obtain rfl := k85_open hK
 exact ⟨ad, e, hc 0 _ rfl, by rw [← add_field _ _ 1 (by omega)]; exact hc 1 _ rfl, by rw [← add_field _ _ 2 (by omega)]; exact hc 2 _ rfl⟩
structure S102 where
 f0 : Int
 f1 : ByteArray
structure S79 where
 f0 : Int
 f1 : ByteArray
end Go.Proofs.YtfiieppnpmodoaaDoor.Q
end
section
namespace Go.Proofs.YtfiieppnpmodoaaDoor.Q
open Go.RowKit Go.Proofs.YtfiieppnpmodoaaDoorW.PrintWords Go.Proofs.YtfiieppnpmodoaaDoorW.PrintLast Go.Proofs.YtfiieppnpmodoaaDoorW.PrintMore
set_option linter.unusedVariables false
set_option linter.unusedSimpArgs false
def RB (e : TypeId) (w : World) (g c : Nat) (xs : List Int) : Prop :=
  ∃ cur fr, w.heap[g]? = some (.cells cur e fr) ∧ (fr = (0, 0) ∨ fr = (cur.size, cur.size + 1)) ∧ xs.length ≤ c ∧ c ≤ maxLen ∧ cur.size = c ∧ ∀ j, j < xs.length → cur[j]? = some (.int .u8 (xs.getD j 0))
def RowB (e : TypeId) (w : World) (base : Nat) (v : Value) (xs : List Int) : Prop :=
  (v = .slice none 0 0 ∧ xs = []) ∨ ∃ g c, v = .slice (some ⟨g, 0, none⟩) xs.length c ∧ base ≤ g ∧ RB e w g c xs
theorem RB_lt {e : TypeId} {w : World} {g c : Nat} {xs : List Int} (h : RB e w g c xs) : g < w.heap.size := by
  obtain ⟨cur, fr, hh, _⟩ := h
  exact (Array.getElem?_eq_some_iff.1 hh).1
theorem RB_step {e : TypeId} {w w1 : World} {g c : Nat} {xs : List Int} (h : RB e w g c xs) (hb : w1.heap[g]? = w.heap[g]?) : RB e w1 g c xs := by
  obtain ⟨cur, fr, hh, r⟩ := h
  exact ⟨cur, fr, hb.trans hh, r⟩
theorem RB_below {e : TypeId} {w w1 : World} {g c : Nat} {xs : List Int} (h : RB e w g c xs) (hb : Below w.heap.size w w1) : RB e w1 g c xs := RB_step h (hb.block g (RB_lt h))
theorem RB_cell {e : TypeId} {w : World} {g c : Nat} {xs : List Int} (h : RB e w g c xs) (j : Nat) (hj : j < xs.length) : w.cell? ⟨g, j, none⟩ = some (.int .u8 (xs.getD j 0)) := by
  obtain ⟨cur, fr, hh, _, _, _, _, hc⟩ := h
  rw [cell_of_row w g j cur e fr hh]
  exact hc j hj
theorem RB_free {e : TypeId} {w : World} {g c : Nat} {xs : List Int} (h : RB e w g c xs) (j : Nat) (hj : j < xs.length) : w.frozen? ⟨g, j, none⟩ = false := by
  obtain ⟨cur, fr, hh, hf, hl, _, hs, _⟩ := h
  unfold World.frozen?
  rw [hh]
  rcases hf with rfl | rfl <;> simp <;> omega
theorem RB_C {e : TypeId} {w : World} {g c : Nat} {xs : List Int} (h : RB e w g c xs) : Kd.C (Kd.int .u8) w (some ⟨g, 0, none⟩) xs.length xs := by
  refine Kd.C_of_reads (d := (0 : Int)) (h1 := fun _ => rfl) ⟨rfl, ?_, fun _ => ⟨_, rfl, fun j hj => ?_⟩⟩
  · obtain ⟨_, _, _, _, hl, hm, _⟩ := h
    unfold maxLen at hm
    omega
  · rw [add_plain]
    exact RB_cell h j hj
theorem RB_le {e : TypeId} {w : World} {g c : Nat} {xs : List Int} (h : RB e w g c xs) : xs.length ≤ c := by
  obtain ⟨_, _, _, _, hl, _⟩ := h
  exact hl
theorem RowB_below {e : TypeId} {w w1 : World} {base : Nat} {v : Value} {xs : List Int} (h : RowB e w base v xs) (hb : Below w.heap.size w w1) : RowB e w1 base v xs := by
  rcases h with h | ⟨g, c, rfl, hg, hr⟩
  · exact .inl h
  · exact .inr ⟨g, c, rfl, hg, RB_below hr hb⟩
theorem RowB_lower {e : TypeId} {w : World} {base base' : Nat} {v : Value} {xs : List Int} (h : RowB e w base v xs) (hb : base' ≤ base) : RowB e w base' v xs := by
  rcases h with h | ⟨g, c, rfl, hg, hr⟩
  · exact .inl h
  · exact .inr ⟨g, c, rfl, Nat.le_trans hb hg, hr⟩
theorem RowB_reads {e : TypeId} {w : World} {base : Nat} {v : Value} {xs : List Int} (h : RowB e w base v xs) : ∃ A c, v = .slice A xs.length c ∧ xs.length ≤ c ∧ Kd.C (Kd.int .u8) w A xs.length xs := by
  rcases h with ⟨rfl, rfl⟩ | ⟨g, c, rfl, hg, hr⟩
  · exact ⟨none, 0, rfl, Nat.le_refl _, Kd.C_nil _ _⟩
  · exact ⟨_, c, rfl, RB_le hr, RB_C hr⟩
theorem RowB_V {e : TypeId} {w : World} {base base' : Nat} {v : Value} {xs : List Int} (h : RowB e w base v xs) : Kd.V (Kd.int .u8) e w base' (fun k_ => base ≤ k_) v xs := by
  rcases h with ⟨rfl, rfl⟩ | ⟨g, c, rfl, hg, hr⟩
  · exact Kd.V_nil _ _ _ _ _
  · exact Kd.V_mk (RB_le hr) (fun W' hW => RB_C (RB_step hr (hW g hg (RB_lt hr))))
theorem RowB_of_R {e : TypeId} {w : World} {base : Nat} {ok : Nat → Prop} {v : Value} {xs : List Int} (h : Kd.R (Kd.int .u8) e w base ok v xs) : RowB e w base v xs := by
  obtain ⟨hlen, h2⟩ := Kd.own_of_R h
  rcases h2 with ⟨rfl, h0⟩ | ⟨g, cap, cur, rfl, hg, hh, hn, hm, hs, ht⟩
  · exact .inl ⟨rfl, List.length_eq_zero_iff.1 h0⟩
  · refine .inr ⟨g, cap, rfl, hg, cur, (0, 0), hh, .inl rfl, hn, hm, by omega, fun j hj => ?_⟩
    have h3 : (cur.toList.take (xs.length * 1))[j]? = (encs (Value.int .u8) xs)[j]? := by rw [ht]
    rw [List.getElem?_take_of_lt (by omega)] at h3
    rw [← Array.getElem?_toList, h3]
    unfold encs
    simp [List.getElem?_map, List.getElem?_eq_getElem hj, List.getD]
theorem conv_event {P : Program} {ops : Array Oper} {rest : List Oper} {o : Oper} {a : Act} {Q : Exit → Act → World → Prop} {W : World} (hgd : o.guard = none) {src dst e : TypeId} {x : Operand} {s : ByteArray} {u : TypeDesc}
    (ho : o.op = .convert src dst x) (hx : a.eval x = .string s) (hs : P.underlying src = some u) (hd : P.underlying dst = some (.slice e)) (he : P.underlying e = some (.int .u8)) (hmax : s.size ≤ maxLen)
    (h : ∀ g c w1, g = W.heap.size → RB e w1 g c (bytesOf s) → Below W.heap.size W w1 → wpList P ops Q rest (a.put o.dst (.slice (some ⟨g, 0, none⟩) s.size c)) w1) : wpList P ops Q (o :: rest) a W := by
  have hc1 := grownCap_ge W s.size 0 e
  have hc2 := grownCap_le_maxLen W s.size 0 e hmax
  have hcs : (Lib.bytesCells W e s).size = grownCap W s.size 0 e := by
    unfold Lib.bytesCells
    have : s.data.size = s.size := rfl
    simp
    omega
  refine Kd.event_run hgd (v := .slice (some ⟨W.heap.size, 0, none⟩) s.size (grownCap W s.size 0 e)) (w1 := Lib.bytesWorld W e s) ?_ (h W.heap.size _ _ rfl ⟨_, _, Lib.bytesWorld_at_new W e s, .inr rfl, by rw [bytesOf_length]; exact hc1, hc2, hcs, fun j hj => ?_⟩ (bytes_below (Below.refl _ _) (Nat.le_refl _) e s))
  · unfold execOp
    rw [ho]
    simp only [hx]
    have hr := print_bytes (P := P) src dst e hs hd he s W
    simp [hr, Result.andThen]
  · rw [bytesOf_length] at hj
    have h1 := Lib.bytesWorld_cell W e s j hj
    rw [cell_of_row _ _ _ _ _ _ (Lib.bytesWorld_at_new W e s)] at h1
    rw [h1]
    congr 2
    have h' : j < s.data.toList.length := by rw [data_length]; exact hj
    simp [bytesOf, List.getD_eq_getElem?_getD, List.getElem?_eq_getElem h']
theorem w64 {i : Int} (h0 : 0 ≤ i) (h : i ≤ 140737488351232) : wrap64 (i + 1) = i + 1 := by
  unfold wrap64
  omega
theorem drop_bt (s : ByteArray) (n : Nat) (h : n < s.size) : (bytesOf s).drop n = bt s (n : Int) :: (bytesOf s).drop (n + 1) := by
  have hl : n < (bytesOf s).length := by rw [bytesOf_length]; exact h
  rw [List.drop_eq_getElem_cons hl]
  congr 1
  rw [← rd_bytesOf]
  unfold rd
  simp [List.getD, hl]
theorem drop_rd (l : List Int) (n : Nat) (h : n < l.length) : l.drop n = rd l (n : Int) :: l.drop (n + 1) := by
  rw [List.drop_eq_getElem_cons h]
  congr 1
  unfold rd
  simp [List.getD, h]
theorem w64id {i : Int} (h0 : -9223372036854775808 ≤ i) (h : i ≤ 9223372036854775807) : wrap64 i = i := by
  unfold wrap64
  omega
theorem rd_nat (l : List Int) (n : Nat) (h : n < l.length) : rd l (n : Int) = l[n] := by
  unfold rd
  simp [List.getD, h]
theorem rd_mem (l : List Int) (n : Nat) (h : n < l.length) : rd l (n : Int) ∈ l := by
  rw [rd_nat l n h]
  exact List.getElem_mem h
theorem later {α : Type} {g : Nat → Option α} {r : α} {k0 : Nat} (hm : ∀ k, LeO (g k) (g (k + 1))) (h : g k0 = some r) (k : Nat) (hk : k0 ≤ k) : g k = some r :=
  at_rounds hm hk h
theorem rd_set_same (y : List Int) (n : Nat) (v : Int) (h : n < y.length) : rd (y.set n v) (n : Int) = v := by
  rw [rd_nat _ _ (by simpa using h)]
  simp
theorem rd_set_other (y : List Int) (n j : Nat) (v : Int) (h : j ≠ n) : rd (y.set n v) (j : Int) = rd y (j : Int) := by
  unfold rd
  simp [List.getD, List.getElem?_set, Ne.symm h]
theorem toNat_cast (n : Nat) : ((n : Int) : Int).toNat = n := by simp
def isByte (c : Int) : Prop := 0 ≤ c ∧ c ≤ 255
theorem bytesOf_inj {s t : ByteArray} (h : bytesOf s = bytesOf t) : s = t := by
  have e : s.data.toList = t.data.toList := by
    unfold bytesOf at h
    have := congrArg (List.map fun n : Int => UInt8.ofNat n.toNat) h
    simpa [List.map_map, Function.comp_def] using this
  cases s; cases t
  congr 1
  exact Array.toList_inj.1 e
theorem bytesOf_append (s t : ByteArray) : bytesOf (s ++ t) = bytesOf s ++ bytesOf t := by
  unfold bytesOf
  simp
theorem bytesOf_strOfNums (l : List Int) (h : ∀ c ∈ l, isByte c) : bytesOf (strOfNums l) = l := by
  unfold bytesOf
  rw [strOfNums_data, List.map_map]
  have : ∀ c ∈ l, ((fun b : UInt8 => (b.toNat : Int)) ∘ fun n : Int => UInt8.ofNat n.toNat) c = c := by
    intro c hc
    obtain ⟨h0, h1⟩ := h c hc
    have e : (UInt8.ofNat c.toNat).toNat = c.toNat := by simp [UInt8.toNat_ofNat']; omega
    simp only [Function.comp, e]
    omega
  rw [List.map_congr_left this]
  simp
theorem size_eq (s : ByteArray) : s.size = (bytesOf s).length := (bytesOf_length s).symm
theorem bt_eq (s : ByteArray) (i : Int) : bt s i = rd (bytesOf s) i := (rd_bytesOf s i).symm
end Go.Proofs.YtfiieppnpmodoaaDoor.Q
end
section
namespace Go.Proofs.YtfiieppnpmodoaaDoor.Q
open Go.RowKit Go.Proofs.YtfiieppnpmodoaaDoorW.PrintWords Go.Proofs.YtfiieppnpmodoaaDoorW.PrintLast Go.Proofs.YtfiieppnpmodoaaDoorW.PrintMore
attribute [local go_sem] max2_int min2_int max_two min_two max_three min_three max_four min_four
set_option linter.unusedVariables false
set_option linter.unusedSimpArgs false
def spec_l01Money.f (a0 : Int) : Option (Bool) := if a0 ≥ 0 then (some (decide (a0 ≤ 4611686018427387904))) else (some false)
set_option maxHeartbeats 8000000 in
set_option maxRecDepth 100000 in
theorem spec_l01Money.calls (a0 : Int) (r : Bool) (w : World) (h : spec_l01Money.f a0 = some r) :
  Calls Tryd.prog 112 #[.int .i64 a0] w fun e w' => e = .returned (.bool r) ∧ Drawn0 w w' := by
 have H : (if a0 ≥ 0 then (some (decide (a0 ≤ 4611686018427387904))) else (some false)) = some r := h
 clear h
 by_cases c2 : a0 ≥ 0
 ·rw [if_pos c2] at H
  have c2b0 : decide (0 ≤ a0) = true := decide_eq_true c2
  clear c2
  obtain rfl := Option.some.inj H
  go_enter Tryd.func112, Tryd.ntmps112
  go_wp2
  go_ret
  exact ⟨by first | rfl | (simp; done) | (simp [*]; done) | (simp [i64_w, IntKind.wrap_u8, e256_]; done) | (simp; generalize ByteArray.toList _ = zz_; cases zz_ <;> rfl), by repeat (first | exact Drawn0.refl _ | apply Drawn0.step)⟩
 ·rw [if_neg c2] at H
  have c2b0 : decide (0 ≤ a0) = false := decide_eq_false c2
  clear c2
  obtain rfl := Option.some.inj H
  go_enter Tryd.func112, Tryd.ntmps112
  go_wp2
  go_ret
  exact ⟨by first | rfl | (simp; done) | (simp [*]; done) | (simp [i64_w, IntKind.wrap_u8, e256_]; done) | (simp; generalize ByteArray.toList _ = zz_; cases zz_ <;> rfl), by repeat (first | exact Drawn0.refl _ | apply Drawn0.step)⟩
def spec_NumText.l0 : Nat → Int → ByteArray → Option (ByteArray)
 | 0, _, _ => none
 | k + 1, x0, x3 => if x0 > 9 then ((some (([(wrap64 (48 + (Int.tmod x0 10))) % 256] : List Int) : List Int)).bind fun y283 => (if (strOfNums y283).size + x3.size ≤ 9223372036854775807 then (spec_NumText.l0 k (wrap64 (Int.tdiv x0 10)) ((strOfNums y283) ++ x3)) else (none))) else ((some (([(wrap64 (48 + x0)) % 256] : List Int) : List Int)).bind fun y286 => (if (strOfNums y286).size + x3.size ≤ 9223372036854775807 then (some ((strOfNums y286) ++ x3)) else (none)))
def spec_NumText.f (k : Nat) (a0 : Int) : Option (ByteArray) := (spec_l01Money.f a0).bind fun t282 => (if t282 = true then (spec_NumText.l0 k a0 (⟨#[]⟩ : ByteArray)) else (some (⟨#[]⟩ : ByteArray)))
set_option maxHeartbeats 8000000 in
set_option maxRecDepth 100000 in
theorem spec_NumText.calls (k : Nat) (a0 : Int) (r : ByteArray) (w : World) (h : spec_NumText.f k a0 = some r) :
  Calls Tryd.prog 100 #[.int .i64 a0] w fun e w' => e = .returned (.string r) ∧ Below w.heap.size w w' := by
 have HB := Aside0.mk (Below.refl w.heap.size w)
 have H : ((spec_l01Money.f a0).bind fun t282 => (if t282 = true then (spec_NumText.l0 k a0 (⟨#[]⟩ : ByteArray)) else (some (⟨#[]⟩ : ByteArray)))) = some r := h
 clear h
 replace H := Option.bind_eq_some_iff.mp H
 obtain ⟨t282, A20, H⟩ := H
 replace H : (if t282 = true then (spec_NumText.l0 k a0 (⟨#[]⟩ : ByteArray)) else (some (⟨#[]⟩ : ByteArray))) = some r := H
 have A2 := Aside0.mk A20
 clear A20
 by_cases c3 : t282 = true
 ·subst c3
  have H1 : (spec_NumText.l0 k a0 (⟨#[]⟩ : ByteArray)) = some r := by rw [if_pos rfl] at H; exact H
  clear H
  have H := H1
  clear H1
  have H' := Aside0.mk H
  clear H
  go_enter Tryd.func100, Tryd.ntmps100
  go_wp2_with (first | ((with_reducible refine gate_callee (f := 112) rfl ?_); refine goesM_ (some 5) rfl rfl Tryd.func112 (by kernel_rfl) rfl #[.int .i64 a0] rfl ?_; (with_reducible refine (spec_l01Money.calls a0 true _ A2.out).mono ?_); rintro e w' ⟨rfl, ⟨nd, rfl⟩⟩; refine ⟨_, rfl, ?_⟩))
  go_loopg [0, 3] k (fun kq v0 v3 w' => ∃ (x0_1 : Int) (x3_1 : ByteArray), v0 = .int .i64 x0_1 ∧ v3 = .string x3_1 ∧ Aside0 (spec_NumText.l0 kq x0_1 x3_1 = some r) ∧ Aside0 (kq ≤ k) ∧ Aside0 (Below w.heap.size w w'))
  case atStart => exact ⟨(a0), ((⟨#[]⟩ : ByteArray)), (by first | rfl | (simp; done) | (simp [*]; done) | (simp [i64_w, IntKind.wrap_u8, e256_]; done) | (simp; generalize ByteArray.toList _ = zz_; cases zz_ <;> rfl)), (by first | rfl | (simp; done) | (simp [*]; done) | (simp [i64_w, IntKind.wrap_u8, e256_]; done) | (simp; generalize ByteArray.toList _ = zz_; cases zz_ <;> rfl)), H', ⟨Nat.le_refl _⟩, ⟨bB⟩⟩
  case round =>
   clear H'
   try clear c1
   try clear p2
   try clear c3
   obtain ⟨x0_1, x3_1, rfl, rfl, HA, HK1, HB⟩ := hrel
   cases gk with
   | zero => exact absurd HA.out (by simp [spec_NumText.l0])
   | succ k1 =>
    have H := HA.out
    clear HA
    simp only [spec_NumText.l0] at H
    by_cases c4 : x0_1 > 9
    ·rw [if_pos c4] at H
     have c4b0 : decide (9 < x0_1) = true := decide_eq_true c4
     clear c4
     obtain ⟨y283, hy283⟩ : ∃ y_ : List Int, y_ = (([(wrap64 (48 + (Int.tmod x0_1 10))) % 256] : List Int)) := ⟨_, rfl⟩
     replace H : (if (strOfNums y283).size + x3_1.size ≤ 9223372036854775807 then (spec_NumText.l0 k1 (wrap64 (Int.tdiv x0_1 10)) ((strOfNums y283) ++ x3_1)) else (none)) = some r := by first | (rw [hy283]; with_reducible exact H) | (have H2_ := (Option.bind_some _ _).symm.trans H; rw [hy283]; with_reducible exact H2_) | (have H2_ := (Option.bind_some _ _).symm.trans H; with_reducible exact H2_) | with_reducible exact H | (rw [hy283]; exact H) | exact H
     have Ny283 := Aside0.mk hy283
     clear hy283
     by_cases c5 : (strOfNums y283).size + x3_1.size ≤ 9223372036854775807
     ·rw [if_pos c5] at H
      have c5b0 := eq_true c5
      have c5b1 : decide ((strOfNums y283).size + x3_1.size ≤ 9223372036854775807) = true := decide_eq_true c5
      try have c5b2 : (9223372036854775807 < (strOfNums y283).size + x3_1.size) = False := eq_false (Nat.not_lt.2 c5)
      try (have c5b3 := c5b2; simp only [ByteArray.size_append, ByteArray.size_extract, Nat.sub_zero, Nat.min_self] at c5b3)
      have H' := Aside0.mk H
      clear H
      go_wp2_with (first | ((with_reducible refine gate_dst (N := 13) rfl ?_); refine Kd.R_lit (Kd.int .u8) _ 5 ?hg (N := 13) ?hd (xs := ([(wrap64 (48 + (Int.tmod x0_1 10))) % 256] : List Int)) (inner := [.int .u8 ((wrap64 (48 + (Int.tmod x0_1 10))) % 256)]) (ok := fun _ => True) (okp := fun _ => True) ?hr ?hp (fun _ hk => hk) trivial (Below.refl _ _) (Nat.le_refl _) (by simp) ?_; (case hd => rfl); (case hg => rfl); (case hr => first | (go_simp; done) | (go_simp; rfl)); (case hp => exact (Reps.one (show Kd.M (Kd.int .u8) _ _ _ ((wrap64 (48 + (Int.tmod x0_1 10))) % 256) [.int .u8 ((wrap64 (48 + (Int.tmod x0_1 10))) % 256)] from rfl) (Reps.none _ _))); intro v284 w6 ho7 hb hg_ hnew_; clear hg_ hnew_; (first | rw [← Ny283.out] at ho7 | (simp only [Int.reduceToNat] at ho7; rw [← Ny283.out] at ho7)); have n0_ := Aside0.mk (Kd.R_lower ho7 (below_size bB)); have n1_ := Aside0.mk (below_step bB hb); clear HB; have HO285 := n0_; have HB := n1_; clear n0_ n1_; clear hb ho7; have hcv8 := own_string (P := Tryd.prog) Tryd.underlying22 Tryd.underlying5 Tryd.underlying9 (Kd.own_of_R HO285.out)))
      go_roundg k1
      case measure => have := HK1.out; omega
      case rel => exact ⟨(wrap64 (Int.tdiv x0_1 10)), ((strOfNums y283) ++ x3_1), (by first | rfl | (simp; done) | (simp [*]; done) | (simp [i64_w, IntKind.wrap_u8, e256_]; done) | (simp; generalize ByteArray.toList _ = zz_; cases zz_ <;> rfl)), (by first | rfl | (simp; done) | (simp [*]; done) | (simp [i64_w, IntKind.wrap_u8, e256_]; done) | (simp; generalize ByteArray.toList _ = zz_; cases zz_ <;> rfl)), H', ⟨by have := HK1.out; omega⟩, ⟨bB⟩⟩
     ·rw [if_neg c5] at H
      exact absurd H (by simp)
    ·rw [if_neg c4] at H
     have c4b0 : decide (9 < x0_1) = false := decide_eq_false c4
     clear c4
     obtain ⟨y286, hy286⟩ : ∃ y_ : List Int, y_ = (([(wrap64 (48 + x0_1)) % 256] : List Int)) := ⟨_, rfl⟩
     replace H : (if (strOfNums y286).size + x3_1.size ≤ 9223372036854775807 then (some ((strOfNums y286) ++ x3_1)) else (none)) = some r := by first | (rw [hy286]; with_reducible exact H) | (have H2_ := (Option.bind_some _ _).symm.trans H; rw [hy286]; with_reducible exact H2_) | (have H2_ := (Option.bind_some _ _).symm.trans H; with_reducible exact H2_) | with_reducible exact H | (rw [hy286]; exact H) | exact H
     have Ny286 := Aside0.mk hy286
     clear hy286
     by_cases c9 : (strOfNums y286).size + x3_1.size ≤ 9223372036854775807
     ·rw [if_pos c9] at H
      have c9b0 := eq_true c9
      have c9b1 : decide ((strOfNums y286).size + x3_1.size ≤ 9223372036854775807) = true := decide_eq_true c9
      try have c9b2 : (9223372036854775807 < (strOfNums y286).size + x3_1.size) = False := eq_false (Nat.not_lt.2 c9)
      try (have c9b3 := c9b2; simp only [ByteArray.size_append, ByteArray.size_extract, Nat.sub_zero, Nat.min_self] at c9b3)
      obtain rfl := Option.some.inj H
      go_wp2_with (first | ((with_reducible refine gate_dst (N := 22) rfl ?_); refine Kd.R_lit (Kd.int .u8) _ 5 ?hg (N := 22) ?hd (xs := ([(wrap64 (48 + x0_1)) % 256] : List Int)) (inner := [.int .u8 ((wrap64 (48 + x0_1)) % 256)]) (ok := fun _ => True) (okp := fun _ => True) ?hr ?hp (fun _ hk => hk) trivial (Below.refl _ _) (Nat.le_refl _) (by simp) ?_; (case hd => rfl); (case hg => rfl); (case hr => first | (go_simp; done) | (go_simp; rfl)); (case hp => exact (Reps.one (show Kd.M (Kd.int .u8) _ _ _ ((wrap64 (48 + x0_1)) % 256) [.int .u8 ((wrap64 (48 + x0_1)) % 256)] from rfl) (Reps.none _ _))); intro v287 w10 ho11 hb hg_ hnew_; clear hg_ hnew_; (first | rw [← Ny286.out] at ho11 | (simp only [Int.reduceToNat] at ho11; rw [← Ny286.out] at ho11)); have n0_ := Aside0.mk (Kd.R_lower ho11 (below_size bB)); have n1_ := Aside0.mk (below_step bB hb); clear HB; have HO288 := n0_; have HB := n1_; clear n0_ n1_; clear hb ho11; have hcv12 := own_string (P := Tryd.prog) Tryd.underlying22 Tryd.underlying5 Tryd.underlying9 (Kd.own_of_R HO288.out)))
      go_ret
      exact ⟨by first | rfl | (simp [errW_none, errW_some] <;> rfl) | (simp [*, errW_none, errW_some] <;> rfl), bB⟩
     ·rw [if_neg c9] at H
      exact absurd H (by simp)
 ·replace c3 := Bool.eq_false_iff.mpr c3
  subst c3
  have H1 : (some (⟨#[]⟩ : ByteArray)) = some r := by rw [if_neg (show ¬ (false = true) by decide)] at H; exact H
  clear H
  have H := H1
  clear H1
  obtain rfl := Option.some.inj H
  go_enter Tryd.func100, Tryd.ntmps100
  go_wp2_with (first | ((with_reducible refine gate_callee (f := 112) rfl ?_); refine goesM_ (some 5) rfl rfl Tryd.func112 (by kernel_rfl) rfl #[.int .i64 a0] rfl ?_; (with_reducible refine (spec_l01Money.calls a0 false _ A2.out).mono ?_); rintro e w' ⟨rfl, ⟨nd, rfl⟩⟩; refine ⟨_, rfl, ?_⟩))
  go_ret
  exact ⟨by first | rfl | (simp [errW_none, errW_some] <;> rfl) | (simp [*, errW_none, errW_some] <;> rfl), bB⟩
end Go.Proofs.YtfiieppnpmodoaaDoor.Q
end
section
namespace Go.Proofs
open Go.Shelf
def Tryd.laysM171_ren : Go.Shelf.Ren := ⟨fun | 171 => 77 | 243 => 96 | 246 => 106 | 283 => 115 | 284 => 116 | 285 => 117 | 286 => 118 | 129 => 123 | 317 => 122 | 318 => 124 | 319 => 125 | 320 => 126 | 337 => 129 | 338 => 130 | n => n, fun | 3 => 3 | 9 => 9 | 2 => 2 | 4 => 4 | 171 => 135 | 0 => 0 | 53 => 120 | 37 => 22 | 5 => 5 | 173 => 138 | 212 => 147 | 51 => 117 | 20 => 20 | 213 => 148 | 46 => 67 | 232 => 155 | 233 => 156 | n => n, fun | 17 => 3 | 18 => 4 | 19 => 5 | n => n⟩
theorem Tryd.laysM171 : Go.Proofs.LaysM.n171 Tryd.prog Tryd.laysM171_ren := {
  mixed := by kernel_rfl
  f129 := Tryd.func123.trans (congrArg some (by kernel_rfl))
  f171 := Tryd.func77.trans (congrArg some (by kernel_rfl))
  f243 := Tryd.func96.trans (congrArg some (by kernel_rfl))
  f246 := Tryd.func106.trans (congrArg some (by kernel_rfl))
  f283 := Tryd.func115.trans (congrArg some (by kernel_rfl))
  f284 := Tryd.func116.trans (congrArg some (by kernel_rfl))
  f285 := Tryd.func117.trans (congrArg some (by kernel_rfl))
  f286 := Tryd.func118.trans (congrArg some (by kernel_rfl))
  f317 := Tryd.func122.trans (congrArg some (by kernel_rfl))
  f318 := Tryd.func124.trans (congrArg some (by kernel_rfl))
  f319 := Tryd.func125.trans (congrArg some (by kernel_rfl))
  f320 := Tryd.func126.trans (congrArg some (by kernel_rfl))
  f337 := Tryd.func129.trans (congrArg some (by kernel_rfl))
  f338 := Tryd.func130.trans (congrArg some (by kernel_rfl))
  t0 := Tryd.underlying0
  a0 := Tryd.isAgg0
  z0 := Tryd.sizeOf0
  v0 := Tryd.zeroValue0
  t2 := Tryd.underlying2
  a2 := Tryd.isAgg2
  z2 := Tryd.sizeOf2
  v2 := Tryd.zeroValue2
  t3 := Tryd.underlying3
  a3 := Tryd.isAgg3
  z3 := Tryd.sizeOf3
  v3 := Tryd.zeroValue3
  t4 := Tryd.underlying4
  a4 := Tryd.isAgg4
  z4 := Tryd.sizeOf4
  v4 := Tryd.zeroValue4
  t5 := Tryd.underlying5
  a5 := Tryd.isAgg5
  z5 := Tryd.sizeOf5
  v5 := Tryd.zeroValue5
  t9 := Tryd.underlying9
  a9 := Tryd.isAgg9
  z9 := Tryd.sizeOf9
  v9 := Tryd.zeroValue9
  t20 := Tryd.underlying20
  a20 := Tryd.isAgg20
  z20 := Tryd.sizeOf20
  v20 := Tryd.zeroValue20
  t37 := Tryd.underlying22
  a37 := Tryd.isAgg22
  z37 := Tryd.sizeOf22
  v37 := Tryd.zeroValue22
  t46 := Tryd.underlying67
  a46 := Tryd.isAgg67
  z46 := Tryd.sizeOf67
  v46 := Tryd.zeroValue67
  t51 := Tryd.underlying117
  a51 := Tryd.isAgg117
  z51 := Tryd.sizeOf117
  v51 := Tryd.zeroValue117
  t53 := Tryd.underlying120
  a53 := Tryd.isAgg120
  z53 := Tryd.sizeOf120
  v53 := Tryd.zeroValue120
  t171 := Tryd.underlying135
  a171 := Tryd.isAgg135
  z171 := Tryd.sizeOf135
  v171 := Tryd.zeroValue135
  t173 := Tryd.underlying138
  a173 := Tryd.isAgg138
  z173 := Tryd.sizeOf138
  v173 := Tryd.zeroValue138
  t212 := Tryd.underlying147
  a212 := Tryd.isAgg147
  z212 := Tryd.sizeOf147
  v212 := Tryd.zeroValue147
  t213 := Tryd.underlying148
  a213 := Tryd.isAgg148
  z213 := Tryd.sizeOf148
  t232 := Tryd.underlying155
  a232 := Tryd.isAgg155
  z232 := Tryd.sizeOf155
  v232 := Tryd.zeroValue155
  t233 := Tryd.underlying156
  a233 := Tryd.isAgg156
  z233 := Tryd.sizeOf156
  v233 := Tryd.zeroValue156
  g17 := by kernel_rfl
  g18 := by kernel_rfl
  g19 := by kernel_rfl
  i0 := by kernel_rfl
  i2 := by kernel_rfl
  i3 := by kernel_rfl
  i4 := by kernel_rfl
  i5 := by kernel_rfl
  i9 := by kernel_rfl
  i20 := by kernel_rfl
  i37 := by kernel_rfl
  i46 := by kernel_rfl
  i51 := by kernel_rfl
  i53 := by kernel_rfl
  i171 := by kernel_rfl
  i173 := by kernel_rfl
  i212 := by kernel_rfl
  i232 := by kernel_rfl
  i233 := by kernel_rfl
  m17 := by kernel_rfl
  m18 := by kernel_rfl
  m19 := by kernel_rfl }
open Go.RowKit Go.Sort Go.Lib in
theorem Tryd.strconv_Itoa (n : Int) (h0 : -9223372036854775808 ≤ n) (h1 : n ≤ 9223372036854775807) (w : World) (htab : Lib.TabIs Tryd.prog w "internal/strconv.uint64pow10" .u64 Lib.pow10Tab) :
    Calls Tryd.prog 77 #[.int .i64 n] w fun e w' => e = .returned (.string ⟨(Lib.itoa n).toArray⟩) ∧ ∃ k os, w' = grow (w.drewN k) os := Any.strconv_Itoa Tryd.laysM171 n h0 h1 w htab
def Tryd.lays105_ren : Go.Shelf.Ren := ⟨fun | 105 => 68 | 212 => 90 | 99 => 91 | 165 => 92 | 166 => 93 | 170 => 94 | 169 => 95 | 263 => 101 | 264 => 102 | 206 => 103 | 240 => 104 | 241 => 105 | 276 => 113 | 277 => 114 | n => n, fun | 9 => 9 | 3 => 3 | 4 => 4 | 20 => 20 | 0 => 0 | 46 => 67 | 109 => 107 | 5 => 5 | 72 => 112 | 76 => 99 | 51 => 117 | 146 => 118 | 53 => 120 | 148 => 121 | 70 => 110 | 37 => 22 | 75 => 98 | 127 => 123 | 164 => 132 | 80 => 115 | n => n, fun | n => n⟩
theorem Tryd.lays105 : Go.Proofs.Lays.n105 Tryd.prog Tryd.lays105_ren := {
  mixed := by kernel_rfl
  f99 := Tryd.func91.trans (congrArg some (by kernel_rfl))
  f105 := Tryd.func68.trans (congrArg some (by kernel_rfl))
  f165 := Tryd.func92.trans (congrArg some (by kernel_rfl))
  f166 := Tryd.func93.trans (congrArg some (by kernel_rfl))
  f169 := Tryd.func95.trans (congrArg some (by kernel_rfl))
  f170 := Tryd.func94.trans (congrArg some (by kernel_rfl))
  f206 := Tryd.func103.trans (congrArg some (by kernel_rfl))
  f212 := Tryd.func90.trans (congrArg some (by kernel_rfl))
  f240 := Tryd.func104.trans (congrArg some (by kernel_rfl))
  f241 := Tryd.func105.trans (congrArg some (by kernel_rfl))
  f263 := Tryd.func101.trans (congrArg some (by kernel_rfl))
  f264 := Tryd.func102.trans (congrArg some (by kernel_rfl))
  f276 := Tryd.func113.trans (congrArg some (by kernel_rfl))
  f277 := Tryd.func114.trans (congrArg some (by kernel_rfl))
  t0 := Tryd.underlying0
  a0 := Tryd.isAgg0
  z0 := Tryd.sizeOf0
  v0 := Tryd.zeroValue0
  t3 := Tryd.underlying3
  a3 := Tryd.isAgg3
  z3 := Tryd.sizeOf3
  v3 := Tryd.zeroValue3
  t4 := Tryd.underlying4
  a4 := Tryd.isAgg4
  z4 := Tryd.sizeOf4
  v4 := Tryd.zeroValue4
  t5 := Tryd.underlying5
  a5 := Tryd.isAgg5
  z5 := Tryd.sizeOf5
  v5 := Tryd.zeroValue5
  t9 := Tryd.underlying9
  a9 := Tryd.isAgg9
  z9 := Tryd.sizeOf9
  v9 := Tryd.zeroValue9
  t20 := Tryd.underlying20
  a20 := Tryd.isAgg20
  z20 := Tryd.sizeOf20
  v20 := Tryd.zeroValue20
  t37 := Tryd.underlying22
  a37 := Tryd.isAgg22
  z37 := Tryd.sizeOf22
  v37 := Tryd.zeroValue22
  t46 := Tryd.underlying67
  a46 := Tryd.isAgg67
  z46 := Tryd.sizeOf67
  v46 := Tryd.zeroValue67
  t51 := Tryd.underlying117
  a51 := Tryd.isAgg117
  z51 := Tryd.sizeOf117
  v51 := Tryd.zeroValue117
  t53 := Tryd.underlying120
  a53 := Tryd.isAgg120
  z53 := Tryd.sizeOf120
  v53 := Tryd.zeroValue120
  t70 := Tryd.underlying110
  a70 := Tryd.isAgg110
  z70 := Tryd.sizeOf110
  v70 := Tryd.zeroValue110
  t72 := Tryd.underlying112
  a72 := Tryd.isAgg112
  z72 := Tryd.sizeOf112
  v72 := Tryd.zeroValue112
  t75 := Tryd.underlying98
  a75 := Tryd.isAgg98
  z75 := Tryd.sizeOf98
  v75 := Tryd.zeroValue98
  t76 := Tryd.underlying99
  a76 := Tryd.isAgg99
  z76 := Tryd.sizeOf99
  v76 := Tryd.zeroValue99
  t109 := Tryd.underlying107
  a109 := Tryd.isAgg107
  z109 := Tryd.sizeOf107
  v109 := Tryd.zeroValue107
  t127 := Tryd.underlying123
  a127 := Tryd.isAgg123
  z127 := Tryd.sizeOf123
  v127 := Tryd.zeroValue123
  t146 := Tryd.underlying118
  a146 := Tryd.isAgg118
  z146 := Tryd.sizeOf118
  v146 := Tryd.zeroValue118
  t148 := Tryd.underlying121
  a148 := Tryd.isAgg121
  z148 := Tryd.sizeOf121
  v148 := Tryd.zeroValue121
  t164 := Tryd.underlying132
  a164 := Tryd.isAgg132
  z164 := Tryd.sizeOf132
  v164 := Tryd.zeroValue132 }
theorem Tryd.Builder_Extra_105 : Builder.Extra Tryd.prog Tryd.lays105_ren := {
  sizeBuilder := by kernel_rfl
  liesBuilder := by kernel_rfl
  t5 := Tryd.underlying5
  a5 := Tryd.isAgg5
  z5 := Tryd.sizeOf5
  v5 := Tryd.zeroValue5
  infoByte := by kernel_rfl
  cellsByte := by kernel_rfl
  sizeByte := by kernel_rfl
  neB5 := by decide }
open Go.RowKit Go.Lib in
theorem Tryd.strings_Repeat (s : ByteArray) (c : Nat) (w : World) (hc : c ≤ 9223372036854775807) (hlen : s.size * c ≤ 140737488355328) :
    Calls Tryd.prog 68 #[.string s, .int .i64 c] w fun e w' => e = .returned (.string ⟨(Lib.repeatL s.data.toList c).toArray⟩) ∧ Below w.heap.size w w' := Any.strings_Repeat Tryd.lays105 Tryd.Builder_Extra_105 s c w hc hlen
end Go.Proofs
end
section
namespace Go.Proofs.YtfiieppnpmodoaaDoor.Q
open Go.RowKit Go.Proofs.YtfiieppnpmodoaaDoorW.PrintWords Go.Proofs.YtfiieppnpmodoaaDoorW.PrintLast Go.Proofs.YtfiieppnpmodoaaDoorW.PrintMore
def strconv_Itoa.f (a0 : Int) : Option ByteArray := if -9223372036854775808 ≤ a0 ∧ a0 ≤ 9223372036854775807 then some ⟨(Lib.itoa a0).toArray⟩ else none
theorem strconv_Itoa.calls (a0 : Int) (r : ByteArray) (w : World) (hG : GLW w) (h : strconv_Itoa.f a0 = some r) :
    Calls Tryd.prog 77 #[.int .i64 a0] w fun e w' => e = .returned (.string r) ∧ Below w.heap.size w w' := by
  unfold strconv_Itoa.f at h
  by_cases q : -9223372036854775808 ≤ a0 ∧ a0 ≤ 9223372036854775807
  · rw [if_pos q] at h
    obtain rfl := Option.some.inj h
    refine (Tryd.strconv_Itoa a0 q.1 q.2 w hG).mono ?_
    rintro e w' ⟨rfl, k, os, rfl⟩
    exact ⟨rfl, Lib.below_grow _ _ (Nat.le_refl _) _ _⟩
  · rw [if_neg q] at h
    exact absurd h (by simp)
end Go.Proofs.YtfiieppnpmodoaaDoor.Q
end
section
namespace Go.Proofs.YtfiieppnpmodoaaDoor.Q
open Go.RowKit Go.Proofs.YtfiieppnpmodoaaDoorW.PrintWords Go.Proofs.YtfiieppnpmodoaaDoorW.PrintLast Go.Proofs.YtfiieppnpmodoaaDoorW.PrintMore
set_option linter.unusedVariables false
set_option linter.unusedSimpArgs false
def decL (n : Nat) : List Int := (Lib.decDigits n).map fun b => (b.toNat : Int)
def decS (n : Nat) : ByteArray := ⟨(Lib.decDigits n).toArray⟩
theorem bytesOf_decS (n : Nat) : bytesOf (decS n) = decL n := by
  unfold bytesOf decS decL
  simp
theorem decL_small (n : Nat) (h : n < 10) : decL n = [48 + (n : Int)] := by
  unfold decL
  rw [Lib.decDigits, dif_pos h]
  simp only [List.map_cons, List.map_nil]
  congr 1
  rw [UInt8.toNat_ofNat']
  omega
theorem decL_step (n : Nat) (h : ¬ n < 10) : decL n = decL (n / 10) ++ [48 + ((n % 10 : Nat) : Int)] := by
  unfold decL
  rw [Lib.decDigits, dif_neg h, List.map_append]
  congr 1
  simp only [List.map_cons, List.map_nil]
  congr 1
  rw [UInt8.toNat_ofNat']
  omega
theorem spec_NumText_l : ∀ (d : Nat) (n k : Nat) (x : ByteArray), n < 10 ^ (d + 1) → n ≤ 9223372036854775807 → x.size + d ≤ 1000 → d < k →
    spec_NumText.l0 k (n : Int) x = some (decS n ++ x) := by
  intro d
  induction d with
  | zero =>
    intro n k x hn hm hx hk
    obtain ⟨k, rfl⟩ : ∃ m, k = m + 1 := ⟨k - 1, by omega⟩
    have h10 : n < 10 := by simpa using hn
    have c1 : ¬ (n : Int) > 9 := by omega
    have e : wrap64 (48 + (n : Int)) % 256 = 48 + (n : Int) := by unfold wrap64; omega
    have es : strOfNums [48 + (n : Int)] = decS n := by
      apply bytesOf_inj
      rw [bytesOf_decS, decL_small n h10, bytesOf_strOfNums]
      intro c hc
      obtain rfl := List.mem_singleton.1 hc
      unfold isByte
      omega
    have hz : (decS n).size = 1 := by rw [size_eq, bytesOf_decS, decL_small n h10]; rfl
    simp only [spec_NumText.l0, if_neg c1, Option.bind_some, e, es]
    rw [if_pos (by omega)]
  | succ d ih =>
    intro n k x hn hm hx hk
    obtain ⟨k, rfl⟩ : ∃ m, k = m + 1 := ⟨k - 1, by omega⟩
    by_cases h10 : n < 10
    · have c1 : ¬ (n : Int) > 9 := by omega
      have e : wrap64 (48 + (n : Int)) % 256 = 48 + (n : Int) := by unfold wrap64; omega
      have es : strOfNums [48 + (n : Int)] = decS n := by
        apply bytesOf_inj
        rw [bytesOf_decS, decL_small n h10, bytesOf_strOfNums]
        intro c hc
        obtain rfl := List.mem_singleton.1 hc
        unfold isByte
        omega
      have hz : (decS n).size = 1 := by rw [size_eq, bytesOf_decS, decL_small n h10]; rfl
      simp only [spec_NumText.l0, if_neg c1, Option.bind_some, e, es]
      rw [if_pos (by omega)]
    · have c1 : (n : Int) > 9 := by omega
      have e1 : True → Int.tmod (n : Int) 10 = ((n % 10 : Nat) : Int) := by intro _; rw [Int.tmod_eq_emod_of_nonneg (by omega)]; omega
      have e2 : True → Int.tdiv (n : Int) 10 = ((n / 10 : Nat) : Int) := by intro _; rw [Int.tdiv_eq_ediv_of_nonneg (by omega)]; omega
      have e3 : True → wrap64 ((n / 10 : Nat) : Int) = ((n / 10 : Nat) : Int) := fun _ => w64id (by omega) (by omega)
      have e : True → wrap64 (48 + ((n % 10 : Nat) : Int)) % 256 = 48 + ((n % 10 : Nat) : Int) := by intro _; unfold wrap64; omega
      have hz : (strOfNums [48 + ((n % 10 : Nat) : Int)]).size = 1 := by rw [strOfNums_size]; rfl
      have hz2 : (strOfNums [48 + ((n % 10 : Nat) : Int)] ++ x).size = 1 + x.size := by rw [ByteArray.size_append, hz]
      simp only [spec_NumText.l0, if_pos c1, Option.bind_some, e1 trivial, e2 trivial, e3 trivial, e trivial]
      rw [if_pos (by omega), ih (n / 10) k _ (by rw [Nat.pow_succ] at hn; omega) (by omega) (by omega) (by omega)]
      congr 1
      apply bytesOf_inj
      rw [bytesOf_append, bytesOf_append, bytesOf_append, bytesOf_decS, bytesOf_decS, decL_step n h10, bytesOf_strOfNums, List.append_assoc]
      intro c hc
      obtain rfl := List.mem_singleton.1 hc
      unfold isByte
      omega
def numText (n : Int) : ByteArray := if 0 ≤ n ∧ n ≤ 4611686018427387904 then decS n.toNat else ⟨#[]⟩
theorem spec_NumText_at (n : Int) (k : Nat) (hk : 30 < k) : spec_NumText.f k n = some (numText n) := by
  unfold spec_NumText.f spec_l01Money.f numText
  by_cases h0 : n ≥ 0
  · rw [if_pos h0, Option.bind_some]
    by_cases h1 : n ≤ 4611686018427387904
    · rw [if_pos (decide_eq_true h1), if_pos ⟨h0, h1⟩]
      have h := spec_NumText_l 19 n.toNat k ⟨#[]⟩ (by omega) (by omega) (by decide) (by omega)
      have e : ((n.toNat : Nat) : Int) = n := by omega
      rw [e] at h
      rw [h]
      congr 1
      apply bytesOf_inj
      rw [bytesOf_append]
      exact List.append_nil _
    · rw [if_neg (by simpa using h1), if_neg (fun q => h1 q.2)]
  · rw [if_neg h0, Option.bind_some, if_neg (by simp), if_neg (fun q => h0 q.1)]
theorem itoa_at (n : Int) (h0 : 0 ≤ n) (h1 : n ≤ 9223372036854775807) : strconv_Itoa.f n = some (decS n.toNat) := by
  unfold strconv_Itoa.f
  rw [if_pos ⟨by omega, h1⟩]
  unfold decS Lib.itoa
  rw [if_neg (by omega)]
end Go.Proofs.YtfiieppnpmodoaaDoor.Q
end
section
namespace Go.Proofs.YtfiieppnpmodoaaDoor.Q
open Go.RowKit Go.Proofs.YtfiieppnpmodoaaDoorW.PrintWords Go.Proofs.YtfiieppnpmodoaaDoorW.PrintLast Go.Proofs.YtfiieppnpmodoaaDoorW.PrintMore
def strings_Repeat.f (a0 : ByteArray) (a1 : Int) : Option ByteArray := if 0 ≤ a1 ∧ a1 ≤ 9223372036854775807 ∧ a0.size * a1.toNat ≤ 140737488355328 then some ⟨(Lib.repeatL a0.data.toList a1.toNat).toArray⟩ else none
theorem strings_Repeat.calls (a0 : ByteArray) (a1 : Int) (r : ByteArray) (w : World) (h : strings_Repeat.f a0 a1 = some r) :
    Calls Tryd.prog 68 #[.string a0, .int .i64 a1] w fun e w' => e = .returned (.string r) ∧ Below w.heap.size w w' := by
  unfold strings_Repeat.f at h
  by_cases q : 0 ≤ a1 ∧ a1 ≤ 9223372036854775807 ∧ a0.size * a1.toNat ≤ 140737488355328
  · rw [if_pos q] at h
    obtain rfl := Option.some.inj h
    have e : ((a1.toNat : Nat) : Int) = a1 := by omega
    have hc := Tryd.strings_Repeat a0 a1.toNat w (by omega) q.2.2
    rw [e] at hc
    exact hc
  · rw [if_neg q] at h
    exact absurd h (by simp)
end Go.Proofs.YtfiieppnpmodoaaDoor.Q
end
section
namespace Go.Proofs.YtfiieppnpmodoaaDoor.Q
open Go.RowKit Go.Proofs.YtfiieppnpmodoaaDoorW.PrintWords Go.Proofs.YtfiieppnpmodoaaDoorW.PrintLast Go.Proofs.YtfiieppnpmodoaaDoorW.PrintMore
set_option linter.unusedVariables false
set_option linter.unusedSimpArgs false
def rep (b : UInt8) (n : Nat) : ByteArray := ⟨(List.replicate n b).toArray⟩
theorem bytesOf_rep (b : UInt8) (n : Nat) : bytesOf (rep b n) = List.replicate n (b.toNat : Int) := by
  unfold bytesOf rep
  simp
theorem rep_size (b : UInt8) (n : Nat) : (rep b n).size = n := by rw [size_eq, bytesOf_rep, List.length_replicate]
theorem rep_zero (b : UInt8) : rep b 0 = ⟨#[]⟩ := rfl
theorem rep_front (b : UInt8) (n : Nat) : rep b n ++ (⟨#[b]⟩ : ByteArray) = rep b (n + 1) := by
  apply bytesOf_inj
  rw [bytesOf_append, bytesOf_rep, bytesOf_rep, List.replicate_succ']
  rfl
theorem app_assoc (a b c : ByteArray) : (a ++ b) ++ c = a ++ (b ++ c) := by
  apply bytesOf_inj
  rw [bytesOf_append, bytesOf_append, bytesOf_append, bytesOf_append, List.append_assoc]
theorem nil_app (a : ByteArray) : (⟨#[]⟩ : ByteArray) ++ a = a := by
  apply bytesOf_inj
  rw [bytesOf_append]
  rfl
theorem repeat_one (b : UInt8) (n : Nat) : (⟨(Lib.repeatL [b] n).toArray⟩ : ByteArray) = rep b n := by
  unfold rep
  congr 2
  induction n with
  | zero => rfl
  | succ n ih => rw [Lib.repeatL, ih, List.replicate_succ]; rfl
theorem repeat_at (b : UInt8) (n : Int) (h0 : 0 ≤ n) (h1 : n ≤ 1000000) : strings_Repeat.f (⟨#[b]⟩ : ByteArray) n = some (rep b n.toNat) := by
  unfold strings_Repeat.f
  have hs : (⟨#[b]⟩ : ByteArray).size = 1 := rfl
  rw [if_pos ⟨h0, by omega, by rw [hs]; omega⟩]
  congr 1
  exact repeat_one b n.toNat
end Go.Proofs.YtfiieppnpmodoaaDoor.Q
end
section
namespace Go.Proofs.YtfiieppnpmodoaaDoor.Q
open Go.RowKit Go.Proofs.YtfiieppnpmodoaaDoorW.PrintWords Go.Proofs.YtfiieppnpmodoaaDoorW.PrintLast Go.Proofs.YtfiieppnpmodoaaDoorW.PrintMore
attribute [local go_sem] max2_int min2_int max_two min_two max_three min_three max_four min_four
set_option linter.unusedVariables false
set_option linter.unusedSimpArgs false
def IsS71 (w0 W : World) (g : Nat) (f0 : List Int) (f1 : Int) (f2 : Int) : Prop := ∃ A0 c0, W.heap[g]? = some (.cells #[.slice A0 f0.length c0, .int .i64 f1, .int .i64 f2] 71 (0, 0)) ∧ w0.heap.size ≤ g ∧ Kd.C (Kd.int .u8) w0 A0 f0.length f0
theorem IsS71.grown {w0 W : World} {g : Nat} {f0 : List Int} {f1 : Int} {f2 : Int} {W1 : World} {row : Option Nat} (h : IsS71 w0 W g f0 f1 f2) (hw : W.grownBy W1 row) (hne : some g ≠ row) : IsS71 w0 W1 g f0 f1 f2 := by
 obtain ⟨A0, c0, hb, hg, hr0⟩ := h
 exact ⟨A0, c0, blk_grown hb hw hne, hg, hr0⟩
theorem IsS71.kept {w0 W : World} {g : Nat} {f0 : List Int} {f1 : Int} {f2 : Int} {W1 : World} {S : Nat → Prop} (h : IsS71 w0 W g f0 f1 f2) (hk : Kept W W1 S) (hne : ¬ S g) : IsS71 w0 W1 g f0 f1 f2 := by
 obtain ⟨A0, c0, hb, hg, hr0⟩ := h
 exact ⟨A0, c0, blk_kept hb hk hne, hg, hr0⟩
theorem IsS71.below {w0 W : World} {g : Nat} {f0 : List Int} {f1 : Int} {f2 : Int} {W1 : World} (h : IsS71 w0 W g f0 f1 f2) (hw : Below W.heap.size W W1) : IsS71 w0 W1 g f0 f1 f2 := h.grown (grown_of_below hw none) (by simp)
theorem IsS71.alloc {w0 W : World} {g : Nat} {f0 : List Int} {f1 : Int} {f2 : Int} (h : IsS71 w0 W g f0 f1 f2) (o : Obj) : IsS71 w0 (W.alloc o) g f0 f1 f2 := h.below (below_alloc (Below.refl _ _) o)
theorem IsS71.drewN {w0 W : World} {g : Nat} {f0 : List Int} {f1 : Int} {f2 : Int} (h : IsS71 w0 W g f0 f1 f2) (m : Nat) : IsS71 w0 (W.drewN m) g f0 f1 f2 := h
theorem IsS71.drew {w0 W : World} {g : Nat} {f0 : List Int} {f1 : Int} {f2 : Int} (h : IsS71 w0 W g f0 f1 f2) : IsS71 w0 W.drew g f0 f1 f2 := h
theorem IsS71.at_ {w0 W : World} {g : Nat} {f0 : List Int} {f1 : Int} {f2 : Int} {w' : World} {m : Nat} (hq : W.drewN m = w') (h : IsS71 w0 W g f0 f1 f2) : IsS71 w0 w' g f0 f1 f2 := by subst hq; exact IsS71.drewN h m
theorem IsS71.apart {w0 W : World} {g : Nat} {f0 : List Int} {f1 : Int} {f2 : Int} {α : Type} {d : Kd α} {e : Nat} {base : Nat} {ok : Nat → Prop} {v : Value} {xs : List α} (h : IsS71 w0 W g f0 f1 f2) (ho : d.R e W base ok v xs) (ht : ∀ q, q ∈ e :: d.E → q ≠ 71) : d.R e W base (fun k => ok k ∧ k ≠ g) v xs := by
 obtain ⟨A0, c0, hb, hg, hr0⟩ := h
 exact Kd.R_types ho hb ht
attribute [local go_sem] max2_int min2_int max_two min_two max_three min_three max_four min_four
set_option linter.unusedVariables false
set_option linter.unusedSimpArgs false
def impl_Digits.l0 : Nat → ByteArray → Int → Int → Option (Bool)
 | 0, _, _, _ => none
 | k + 1, x0, x5, x6 => if x6 < x5 then (if 0 ≤ x6 then (if x6 < (x0.size : Int) then (if (bt x0 x6) < 48 then (some false) else (if (bt x0 x6) > 57 then (some false) else (impl_Digits.l0 k x0 x5 (wrap64 (x6 + 1))))) else (none)) else (none)) else (some (x0.toList != ([] : List UInt8)))
def impl_Digits.f (k : Nat) (a0 : ByteArray) : Option (Bool) := impl_Digits.l0 k a0 (a0.size : Int) 0
set_option maxHeartbeats 8000000 in
set_option maxRecDepth 100000 in
theorem impl_Digits.calls (k : Nat) (a0 : ByteArray) (r : Bool) (w : World) (h : impl_Digits.f k a0 = some r) :
  Calls Tryd.prog 44 #[.string a0] w fun e w' => e = .returned (.bool r) ∧ Drawn0 w w' := by
 have H : (impl_Digits.l0 k a0 (a0.size : Int) 0) = some r := h
 clear h
 have H' := Aside0.mk H
 clear H
 go_enter Tryd.func44, Tryd.ntmps44
 go_wp2
 go_loopg [6] k (fun kq v6 w' => ∃ (x6_1 : Int), v6 = .int .i64 x6_1 ∧ Aside0 (impl_Digits.l0 kq a0 (a0.size : Int) x6_1 = some r) ∧ Aside0 (kq ≤ k) ∧ Drawn0 w w')
 case atStart => exact ⟨(0), (by first | rfl | (simp; done) | (simp [*]; done) | (simp [i64_w, IntKind.wrap_u8, e256_]; done) | (simp; generalize ByteArray.toList _ = zz_; cases zz_ <;> rfl)), H', ⟨Nat.le_refl _⟩, by repeat (first | exact Drawn0.refl _ | apply Drawn0.step)⟩
 case round =>
  clear H'
  obtain ⟨x6_1, rfl, HA, HK1, ⟨m1, rfl⟩⟩ := hrel
  cases gk with
  | zero => exact absurd HA.out (by simp [impl_Digits.l0])
  | succ k1 =>
   have H := HA.out
   clear HA
   simp only [impl_Digits.l0] at H
   by_cases c2 : x6_1 < (a0.size : Int)
   ·rw [if_pos c2] at H
    have c2b0 : decide (x6_1 < (a0.size : Int)) = true := decide_eq_true c2
    clear c2
    by_cases c3 : 0 ≤ x6_1
    ·rw [if_pos c3] at H
     have c3b0 : decide (0 ≤ x6_1) = true := decide_eq_true c3
     clear c3
     by_cases c4 : x6_1 < (a0.size : Int)
     ·rw [if_pos c4] at H
      have c4b0 : decide (x6_1 < (a0.size : Int)) = true := decide_eq_true c4
      clear c4
      by_cases c6 : (bt a0 x6_1) < 48
      ·rw [if_pos c6] at H
       have c6b0 : decide ((bt a0 x6_1) < 48) = true := decide_eq_true c6
       clear c6
       obtain rfl := Option.some.inj H
       have p5 : 0 ≤ (x6_1 : Int) := of_decide_eq_true (by first | (with_reducible assumption) | assumption)
       have q5 : x6_1 < (a0.size : Int) := of_decide_eq_true (by first | (with_reducible assumption) | assumption)
       have hx5 := bt_at a0 x6_1
       replace p5 := eq_true p5
       replace q5 := eq_true q5
       go_wp2
       go_ret
       exact ⟨by first | rfl | (simp; done) | (simp [*]; done) | (simp [i64_w, IntKind.wrap_u8, e256_]; done) | (simp; generalize ByteArray.toList _ = zz_; cases zz_ <;> rfl), by repeat (first | exact Drawn0.refl _ | apply Drawn0.step)⟩
      ·rw [if_neg c6] at H
       have c6b0 : decide ((bt a0 x6_1) < 48) = false := decide_eq_false c6
       clear c6
       by_cases c8 : (bt a0 x6_1) > 57
       ·rw [if_pos c8] at H
        have c8b0 : decide (57 < (bt a0 x6_1)) = true := decide_eq_true c8
        clear c8
        obtain rfl := Option.some.inj H
        have p5 : 0 ≤ (x6_1 : Int) := of_decide_eq_true (by first | (with_reducible assumption) | assumption)
        have q5 : x6_1 < (a0.size : Int) := of_decide_eq_true (by first | (with_reducible assumption) | assumption)
        have hx5 := bt_at a0 x6_1
        replace p5 := eq_true p5
        replace q5 := eq_true q5
        have p7 : 0 ≤ (x6_1 : Int) := of_decide_eq_true (by first | (with_reducible assumption) | assumption)
        have q7 : x6_1 < (a0.size : Int) := of_decide_eq_true (by first | (with_reducible assumption) | assumption)
        have hx7 := bt_at a0 x6_1
        replace p7 := eq_true p7
        replace q7 := eq_true q7
        go_wp2
        go_ret
        exact ⟨by first | rfl | (simp; done) | (simp [*]; done) | (simp [i64_w, IntKind.wrap_u8, e256_]; done) | (simp; generalize ByteArray.toList _ = zz_; cases zz_ <;> rfl), by repeat (first | exact Drawn0.refl _ | apply Drawn0.step)⟩
       ·rw [if_neg c8] at H
        have c8b0 : decide (57 < (bt a0 x6_1)) = false := decide_eq_false c8
        clear c8
        have H' := Aside0.mk H
        clear H
        have p5 : 0 ≤ (x6_1 : Int) := of_decide_eq_true (by first | (with_reducible assumption) | assumption)
        have q5 : x6_1 < (a0.size : Int) := of_decide_eq_true (by first | (with_reducible assumption) | assumption)
        have hx5 := bt_at a0 x6_1
        replace p5 := eq_true p5
        replace q5 := eq_true q5
        have p7 : 0 ≤ (x6_1 : Int) := of_decide_eq_true (by first | (with_reducible assumption) | assumption)
        have q7 : x6_1 < (a0.size : Int) := of_decide_eq_true (by first | (with_reducible assumption) | assumption)
        have hx7 := bt_at a0 x6_1
        replace p7 := eq_true p7
        replace q7 := eq_true q7
        go_wp2
        go_roundg k1
        case measure => have := HK1.out; omega
        case rel => exact ⟨(wrap64 (x6_1 + 1)), (by first | rfl | (simp; done) | (simp [*]; done) | (simp [i64_w, IntKind.wrap_u8, e256_]; done) | (simp; generalize ByteArray.toList _ = zz_; cases zz_ <;> rfl)), H', ⟨by have := HK1.out; omega⟩, by repeat (first | exact Drawn0.refl _ | apply Drawn0.step)⟩
     ·rw [if_neg c4] at H
      exact absurd H (by simp)
    ·rw [if_neg c3] at H
     exact absurd H (by simp)
   ·rw [if_neg c2] at H
    have c2b0 : decide (x6_1 < (a0.size : Int)) = false := decide_eq_false c2
    clear c2
    obtain rfl := Option.some.inj H
    go_wp2
    go_ret
    exact ⟨by first | rfl | (simp; done) | (simp [*]; done) | (simp [i64_w, IntKind.wrap_u8, e256_]; done) | (simp; generalize ByteArray.toList _ = zz_; cases zz_ <;> rfl), by repeat (first | exact Drawn0.refl _ | apply Drawn0.step)⟩
attribute [local go_sem] max2_int min2_int max_two min_two max_three min_three max_four min_four
set_option linter.unusedVariables false
set_option linter.unusedSimpArgs false
mutual
def impl_PutBcd.j0 : Nat → ByteArray → Bool → Option (List Int × Bool)
 | 0, _, _ => none
 | k + 1, x0, x13 => if x13 = true then (some (([] : List Int), false)) else (if ((x0.size : Int) % 2) = 1 then (if 1 + x0.size ≤ 9223372036854775807 then (impl_PutBcd.j1 k ((⟨#[48]⟩ : ByteArray) ++ x0)) else (none)) else (impl_PutBcd.j1 k x0))
def impl_PutBcd.j1 : Nat → ByteArray → Option (List Int × Bool)
 | 0, _ => none
 | k + 1, x0 => impl_PutBcd.l0 k x0 (([] : List Int)) 0
def impl_PutBcd.l0 : Nat → ByteArray → List Int → Int → Option (List Int × Bool)
 | 0, _, _, _ => none
 | k + 1, x0, x4, x5 => if x5 < (x0.size : Int) then (if 0 ≤ x5 then (if 0 ≤ (wrap64 (x5 + 1)) then (if (wrap64 (x5 + 1)) < (x0.size : Int) then (if x4.length < 140737488355328 then (impl_PutBcd.l0 k x0 (x4 ++ [Go.bits .or .u8 (((((bt x0 x5) - 48) % 256) * 16) % 256) (((bt x0 (wrap64 (x5 + 1))) - 48) % 256)]) (wrap64 (x5 + 2))) else (none)) else (none)) else (none)) else (none)) else (some (x4, true))
end
def impl_PutBcd.f (k : Nat) (a0 : ByteArray) : Option (List Int × Bool) := (impl_Digits.f k a0).bind fun t139 => (if t139 = true then (impl_PutBcd.j0 k a0 (decide ((a0.size : Int) > 38))) else (impl_PutBcd.j0 k a0 true))
def impl_PutBcd.T9 : Bool × List (List Nat × List Nat) := (true, [([], []), ([], []), ([], []), ([1, 2], [1, 2]), ([3], [3]), ([4], [4]), ([], []), ([], []), ([7], [7]), ([6, 8], [6, 8]), ([9], [9]), ([5, 10], [5, 10]), ([11], [11]), ([0, 12], [0, 12]), ([13, 13, 0, 1, 2, 3, 4, 5, 6, 7, 8, 9, 10, 11, 12, 13], [0, 13])])
def impl_PutBcd.B9 : List Nat := [0, 0, 0, 6, 14, 30, 0, 0, 128, 448, 960, 2046, 4094, 8191, 16383]
theorem impl_PutBcd.tab9 : rtab .any (opsOf Tryd.f10 9) = impl_PutBcd.T9 := by kernel_rfl
theorem impl_PutBcd.bits9 : waitsOk impl_PutBcd.T9.2 impl_PutBcd.B9 = true := by kernel_rfl
set_option maxHeartbeats 8000000 in
set_option maxRecDepth 100000 in
theorem impl_PutBcd.calls (k : Nat) (a0 : ByteArray) (r1 : List Int) (r2 : Bool) (w : World) (h : impl_PutBcd.f k a0 = some (r1, r2)) :
  Calls Tryd.prog 10 #[.string a0] w fun e w' => ∃ v0_ : Value, e = .returned (.tuple #[v0_, .bool r2]) ∧ Kd.R (Kd.int .u8) 5 w' w.heap.size (fun _ => True) v0_ r1 ∧ Below w.heap.size w w' := by
 have HB := Aside0.mk (Below.refl w.heap.size w)
 have H : ((impl_Digits.f k a0).bind fun t139 => (if t139 = true then (impl_PutBcd.j0 k a0 (decide ((a0.size : Int) > 38))) else (impl_PutBcd.j0 k a0 true))) = some (r1, r2) := h
 clear h
 have HC2 := Aside0.mk H
 clear H
 go_enter Tryd.func10, Tryd.ntmps10
 go_upto_region 1 with (fail)
 go_cut [13] (fun v13 wc => ∃ (kq : Nat) (x13_1 : Bool), v13 = .bool x13_1 ∧ Aside0 (impl_PutBcd.j0 kq a0 x13_1 = some (r1, r2)) ∧ Aside0 (kq ≤ k) ∧ Aside0 (Below w.heap.size w wc))
 case first =>
  have H := HC2.out
  clear HC2
  replace H := Option.bind_eq_some_iff.mp H
  obtain ⟨t139, A30, H⟩ := H
  replace H : (if t139 = true then (impl_PutBcd.j0 k a0 (decide ((a0.size : Int) > 38))) else (impl_PutBcd.j0 k a0 true)) = some (r1, r2) := H
  have A3 := Aside0.mk A30
  clear A30
  by_cases c4 : t139 = true
  ·subst c4
   have H1 : (impl_PutBcd.j0 k a0 (decide ((a0.size : Int) > 38))) = some (r1, r2) := by rw [if_pos rfl] at H; exact H
   clear H
   have H := H1
   clear H1
   have H' := Aside0.mk H
   clear H
   go_wp2_with (first | ((with_reducible refine gate_callee (f := 44) rfl ?_); refine goesM_ (some 7) rfl rfl Tryd.func44 (by kernel_rfl) rfl #[.string a0] rfl ?_; (with_reducible refine (impl_Digits.calls k a0 true _ A3.out).mono ?_); rintro e w' ⟨rfl, ⟨nd, rfl⟩⟩; refine ⟨_, rfl, ?_⟩))
   go_meet
   case rel => exact ⟨_, (decide ((a0.size : Int) > 38)), (by first | rfl | (simp; done) | (simp [*]; done) | (simp [i64_w, IntKind.wrap_u8, e256_]; done) | (simp; generalize ByteArray.toList _ = zz_; cases zz_ <;> rfl)), H', ⟨by first | omega | exact Nat.le_refl _⟩, ⟨bB⟩⟩
  ·replace c4 := Bool.eq_false_iff.mpr c4
   subst c4
   have H1 : (impl_PutBcd.j0 k a0 true) = some (r1, r2) := by rw [if_neg (show ¬ (false = true) by decide)] at H; exact H
   clear H
   have H := H1
   clear H1
   have H' := Aside0.mk H
   clear H
   go_wp2_with (first | ((with_reducible refine gate_callee (f := 44) rfl ?_); refine goesM_ (some 7) rfl rfl Tryd.func44 (by kernel_rfl) rfl #[.string a0] rfl ?_; (with_reducible refine (impl_Digits.calls k a0 false _ A3.out).mono ?_); rintro e w' ⟨rfl, ⟨nd, rfl⟩⟩; refine ⟨_, rfl, ?_⟩))
   go_meet
   case rel => exact ⟨_, (true), (by first | rfl | (simp; done) | (simp [*]; done) | (simp [i64_w, IntKind.wrap_u8, e256_]; done) | (simp; generalize ByteArray.toList _ = zz_; cases zz_ <;> rfl)), H', ⟨by first | omega | exact Nat.le_refl _⟩, ⟨bB⟩⟩
 case rest =>
  clear HC2
  try clear c1
  try clear p2
  try clear c4
  obtain ⟨kq, x13_1, rfl, HA, HJ1, HB⟩ := hcut
  cases kq with
  | zero => exact absurd HA.out (by simp [impl_PutBcd.j0])
  | succ kj1 =>
   have H := HA.out
   clear HA
   simp only [impl_PutBcd.j0] at H
   by_cases c5 : x13_1 = true
   ·subst c5
    have H1 : (some (([] : List Int), false)) = some (r1, r2) := by rw [if_pos rfl] at H; exact H
    clear H
    have H := H1
    clear H1
    simp only [Option.some.injEq, Prod.mk.injEq] at H
    obtain ⟨rfl, rfl⟩ := H
    go_wp2
    go_ret2
    exact ⟨_, by first | rfl | (simp [errW_none, errW_some] <;> rfl) | (simp [*, errW_none, errW_some] <;> rfl), by first | exact Kd.R_nil _ _ _ _ _ | exact Kd.N_nil _ _ _ _ _ | exact Kd.V_nil _ _ _ _ _ | exact Kd.Q_nil _ _ _ _ _ | exact Kd.S_nil _ _ _ _ _, bB⟩
   ·replace c5 := Bool.eq_false_iff.mpr c5
    subst c5
    have H1 : (if ((a0.size : Int) % 2) = 1 then (if 1 + a0.size ≤ 9223372036854775807 then (impl_PutBcd.j1 kj1 ((⟨#[48]⟩ : ByteArray) ++ a0)) else (none)) else (impl_PutBcd.j1 kj1 a0)) = some (r1, r2) := by rw [if_neg (show ¬ (false = true) by decide)] at H; exact H
    clear H
    have H := H1
    clear H1
    have HC6 := Aside0.mk H
    clear H
    go_upto_if 17 with (fail)
    go_cut [0] (fun v0 wc => ∃ (kq : Nat) (x0_5 : ByteArray), v0 = .string x0_5 ∧ Aside0 (impl_PutBcd.j1 kq x0_5 = some (r1, r2)) ∧ Aside0 (kq ≤ kj1) ∧ Aside0 (Below w.heap.size w wc))
    case first =>
     have H := HC6.out
     clear HC6
     by_cases c7 : ((a0.size : Int) % 2) = 1
     ·rw [if_pos c7] at H
      have c7b0 : (((a0.size : Int) % 2) == 1) = true := beq_iff_eq.mpr c7
      have c7b1 : (((a0.size : Int) % 2) != 1) = false := bne_eq_false_iff_eq.mpr c7
      clear c7
      (first | rw [c7b0] | (simp only [i64_w, i32_w]; rw [c7b0]) | rw [c7b1] | (simp only [c7b1]) | skip)
      by_cases c8 : 1 + a0.size ≤ 9223372036854775807
      ·rw [if_pos c8] at H
       have c8b0 := eq_true c8
       have c8b1 : decide (1 + a0.size ≤ 9223372036854775807) = true := decide_eq_true c8
       try have c8b2 : (9223372036854775807 < 1 + a0.size) = False := eq_false (Nat.not_lt.2 c8)
       try (have c8b3 := c8b2; simp only [ByteArray.size_append, ByteArray.size_extract, Nat.sub_zero, Nat.min_self] at c8b3)
       have H' := Aside0.mk H
       clear H
       go_wp2
       go_meet
       case rel => exact ⟨_, ((⟨#[48]⟩ : ByteArray) ++ a0), (by first | rfl | (simp; done) | (simp [*]; done) | (simp [i64_w, IntKind.wrap_u8, e256_]; done) | (simp; generalize ByteArray.toList _ = zz_; cases zz_ <;> rfl)), H', ⟨by have := HJ1.out; first | omega | exact Nat.le_refl _⟩, ⟨bB⟩⟩
      ·rw [if_neg c8] at H
       exact absurd H (by simp)
     ·rw [if_neg c7] at H
      have c7b0 : (((a0.size : Int) % 2) == 1) = false := beq_eq_false_iff_ne.mpr c7
      have c7b1 : (((a0.size : Int) % 2) != 1) = true := bne_iff_ne.mpr c7
      (first | rw [c7b0] | (simp only [i64_w, i32_w]; rw [c7b0]) | rw [c7b1] | (simp only [c7b1]) | skip)
      have H' := Aside0.mk H
      clear H
      go_wp2
      go_meet
      case rel => exact ⟨_, (a0), (by first | rfl | (simp; done) | (simp [*]; done) | (simp [i64_w, IntKind.wrap_u8, e256_]; done) | (simp; generalize ByteArray.toList _ = zz_; cases zz_ <;> rfl)), H', ⟨by have := HJ1.out; first | omega | exact Nat.le_refl _⟩, ⟨bB⟩⟩
    case rest =>
     clear HC6
     try clear c1
     try clear p2
     try clear c4
     try clear c5
     try clear p6
     try clear c7
     try clear c7b0
     try clear c7b1
     try clear c8
     try clear c8b0
     try clear c8b1
     try clear c8b2
     try clear p2
     obtain ⟨kq, x0_5, rfl, HA, HJ5, HB⟩ := hcut
     cases kq with
     | zero => exact absurd HA.out (by simp [impl_PutBcd.j1])
     | succ kj5 =>
      have H := HA.out
      clear HA
      simp only [impl_PutBcd.j1] at H
      obtain ⟨y140, hy140⟩ : ∃ y_ : List Int, y_ = (([] : List Int)) := ⟨_, rfl⟩
      replace H : (impl_PutBcd.l0 kj5 x0_5 y140 0) = some (r1, r2) := by first | (rw [hy140]; with_reducible exact H) | (have H2_ := (Option.bind_some _ _).symm.trans H; rw [hy140]; with_reducible exact H2_) | (have H2_ := (Option.bind_some _ _).symm.trans H; with_reducible exact H2_) | with_reducible exact H | (rw [hy140]; exact H) | exact H
      have Ny140 := Aside0.mk hy140
      clear hy140
      have H' := Aside0.mk H
      clear H
      go_wp2_with (first | ((with_reducible refine gate_dst (N := 20) rfl ?_); (try (refine gate_guard (by rfl) ?_; dsimp only)); refine Kd.R_lit (Kd.int .u8) _ 5 ?hg (N := 20) ?hd (xs := ([] : List Int)) (inner := []) (ok := fun _ => True) (okp := fun _ => True) ?hr ?hp (fun _ hk => hk) trivial (Below.refl _ _) (Nat.le_refl _) (by simp) ?_; (case hd => rfl); (case hg => rfl); (case hr => first | (go_simp; done) | (go_simp; rfl)); (case hp => exact (Reps.none _ _)); intro v141 w9 ho10 hb hg_ hnew_; clear hg_ hnew_; (first | rw [← Ny140.out] at ho10 | (simp only [Int.reduceToNat] at ho10; rw [← Ny140.out] at ho10)); have n0_ := Aside0.mk (Kd.R_lower ho10 (below_size bB)); have n1_ := Aside0.mk (below_step bB hb); clear HB; have HO142 := n0_; have HB := n1_; clear n0_ n1_; clear hb ho10))
      go_loopg [4, 5] kj5 (fun kq v4 v5 w' => ∃ (x4_3 : List Int) (x5_3 : Int), v5 = .int .i64 x5_3 ∧ Aside0 (impl_PutBcd.l0 kq x0_5 x4_3 x5_3 = some (r1, r2)) ∧ Aside0 (kq ≤ kj5) ∧ Aside0 (Kd.R (Kd.int .u8) 5 w' w.heap.size (fun _ => True) v4 x4_3) ∧ Aside0 (Below w.heap.size w w'))
      case atStart => exact ⟨(y140), (0), (by first | rfl | (simp; done) | (simp [*]; done) | (simp [i64_w, IntKind.wrap_u8, e256_]; done) | (simp; generalize ByteArray.toList _ = zz_; cases zz_ <;> rfl)), H', ⟨Nat.le_refl _⟩, ⟨rA HO142.out⟩, ⟨bB⟩⟩
      case round =>
       clear H'
       try clear c1
       try clear p2
       try clear c4
       try clear c5
       try clear p6
       try clear c7
       try clear c7b0
       try clear c7b1
       try clear c8
       try clear c8b0
       try clear c8b1
       try clear c8b2
       try clear c10
       try clear p2
       try clear p6
       obtain ⟨x4_3, x5_3, rfl, HA, HK3, HO_4, HB⟩ := hrel
       cases gk with
       | zero => exact absurd HA.out (by simp [impl_PutBcd.l0])
       | succ k3 =>
        have H := HA.out
        clear HA
        simp only [impl_PutBcd.l0] at H
        by_cases c11 : x5_3 < (x0_5.size : Int)
        ·rw [if_pos c11] at H
         have c11b0 : decide (x5_3 < (x0_5.size : Int)) = true := decide_eq_true c11
         clear c11
         by_cases c12 : 0 ≤ x5_3
         ·rw [if_pos c12] at H
          have c12b0 : decide (0 ≤ x5_3) = true := decide_eq_true c12
          clear c12
          obtain ⟨ji14, hji14⟩ : ∃ j_ : Int, (wrap64 (x5_3 + 1)) = j_ := ⟨_, rfl⟩
          replace H : (if 0 ≤ (ji14) then (if (ji14) < (x0_5.size : Int) then (if x4_3.length < 140737488355328 then (impl_PutBcd.l0 k3 x0_5 (x4_3 ++ [Go.bits .or .u8 (((((bt x0_5 x5_3) - 48) % 256) * 16) % 256) (((bt x0_5 (ji14)) - 48) % 256)]) (wrap64 (x5_3 + 2))) else (none)) else (none)) else (none)) = some (r1, r2) := by first | (rw [hji14] at H; exact H) | (simp only [hji14] at H ⊢; exact H)
          have hji14w : (IntKind.i64.wrap (x5_3 + 1)) = ji14 := (i64_w _).trans hji14
          by_cases c15 : 0 ≤ (ji14)
          ·rw [if_pos c15] at H
           have c15b0 : decide (0 ≤ (ji14)) = true := decide_eq_true c15
           clear c15
           by_cases c16 : (ji14) < (x0_5.size : Int)
           ·rw [if_pos c16] at H
            have c16b0 : decide ((ji14) < (x0_5.size : Int)) = true := decide_eq_true c16
            clear c16
            by_cases c18 : x4_3.length < 140737488355328
            ·rw [if_pos c18] at H
             have LMc18 := Aside0.mk c18
             clear c18
             obtain ⟨y143, hy143⟩ : ∃ y_ : List Int, y_ = (x4_3 ++ [Go.bits .or .u8 (((((bt x0_5 x5_3) - 48) % 256) * 16) % 256) (((bt x0_5 (ji14)) - 48) % 256)]) := ⟨_, rfl⟩
             replace H : (impl_PutBcd.l0 k3 x0_5 y143 (wrap64 (x5_3 + 2))) = some (r1, r2) := by first | (rw [hy143]; with_reducible exact H) | (have H2_ := (Option.bind_some _ _).symm.trans H; rw [hy143]; with_reducible exact H2_) | (have H2_ := (Option.bind_some _ _).symm.trans H; with_reducible exact H2_) | with_reducible exact H | (rw [hy143]; exact H) | exact H
             have Ny143 := Aside0.mk hy143
             clear hy143
             have H' := Aside0.mk H
             clear H
             try go_wp2
             have n0_ := Aside0.mk (Kd.R_drew HO_4.out)
             have n1_ := Aside0.mk (below_drew1 HB.out)
             clear HO_4
             clear HB
             have HO_4 := n0_
             have HB := n1_
             clear n0_ n1_
             have p13 : 0 ≤ (x5_3 : Int) := of_decide_eq_true (by first | (with_reducible assumption) | assumption)
             have q13 : x5_3 < (x0_5.size : Int) := of_decide_eq_true (by first | (with_reducible assumption) | assumption)
             have hx13 := bt_at x0_5 x5_3
             replace p13 := eq_true p13
             replace q13 := eq_true q13
             have p17 : 0 ≤ ((ji14) : Int) := of_decide_eq_true (by first | (with_reducible assumption) | assumption)
             have q17 : (ji14) < (x0_5.size : Int) := of_decide_eq_true (by first | (with_reducible assumption) | assumption)
             have hx17 := bt_at x0_5 (ji14)
             replace p17 := eq_true p17
             replace q17 := eq_true q17
             refine start_ (n := 15) (S := fun w' => True) (ds := []) #[false, false, false, false, false, false, false, false, false, false, false, false, false, false, false] (by kernel_rfl) rfl rfl trivial (fun hHeld => ?_); refine with_tabW impl_PutBcd.tab9 impl_PutBcd.bits9 (fun HT_ HW_ => ?_)
             generalize wr.drew = w19 at HO_4 HB hHeld ⊢
             refine pure_ (i := 0) (N := some 27) (v := ?_) (a' := ?_) #[true, false, false, false, false, false, false, false, false, false, false, false, false, false, false] rfl rfl (any_of HT_.out (by kernel_rfl)) (fun _ _ _ h => h) (Or.inl ⟨by rfl, ?_⟩) ?_ ?_
             rotate_left
             ·intro w'
              go_simp
              with_reducible rfl
             rotate_left
             ·simp only [Act.put, List.setIfInBounds_toArray, List.set_cons_zero, List.set_cons_succ, i64_w, i32_w]
              rfl
             refine pure_ (i := 1) (N := some 28) (v := ?_) (a' := ?_) #[true, true, false, false, false, false, false, false, false, false, false, false, false, false, false] rfl rfl (any_of HT_.out (by kernel_rfl)) (fun _ _ _ h => h) (Or.inl ⟨by rfl, ?_⟩) ?_ ?_
             rotate_left
             ·intro w'
              go_simp
              with_reducible rfl
             rotate_left
             ·simp only [Act.put, List.setIfInBounds_toArray, List.set_cons_zero, List.set_cons_succ, i64_w, i32_w]
              rfl
             refine pure_ (i := 2) (N := some 29) (v := ?_) (a' := ?_) #[true, true, true, false, false, false, false, false, false, false, false, false, false, false, false] rfl rfl (any_of HT_.out (by kernel_rfl)) (fun _ _ _ h => h) (Or.inl ⟨by rfl, ?_⟩) ?_ ?_
             rotate_left
             ·intro w'
              go_simp
              with_reducible rfl
             rotate_left
             ·simp only [Act.put, List.setIfInBounds_toArray, List.set_cons_zero, List.set_cons_succ, i64_w, i32_w]
              rfl
             refine pure_ (i := 6) (N := some 33) (v := ?_) (a' := ?_) #[true, true, true, false, false, false, true, false, false, false, false, false, false, false, false] rfl rfl (any_of HT_.out (by kernel_rfl)) (fun _ _ _ h => h) (Or.inl ⟨by rfl, ?_⟩) ?_ ?_
             rotate_left
             ·intro w'
              go_simp
              with_reducible rfl
             rotate_left
             ·simp only [Act.put, List.setIfInBounds_toArray, List.set_cons_zero, List.set_cons_succ, i64_w, i32_w]
              rfl
             refine pure_ (i := 7) (N := some 34) (v := ?_) (a' := ?_) #[true, true, true, false, false, false, true, true, false, false, false, false, false, false, false] rfl rfl (any_of HT_.out (by kernel_rfl)) (fun _ _ _ h => h) (Or.inl ⟨by rfl, ?_⟩) ?_ ?_
             rotate_left
             ·intro w'
              go_simp
              with_reducible rfl
             rotate_left
             ·simp only [Act.put, List.setIfInBounds_toArray, List.set_cons_zero, List.set_cons_succ, i64_w, i32_w]
              rfl
             refine pure_ (i := 8) (N := some 35) (v := ?_) (a' := ?_) #[true, true, true, false, false, false, true, true, true, false, false, false, false, false, false] rfl rfl (any_of HT_.out (by kernel_rfl)) (fun _ _ _ h => h) (Or.inl ⟨by rfl, ?_⟩) ?_ ?_
             rotate_left
             ·intro w'
              go_simp
              with_reducible rfl
             rotate_left
             ·simp only [Act.put, List.setIfInBounds_toArray, List.set_cons_zero, List.set_cons_succ, i64_w, i32_w]
              rfl
             refine take_ (i := 3) (N := some 30) (v := ?_) (a' := ?_) #[true, true, true, true, false, false, true, true, true, false, false, false, false, false, false] rfl rfl (take_ofW HT_.out HW_.out (by kernel_rfl)) (fun _ _ _ h => h) (Or.inl ⟨by rfl, ?_⟩) hHeld ?_ ?_
             rotate_left
             ·intro w' _
              go_simp
              with_reducible rfl
             rotate_left
             ·simp only [Act.put, List.setIfInBounds_toArray, List.set_cons_zero, List.set_cons_succ, i64_w, i32_w]
              rfl
             refine pure_ (i := 4) (N := some 31) (v := ?_) (a' := ?_) #[true, true, true, true, true, false, true, true, true, false, false, false, false, false, false] rfl rfl (any_of HT_.out (by kernel_rfl)) (fun _ _ _ h => h) (Or.inl ⟨by rfl, ?_⟩) ?_ ?_
             rotate_left
             ·intro w'
              go_simp
              with_reducible rfl
             rotate_left
             ·simp only [Act.put, List.setIfInBounds_toArray, List.set_cons_zero, List.set_cons_succ, i64_w, i32_w]
              rfl
             refine pure_ (i := 5) (N := some 32) (v := ?_) (a' := ?_) #[true, true, true, true, true, true, true, true, true, false, false, false, false, false, false] rfl rfl (any_of HT_.out (by kernel_rfl)) (fun _ _ _ h => h) (Or.inl ⟨by rfl, ?_⟩) ?_ ?_
             rotate_left
             ·intro w'
              go_simp
              with_reducible rfl
             rotate_left
             ·simp only [Act.put, List.setIfInBounds_toArray, List.set_cons_zero, List.set_cons_succ, i64_w, i32_w]
              rfl
             refine take_ (i := 9) (N := some 36) (v := ?_) (a' := ?_) #[true, true, true, true, true, true, true, true, true, true, false, false, false, false, false] rfl rfl (take_ofW HT_.out HW_.out (by kernel_rfl)) (fun _ _ _ h => h) (Or.inl ⟨by rfl, ?_⟩) hHeld ?_ ?_
             rotate_left
             ·intro w' _
              go_simp
              with_reducible rfl
             rotate_left
             ·simp only [Act.put, List.setIfInBounds_toArray, List.set_cons_zero, List.set_cons_succ, i64_w, i32_w]
              rfl
             refine pure_ (i := 10) (N := some 37) (v := ?_) (a' := ?_) #[true, true, true, true, true, true, true, true, true, true, true, false, false, false, false] rfl rfl (any_of HT_.out (by kernel_rfl)) (fun _ _ _ h => h) (Or.inl ⟨by rfl, ?_⟩) ?_ ?_
             rotate_left
             ·intro w'
              go_simp
              with_reducible rfl
             rotate_left
             ·simp only [Act.put, List.setIfInBounds_toArray, List.set_cons_zero, List.set_cons_succ, i64_w, i32_w]
              rfl
             refine pure_ (i := 11) (N := some 38) (v := ?_) (a' := ?_) #[true, true, true, true, true, true, true, true, true, true, true, true, false, false, false] rfl rfl (any_of HT_.out (by kernel_rfl)) (fun _ _ _ h => h) (Or.inl ⟨by rfl, ?_⟩) ?_ ?_
             rotate_left
             ·intro w'
              go_simp
              with_reducible rfl
             rotate_left
             ·simp only [Act.put, List.setIfInBounds_toArray, List.set_cons_zero, List.set_cons_succ, i64_w, i32_w]
              rfl
             refine one_ (i := 12) (N := some 39) #[true, true, true, true, true, true, true, true, true, true, true, true, true, false, false] rfl rfl (one_of HT_.out (by kernel_rfl)) (by decide) (fun K hK => ?_)
             refine value_ (w1 := ?_) (v := ?_) (by rfl) rfl ?_ ?_
             rotate_left 2
             ·go_simp
              constructor
              ·rfl
              ·rfl
             refine hK.out _ _ trivial (fun hHeld => ?_)
             clear hK K
             refine norm_ (a' := ?_) ?_ ?_
             rotate_left
             ·show Act.put _ (some 39) _ = _
              simp only [Act.put, List.setIfInBounds_toArray, List.set_cons_zero, List.set_cons_succ, i64_w, i32_w]
              rfl
             refine one_ (i := 13) (N := some 40) #[true, true, true, true, true, true, true, true, true, true, true, true, true, true, false] rfl rfl (one_of HT_.out (by kernel_rfl)) (by decide) (fun K hK => ?_)
             refine Kd.R_append_step (Kd.int .u8) (w0 := w) w.heap.size (by rfl) (.tmp 27) (.tmp 39) 22 5 (.int .u8 0) 1 rfl Tryd.underlying22 info5 rfl (by decide) (by omega) u4 x4_3 (Go.bits .or .u8 (((((bt x0_5 x5_3) - 48) % 256) * 16) % 256) (((bt x0_5 (ji14)) - 48) % 256)) [.int .u8 (Go.bits .or .u8 (((((bt x0_5 x5_3) - 48) % 256) * 16) % 256) (((bt x0_5 (ji14)) - 48) % 256))] (fun _ => True) (fun _ => False) rfl rfl ?aP (fun _ hk => hk.elim) ?aF ?aO ?aB ?aS ?aL ?_
             (case aP => exact rfl)
             (case aB => exact bB)
             (case aF => exact (fun _ _ => trivial))
             (case aO => exact (rA HO_4.out))
             (case aS => exact (below_size bB))
             (case aL => have := LMc18.out; omega)
             intro v144 w20 ho hb hg hat
             rw [← Ny143.out] at ho
             have n0_ := Aside0.mk (hb)
             have n1_ := Aside0.mk (ho)
             clear HB
             clear HO_4
             have HB := n0_
             have HO145 := n1_
             clear n0_ n1_
             clear ho hb hg hat
             refine hK.out _ _ trivial (fun hHeld => ?_)
             clear hK K
             refine norm_ (a' := ?_) ?_ ?_
             rotate_left
             ·show Act.put _ (some 40) _ = _
              simp only [Act.put, List.setIfInBounds_toArray, List.set_cons_zero, List.set_cons_succ, i64_w, i32_w]
              rfl
             refine pure_ (i := 14) (N := some 4) (v := ?_) (a' := ?_) #[true, true, true, true, true, true, true, true, true, true, true, true, true, true, true] rfl rfl (any_of HT_.out (by kernel_rfl)) (fun _ _ _ h => h) (Or.inl ⟨by rfl, ?_⟩) ?_ ?_
             rotate_left
             ·intro w'
              go_simp
              with_reducible rfl
             rotate_left
             ·simp only [Act.put, List.setIfInBounds_toArray, List.set_cons_zero, List.set_cons_succ, i64_w, i32_w]
              rfl
             refine done_ (done_of HT_.out (by kernel_rfl)) ?_
             try go_wp2
             go_roundg k3
             case measure => have := HJ1.out; have := HJ5.out; have := HK3.out; omega
             case rel => exact ⟨(y143), (wrap64 (x5_3 + 2)), (by first | rfl | (simp; done) | (simp [*]; done) | (simp [i64_w, IntKind.wrap_u8, e256_]; done) | (simp; generalize ByteArray.toList _ = zz_; cases zz_ <;> rfl)), H', ⟨by have := HJ1.out; have := HJ5.out; have := HK3.out; omega⟩, ⟨rA HO145.out⟩, ⟨bB⟩⟩
            ·rw [if_neg c18] at H
             exact absurd H (by simp)
           ·rw [if_neg c16] at H
            exact absurd H (by simp)
          ·rw [if_neg c15] at H
           exact absurd H (by simp)
         ·rw [if_neg c12] at H
          exact absurd H (by simp)
        ·rw [if_neg c11] at H
         have c11b0 : decide (x5_3 < (x0_5.size : Int)) = false := decide_eq_false c11
         clear c11
         simp only [Option.some.injEq, Prod.mk.injEq] at H
         obtain ⟨rfl, rfl⟩ := H
         go_wp2
         go_ret2
         exact ⟨_, by first | rfl | (simp [errW_none, errW_some] <;> rfl) | (simp [*, errW_none, errW_some] <;> rfl), rA HO_4.out, bB⟩
attribute [local go_sem] max2_int min2_int max_two min_two max_three min_three max_four min_four
set_option linter.unusedVariables false
set_option linter.unusedSimpArgs false
def impl_within.f (a0 : Int) (a1 : Int) (a2 : Int) : Option (Bool) := if a1 ≤ a0 then (some (decide (a0 ≤ a2))) else (some false)
set_option maxHeartbeats 8000000 in
set_option maxRecDepth 100000 in
theorem impl_within.calls (a0 : Int) (a1 : Int) (a2 : Int) (r : Bool) (w : World) (h : impl_within.f a0 a1 a2 = some r) :
  Calls Tryd.prog 45 #[.int .i64 a0, .int .i64 a1, .int .i64 a2] w fun e w' => e = .returned (.bool r) ∧ Drawn0 w w' := by
 have H : (if a1 ≤ a0 then (some (decide (a0 ≤ a2))) else (some false)) = some r := h
 clear h
 by_cases c4 : a1 ≤ a0
 ·rw [if_pos c4] at H
  have c4b0 : decide (a1 ≤ a0) = true := decide_eq_true c4
  clear c4
  obtain rfl := Option.some.inj H
  go_enter Tryd.func45, Tryd.ntmps45
  go_wp2
  go_ret
  exact ⟨by first | rfl | (simp; done) | (simp [*]; done) | (simp [i64_w, IntKind.wrap_u8, e256_]; done) | (simp; generalize ByteArray.toList _ = zz_; cases zz_ <;> rfl), by repeat (first | exact Drawn0.refl _ | apply Drawn0.step)⟩
 ·rw [if_neg c4] at H
  have c4b0 : decide (a1 ≤ a0) = false := decide_eq_false c4
  clear c4
  obtain rfl := Option.some.inj H
  go_enter Tryd.func45, Tryd.ntmps45
  go_wp2
  go_ret
  exact ⟨by first | rfl | (simp; done) | (simp [*]; done) | (simp [i64_w, IntKind.wrap_u8, e256_]; done) | (simp; generalize ByteArray.toList _ = zz_; cases zz_ <;> rfl), by repeat (first | exact Drawn0.refl _ | apply Drawn0.step)⟩
attribute [local go_sem] max2_int min2_int max_two min_two max_three min_three max_four min_four
set_option linter.unusedVariables false
set_option linter.unusedSimpArgs false
def impl_Wide.f (a0 : Int) (a1 : Int) : Option (ByteArray) := (strconv_Itoa.f a0).bind fun t178 => (if a0 < 0 then (some (⟨#[]⟩ : ByteArray)) else ((impl_within.f a1 1 18).bind fun t179 => (if t179 = true then (if (t178.size : Int) > a1 then (some (⟨#[]⟩ : ByteArray)) else ((strings_Repeat.f (⟨#[48]⟩ : ByteArray) (wrap64 (a1 - (t178.size : Int)))).bind fun t180 => (if t180.size + t178.size ≤ 9223372036854775807 then (some (t180 ++ t178)) else (none)))) else (some (⟨#[]⟩ : ByteArray)))))
set_option maxHeartbeats 8000000 in
set_option maxRecDepth 100000 in
theorem impl_Wide.calls (a0 : Int) (a1 : Int) (r : ByteArray) (w : World) (hG : GLW w) (h : impl_Wide.f a0 a1 = some r) :
  Calls Tryd.prog 47 #[.int .i64 a0, .int .i64 a1] w fun e w' => e = .returned (.string r) ∧ Below w.heap.size w w' := by
 have HB := Aside0.mk (Below.refl w.heap.size w)
 have HG := Aside0.mk hG
 clear hG
 have H : ((strconv_Itoa.f a0).bind fun t178 => (if a0 < 0 then (some (⟨#[]⟩ : ByteArray)) else ((impl_within.f a1 1 18).bind fun t179 => (if t179 = true then (if (t178.size : Int) > a1 then (some (⟨#[]⟩ : ByteArray)) else ((strings_Repeat.f (⟨#[48]⟩ : ByteArray) (wrap64 (a1 - (t178.size : Int)))).bind fun t180 => (if t180.size + t178.size ≤ 9223372036854775807 then (some (t180 ++ t178)) else (none)))) else (some (⟨#[]⟩ : ByteArray)))))) = some r := h
 clear h
 replace H := Option.bind_eq_some_iff.mp H
 obtain ⟨t178, A30, H⟩ := H
 replace H : (if a0 < 0 then (some (⟨#[]⟩ : ByteArray)) else ((impl_within.f a1 1 18).bind fun t179 => (if t179 = true then (if (t178.size : Int) > a1 then (some (⟨#[]⟩ : ByteArray)) else ((strings_Repeat.f (⟨#[48]⟩ : ByteArray) (wrap64 (a1 - (t178.size : Int)))).bind fun t180 => (if t180.size + t178.size ≤ 9223372036854775807 then (some (t180 ++ t178)) else (none)))) else (some (⟨#[]⟩ : ByteArray))))) = some r := H
 have A3 := Aside0.mk A30
 clear A30
 by_cases c4 : a0 < 0
 ·rw [if_pos c4] at H
  have c4b0 : decide (a0 < 0) = true := decide_eq_true c4
  clear c4
  obtain rfl := Option.some.inj H
  go_enter Tryd.func47, Tryd.ntmps47
  go_wp2_with (first | ((with_reducible refine gate_callee (f := 77) rfl ?_); refine goesM_ (some 7) rfl rfl Tryd.func77 (by kernel_rfl) rfl #[.int .i64 a0] rfl ?_; (with_reducible refine (strconv_Itoa.calls a0 t178 _ ?side1 A3.out).mono ?_); (case side1 => exact GLW_below HG.out bB); rintro e w5 ⟨rfl, hb⟩; refine ⟨_, rfl, ?_⟩; have n0_ := Aside0.mk (below_step bB hb); clear HB; have HB := n0_; clear n0_; (try clear hb); (try clear hb2); (try clear hk); (try clear hi)))
  go_ret
  exact ⟨by first | rfl | (simp [errW_none, errW_some] <;> rfl) | (simp [*, errW_none, errW_some] <;> rfl), bB⟩
 ·rw [if_neg c4] at H
  have c4b0 : decide (a0 < 0) = false := decide_eq_false c4
  clear c4
  replace H := Option.bind_eq_some_iff.mp H
  obtain ⟨t179, A60, H⟩ := H
  replace H : (if t179 = true then (if (t178.size : Int) > a1 then (some (⟨#[]⟩ : ByteArray)) else ((strings_Repeat.f (⟨#[48]⟩ : ByteArray) (wrap64 (a1 - (t178.size : Int)))).bind fun t180 => (if t180.size + t178.size ≤ 9223372036854775807 then (some (t180 ++ t178)) else (none)))) else (some (⟨#[]⟩ : ByteArray))) = some r := H
  have A6 := Aside0.mk A60
  clear A60
  by_cases c7 : t179 = true
  ·subst c7
   have H1 : (if (t178.size : Int) > a1 then (some (⟨#[]⟩ : ByteArray)) else ((strings_Repeat.f (⟨#[48]⟩ : ByteArray) (wrap64 (a1 - (t178.size : Int)))).bind fun t180 => (if t180.size + t178.size ≤ 9223372036854775807 then (some (t180 ++ t178)) else (none)))) = some r := by rw [if_pos rfl] at H; exact H
   clear H
   have H := H1
   clear H1
   by_cases c8 : (t178.size : Int) > a1
   ·rw [if_pos c8] at H
    have c8b0 : decide (a1 < (t178.size : Int)) = true := decide_eq_true c8
    clear c8
    obtain rfl := Option.some.inj H
    go_enter Tryd.func47, Tryd.ntmps47
    go_wp2_with (first | ((with_reducible refine gate_callee (f := 77) rfl ?_); refine goesM_ (some 7) rfl rfl Tryd.func77 (by kernel_rfl) rfl #[.int .i64 a0] rfl ?_; (with_reducible refine (strconv_Itoa.calls a0 t178 _ ?side1 A3.out).mono ?_); (case side1 => exact GLW_below HG.out bB); rintro e w9 ⟨rfl, hb⟩; refine ⟨_, rfl, ?_⟩; have n0_ := Aside0.mk (below_step bB hb); clear HB; have HB := n0_; clear n0_; (try clear hb); (try clear hb2); (try clear hk); (try clear hi)) | (go_at_call 45; (with_reducible refine (impl_within.calls a1 1 18 true _ A6.out).mono ?_); rintro e w' ⟨rfl, ⟨nd, rfl⟩⟩))
    go_ret
    exact ⟨by first | rfl | (simp [errW_none, errW_some] <;> rfl) | (simp [*, errW_none, errW_some] <;> rfl), bB⟩
   ·rw [if_neg c8] at H
    have c8b0 : decide (a1 < (t178.size : Int)) = false := decide_eq_false c8
    clear c8
    replace H := Option.bind_eq_some_iff.mp H
    obtain ⟨t180, A100, H⟩ := H
    replace H : (if t180.size + t178.size ≤ 9223372036854775807 then (some (t180 ++ t178)) else (none)) = some r := H
    have A10 := Aside0.mk A100
    clear A100
    by_cases c11 : t180.size + t178.size ≤ 9223372036854775807
    ·rw [if_pos c11] at H
     have c11b0 := eq_true c11
     have c11b1 : decide (t180.size + t178.size ≤ 9223372036854775807) = true := decide_eq_true c11
     try have c11b2 : (9223372036854775807 < t180.size + t178.size) = False := eq_false (Nat.not_lt.2 c11)
     try (have c11b3 := c11b2; simp only [ByteArray.size_append, ByteArray.size_extract, Nat.sub_zero, Nat.min_self] at c11b3)
     obtain rfl := Option.some.inj H
     go_enter Tryd.func47, Tryd.ntmps47
     go_wp2_with (first | ((with_reducible refine gate_callee (f := 77) rfl ?_); refine goesM_ (some 7) rfl rfl Tryd.func77 (by kernel_rfl) rfl #[.int .i64 a0] rfl ?_; (with_reducible refine (strconv_Itoa.calls a0 t178 _ ?side1 A3.out).mono ?_); (case side1 => exact GLW_below HG.out bB); rintro e w12 ⟨rfl, hb⟩; refine ⟨_, rfl, ?_⟩; have n0_ := Aside0.mk (below_step bB hb); clear HB; have HB := n0_; clear n0_; (try clear hb); (try clear hb2); (try clear hk); (try clear hi)) | (go_at_call 45; (with_reducible refine (impl_within.calls a1 1 18 true _ A6.out).mono ?_); rintro e w' ⟨rfl, ⟨nd, rfl⟩⟩) | ((with_reducible refine gate_callee (f := 68) rfl ?_); refine goesM_ (some 25) rfl rfl Tryd.func68 (by kernel_rfl) rfl #[.string (⟨#[48]⟩ : ByteArray), .int .i64 (wrap64 (a1 - (t178.size : Int)))] rfl ?_; (with_reducible refine (strings_Repeat.calls (⟨#[48]⟩ : ByteArray) (wrap64 (a1 - (t178.size : Int))) t180 _ A10.out).mono ?_); rintro e w13 ⟨rfl, hb⟩; refine ⟨_, rfl, ?_⟩; have n0_ := Aside0.mk (below_step bB hb); clear HB; have HB := n0_; clear n0_; (try clear hb); (try clear hb2); (try clear hk); (try clear hi)))
     go_ret
     exact ⟨by first | rfl | (simp [errW_none, errW_some] <;> rfl) | (simp [*, errW_none, errW_some] <;> rfl), bB⟩
    ·rw [if_neg c11] at H
     exact absurd H (by simp)
  ·replace c7 := Bool.eq_false_iff.mpr c7
   subst c7
   have H1 : (some (⟨#[]⟩ : ByteArray)) = some r := by rw [if_neg (show ¬ (false = true) by decide)] at H; exact H
   clear H
   have H := H1
   clear H1
   obtain rfl := Option.some.inj H
   go_enter Tryd.func47, Tryd.ntmps47
   go_wp2_with (first | ((with_reducible refine gate_callee (f := 77) rfl ?_); refine goesM_ (some 7) rfl rfl Tryd.func77 (by kernel_rfl) rfl #[.int .i64 a0] rfl ?_; (with_reducible refine (strconv_Itoa.calls a0 t178 _ ?side1 A3.out).mono ?_); (case side1 => exact GLW_below HG.out bB); rintro e w14 ⟨rfl, hb⟩; refine ⟨_, rfl, ?_⟩; have n0_ := Aside0.mk (below_step bB hb); clear HB; have HB := n0_; clear n0_; (try clear hb); (try clear hb2); (try clear hk); (try clear hi)) | (go_at_call 45; (with_reducible refine (impl_within.calls a1 1 18 false _ A6.out).mono ?_); rintro e w' ⟨rfl, ⟨nd, rfl⟩⟩))
   go_ret
   exact ⟨by first | rfl | (simp [errW_none, errW_some] <;> rfl) | (simp [*, errW_none, errW_some] <;> rfl), bB⟩
def impl_PutLen.f (k : Nat) (a0 : Int) (a1 : Int) : Option (List Int × Bool) := (impl_within.f a1 2 3).bind fun t181 => (if t181 = true then ((impl_Wide.f a0 a1).bind fun t182 => ((impl_PutBcd.f k t182).bind fun bt183 => (some (bt183.1, bt183.2)))) else (some (([] : List Int), false)))
set_option maxHeartbeats 8000000 in
set_option maxRecDepth 100000 in
theorem impl_PutLen.calls (k : Nat) (a0 : Int) (a1 : Int) (r1 : List Int) (r2 : Bool) (w : World) (hG : GLW w) (h : impl_PutLen.f k a0 a1 = some (r1, r2)) :
  Calls Tryd.prog 13 #[.int .i64 a0, .int .i64 a1] w fun e w' => ∃ v0_ : Value, e = .returned (.tuple #[v0_, .bool r2]) ∧ Kd.R (Kd.int .u8) 5 w' w.heap.size (fun _ => True) v0_ r1 ∧ Below w.heap.size w w' := by
 have HB := Aside0.mk (Below.refl w.heap.size w)
 have HG := Aside0.mk hG
 clear hG
 have H : ((impl_within.f a1 2 3).bind fun t181 => (if t181 = true then ((impl_Wide.f a0 a1).bind fun t182 => ((impl_PutBcd.f k t182).bind fun bt183 => (some (bt183.1, bt183.2)))) else (some (([] : List Int), false)))) = some (r1, r2) := h
 clear h
 replace H := Option.bind_eq_some_iff.mp H
 obtain ⟨t181, A30, H⟩ := H
 replace H : (if t181 = true then ((impl_Wide.f a0 a1).bind fun t182 => ((impl_PutBcd.f k t182).bind fun bt183 => (some (bt183.1, bt183.2)))) else (some (([] : List Int), false))) = some (r1, r2) := H
 have A3 := Aside0.mk A30
 clear A30
 by_cases c4 : t181 = true
 ·subst c4
  have H1 : ((impl_Wide.f a0 a1).bind fun t182 => ((impl_PutBcd.f k t182).bind fun bt183 => (some (bt183.1, bt183.2)))) = some (r1, r2) := by rw [if_pos rfl] at H; exact H
  clear H
  have H := H1
  clear H1
  replace H := Option.bind_eq_some_iff.mp H
  obtain ⟨t182, A50, H⟩ := H
  replace H : ((impl_PutBcd.f k t182).bind fun bt183 => (some (bt183.1, bt183.2))) = some (r1, r2) := H
  have A5 := Aside0.mk A50
  clear A50
  replace H := Option.bind_eq_some_iff.mp H
  obtain ⟨⟨t183, t184⟩, A60, H⟩ := H
  replace H : (some (t183, t184)) = some (r1, r2) := H
  have A6 := Aside0.mk A60
  clear A60
  simp only [Option.some.injEq, Prod.mk.injEq] at H
  obtain ⟨rfl, rfl⟩ := H
  go_enter Tryd.func13, Tryd.ntmps13
  go_wp2_with (first | ((with_reducible refine gate_callee (f := 45) rfl ?_); refine goesM_ (some 7) rfl rfl Tryd.func45 (by kernel_rfl) rfl #[.int .i64 a1, .int .i64 2, .int .i64 3] rfl ?_; (with_reducible refine (impl_within.calls a1 2 3 true _ A3.out).mono ?_); rintro e w' ⟨rfl, ⟨nd, rfl⟩⟩; refine ⟨_, rfl, ?_⟩) | ((with_reducible refine gate_callee (f := 47) rfl ?_); refine goesM_ (some 11) rfl rfl Tryd.func47 (by kernel_rfl) rfl #[.int .i64 a0, .int .i64 a1] rfl ?_; (with_reducible refine (impl_Wide.calls a0 a1 t182 _ ?side1 A5.out).mono ?_); (case side1 => exact GLW_below HG.out bB); rintro e w7 ⟨rfl, hb⟩; refine ⟨_, rfl, ?_⟩; have n0_ := Aside0.mk (below_step bB hb); clear HB; have HB := n0_; clear n0_; (try clear hb); (try clear hb2); (try clear hk); (try clear hi)) | ((with_reducible refine gate_callee (f := 10) rfl ?_); refine goesM_ (some 12) rfl rfl Tryd.func10 (by kernel_rfl) rfl #[.string t182] rfl ?_; (with_reducible refine (impl_PutBcd.calls k t182 t183 t184 _ A6.out).mono ?_); rintro e w8 ⟨v185, rfl, ho0, hb⟩; refine ⟨_, rfl, ?_⟩; have n0_ := Aside0.mk (Kd.R_lower ho0 (below_size bB)); have n1_ := Aside0.mk (below_step bB hb); clear HB; have HO186 := n0_; have HB := n1_; clear n0_ n1_; (try clear hb); (try clear hb2); (try clear hk); (try clear hi); (try clear ho0)))
  go_ret2
  exact ⟨_, by first | rfl | (simp [errW_none, errW_some] <;> rfl) | (simp [*, errW_none, errW_some] <;> rfl), rA HO186.out, bB⟩
 ·replace c4 := Bool.eq_false_iff.mpr c4
  subst c4
  have H1 : (some (([] : List Int), false)) = some (r1, r2) := by rw [if_neg (show ¬ (false = true) by decide)] at H; exact H
  clear H
  have H := H1
  clear H1
  simp only [Option.some.injEq, Prod.mk.injEq] at H
  obtain ⟨rfl, rfl⟩ := H
  go_enter Tryd.func13, Tryd.ntmps13
  go_wp2_with (first | ((with_reducible refine gate_callee (f := 45) rfl ?_); refine goesM_ (some 7) rfl rfl Tryd.func45 (by kernel_rfl) rfl #[.int .i64 a1, .int .i64 2, .int .i64 3] rfl ?_; (with_reducible refine (impl_within.calls a1 2 3 false _ A3.out).mono ?_); rintro e w' ⟨rfl, ⟨nd, rfl⟩⟩; refine ⟨_, rfl, ?_⟩))
  go_ret2
  exact ⟨_, by first | rfl | (simp [errW_none, errW_some] <;> rfl) | (simp [*, errW_none, errW_some] <;> rfl), by first | exact Kd.R_nil _ _ _ _ _ | exact Kd.N_nil _ _ _ _ _ | exact Kd.V_nil _ _ _ _ _ | exact Kd.Q_nil _ _ _ _ _ | exact Kd.S_nil _ _ _ _ _, bB⟩
attribute [local go_sem] max2_int min2_int max_two min_two max_three min_three max_four min_four
set_option linter.unusedVariables false
set_option linter.unusedSimpArgs false
mutual
def spec_Wide.j0 : Nat → Int → ByteArray → Bool → Option (ByteArray)
 | 0, _, _, _ => none
 | k + 1, x1, x5, x23 => if x23 = true then (some (⟨#[]⟩ : ByteArray)) else (spec_Wide.l0 k x1 x5)
def spec_Wide.l0 : Nat → Int → ByteArray → Option (ByteArray)
 | 0, _, _ => none
 | k + 1, x1, x5 => if (x5.size : Int) < x1 then (if 1 + x5.size ≤ 9223372036854775807 then (spec_Wide.l0 k x1 ((⟨#[48]⟩ : ByteArray) ++ x5)) else (none)) else (some x5)
end
def spec_Wide.f (k : Nat) (a0 : Int) (a1 : Int) : Option (ByteArray) := (spec_NumText.f k a0).bind fun t289 => (if t289.toList = ([] : List UInt8) then (spec_Wide.j0 k a1 t289 true) else (if a1 < 1 then (spec_Wide.j0 k a1 t289 true) else (if a1 > 18 then (spec_Wide.j0 k a1 t289 true) else (spec_Wide.j0 k a1 t289 (decide ((t289.size : Int) > a1))))))
set_option maxHeartbeats 8000000 in
set_option maxRecDepth 100000 in
theorem spec_Wide.calls (k : Nat) (a0 : Int) (a1 : Int) (r : ByteArray) (w : World) (h : spec_Wide.f k a0 a1 = some r) :
  Calls Tryd.prog 84 #[.int .i64 a0, .int .i64 a1] w fun e w' => e = .returned (.string r) ∧ Below w.heap.size w w' := by
 have HB := Aside0.mk (Below.refl w.heap.size w)
 have H : ((spec_NumText.f k a0).bind fun t289 => (if t289.toList = ([] : List UInt8) then (spec_Wide.j0 k a1 t289 true) else (if a1 < 1 then (spec_Wide.j0 k a1 t289 true) else (if a1 > 18 then (spec_Wide.j0 k a1 t289 true) else (spec_Wide.j0 k a1 t289 (decide ((t289.size : Int) > a1))))))) = some r := h
 clear h
 replace H := Option.bind_eq_some_iff.mp H
 obtain ⟨t289, A30, H⟩ := H
 replace H : (if t289.toList = ([] : List UInt8) then (spec_Wide.j0 k a1 t289 true) else (if a1 < 1 then (spec_Wide.j0 k a1 t289 true) else (if a1 > 18 then (spec_Wide.j0 k a1 t289 true) else (spec_Wide.j0 k a1 t289 (decide ((t289.size : Int) > a1)))))) = some r := H
 have A3 := Aside0.mk A30
 clear A30
 have HC4 := Aside0.mk H
 clear H
 go_enter Tryd.func84, Tryd.ntmps84
 go_upto_region 2 with (first | ((with_reducible refine gate_callee (f := 100) rfl ?_); refine goesM_ (some 7) rfl rfl Tryd.func100 (by kernel_rfl) rfl #[.int .i64 a0] rfl ?_; (with_reducible refine (spec_NumText.calls k a0 t289 _ A3.out).mono ?_); rintro e w5 ⟨rfl, hb⟩; refine ⟨_, rfl, ?_⟩; have n0_ := Aside0.mk (below_step bB hb); clear HB; have HB := n0_; clear n0_; (try clear hb); (try clear hb2); (try clear hk); (try clear hi)))
 (try simp only [Act.put, List.setIfInBounds_toArray, List.set_cons_zero, List.set_cons_succ])
 go_cut [23] (fun v23 wc => ∃ (kq : Nat) (x23_3 : Bool), v23 = .bool x23_3 ∧ Aside0 (spec_Wide.j0 kq a1 t289 x23_3 = some r) ∧ Aside0 (kq ≤ k) ∧ Aside0 (Below w.heap.size w wc))
 case first =>
  have H := HC4.out
  clear HC4
  by_cases c6 : t289.toList = ([] : List UInt8)
  ·rw [if_pos c6] at H
   have c6b0 : (t289.toList == ([] : List UInt8)) = true := beq_iff_eq.mpr c6
   have c6b1 : (t289.toList != ([] : List UInt8)) = false := bne_eq_false_iff_eq.mpr c6
   clear c6
   (first | rw [c6b0] | (simp only [i64_w, i32_w]; rw [c6b0]) | rw [c6b1] | (simp only [c6b1]) | skip)
   have H' := Aside0.mk H
   clear H
   go_wp2
   go_meet
   case rel => exact ⟨_, (true), (by first | rfl | (simp; done) | (simp [*]; done) | (simp [i64_w, IntKind.wrap_u8, e256_]; done) | (simp; generalize ByteArray.toList _ = zz_; cases zz_ <;> rfl)), H', ⟨by first | omega | exact Nat.le_refl _⟩, ⟨bB⟩⟩
  ·rw [if_neg c6] at H
   have c6b0 : (t289.toList == ([] : List UInt8)) = false := beq_eq_false_iff_ne.mpr c6
   have c6b1 : (t289.toList != ([] : List UInt8)) = true := bne_iff_ne.mpr c6
   (first | rw [c6b0] | (simp only [i64_w, i32_w]; rw [c6b0]) | rw [c6b1] | (simp only [c6b1]) | skip)
   by_cases c7 : a1 < 1
   ·rw [if_pos c7] at H
    have c7b0 : decide (a1 < 1) = true := decide_eq_true c7
    clear c7
    have H' := Aside0.mk H
    clear H
    go_wp2
    go_meet
    case rel => exact ⟨_, (true), (by first | rfl | (simp; done) | (simp [*]; done) | (simp [i64_w, IntKind.wrap_u8, e256_]; done) | (simp; generalize ByteArray.toList _ = zz_; cases zz_ <;> rfl)), H', ⟨by first | omega | exact Nat.le_refl _⟩, ⟨bB⟩⟩
   ·rw [if_neg c7] at H
    have c7b0 : decide (a1 < 1) = false := decide_eq_false c7
    clear c7
    by_cases c8 : a1 > 18
    ·rw [if_pos c8] at H
     have c8b0 : decide (18 < a1) = true := decide_eq_true c8
     clear c8
     have H' := Aside0.mk H
     clear H
     go_wp2
     go_meet
     case rel => exact ⟨_, (true), (by first | rfl | (simp; done) | (simp [*]; done) | (simp [i64_w, IntKind.wrap_u8, e256_]; done) | (simp; generalize ByteArray.toList _ = zz_; cases zz_ <;> rfl)), H', ⟨by first | omega | exact Nat.le_refl _⟩, ⟨bB⟩⟩
    ·rw [if_neg c8] at H
     have c8b0 : decide (18 < a1) = false := decide_eq_false c8
     clear c8
     have H' := Aside0.mk H
     clear H
     go_wp2
     go_meet
     case rel => exact ⟨_, (decide ((t289.size : Int) > a1)), (by first | rfl | (simp; done) | (simp [*]; done) | (simp [i64_w, IntKind.wrap_u8, e256_]; done) | (simp; generalize ByteArray.toList _ = zz_; cases zz_ <;> rfl)), H', ⟨by first | omega | exact Nat.le_refl _⟩, ⟨bB⟩⟩
 case rest =>
  clear HC4
  try clear c1
  try clear p2
  try clear c6
  try clear c6b0
  try clear c6b1
  try clear p6
  try clear c7
  try clear c7b0
  try clear c8
  try clear c8b0
  obtain ⟨kq, x23_3, rfl, HA, HJ3, HB⟩ := hcut
  cases kq with
  | zero => exact absurd HA.out (by simp [spec_Wide.j0])
  | succ kj3 =>
   have H := HA.out
   clear HA
   simp only [spec_Wide.j0] at H
   by_cases c9 : x23_3 = true
   ·subst c9
    have H1 : (some (⟨#[]⟩ : ByteArray)) = some r := by rw [if_pos rfl] at H; exact H
    clear H
    have H := H1
    clear H1
    obtain rfl := Option.some.inj H
    go_wp2
    go_ret
    exact ⟨by first | rfl | (simp [errW_none, errW_some] <;> rfl) | (simp [*, errW_none, errW_some] <;> rfl), bB⟩
   ·replace c9 := Bool.eq_false_iff.mpr c9
    subst c9
    have H1 : (spec_Wide.l0 kj3 a1 t289) = some r := by rw [if_neg (show ¬ (false = true) by decide)] at H; exact H
    clear H
    have H := H1
    clear H1
    have H' := Aside0.mk H
    clear H
    go_wp2
    go_loopg [5] kj3 (fun kq v5 w' => ∃ (x5_2 : ByteArray), v5 = .string x5_2 ∧ Aside0 (spec_Wide.l0 kq a1 x5_2 = some r) ∧ Aside0 (kq ≤ kj3) ∧ Aside0 (Below w.heap.size w w'))
    case atStart => exact ⟨(t289), (by first | rfl | (simp; done) | (simp [*]; done) | (simp [i64_w, IntKind.wrap_u8, e256_]; done) | (simp; generalize ByteArray.toList _ = zz_; cases zz_ <;> rfl)), H', ⟨Nat.le_refl _⟩, ⟨bB⟩⟩
    case round =>
     clear H'
     try clear c1
     try clear p2
     try clear c6
     try clear c6b0
     try clear c6b1
     try clear p6
     try clear c7
     try clear c7b0
     try clear c8
     try clear c8b0
     try clear c9
     try clear p2
     try clear p6
     obtain ⟨x5_2, rfl, HA, HK2, HB⟩ := hrel
     cases gk with
     | zero => exact absurd HA.out (by simp [spec_Wide.l0])
     | succ k2 =>
      have H := HA.out
      clear HA
      simp only [spec_Wide.l0] at H
      by_cases c10 : (x5_2.size : Int) < a1
      ·rw [if_pos c10] at H
       have c10b0 : decide ((x5_2.size : Int) < a1) = true := decide_eq_true c10
       clear c10
       by_cases c11 : 1 + x5_2.size ≤ 9223372036854775807
       ·rw [if_pos c11] at H
        have c11b0 := eq_true c11
        have c11b1 : decide (1 + x5_2.size ≤ 9223372036854775807) = true := decide_eq_true c11
        try have c11b2 : (9223372036854775807 < 1 + x5_2.size) = False := eq_false (Nat.not_lt.2 c11)
        try (have c11b3 := c11b2; simp only [ByteArray.size_append, ByteArray.size_extract, Nat.sub_zero, Nat.min_self] at c11b3)
        have H' := Aside0.mk H
        clear H
        go_wp2
        go_roundg k2
        case measure => have := HJ3.out; have := HK2.out; omega
        case rel => exact ⟨((⟨#[48]⟩ : ByteArray) ++ x5_2), (by first | rfl | (simp; done) | (simp [*]; done) | (simp [i64_w, IntKind.wrap_u8, e256_]; done) | (simp; generalize ByteArray.toList _ = zz_; cases zz_ <;> rfl)), H', ⟨by have := HJ3.out; have := HK2.out; omega⟩, ⟨bB⟩⟩
       ·rw [if_neg c11] at H
        exact absurd H (by simp)
      ·rw [if_neg c10] at H
       have c10b0 : decide ((x5_2.size : Int) < a1) = false := decide_eq_false c10
       clear c10
       obtain rfl := Option.some.inj H
       go_wp2
       go_ret
       exact ⟨by first | rfl | (simp [errW_none, errW_some] <;> rfl) | (simp [*, errW_none, errW_some] <;> rfl), bB⟩
end Go.Proofs.YtfiieppnpmodoaaDoor.Q
end
section
namespace Go.Proofs.YtfiieppnpmodoaaDoor.Q
open Go.RowKit Go.Proofs.YtfiieppnpmodoaaDoorW.PrintWords Go.Proofs.YtfiieppnpmodoaaDoorW.PrintLast Go.Proofs.YtfiieppnpmodoaaDoorW.PrintMore
set_option linter.unusedVariables false
set_option linter.unusedSimpArgs false
def wide (n w : Int) : ByteArray :=
  if 0 ≤ n ∧ 1 ≤ w ∧ w ≤ 18 ∧ ((decS n.toNat).size : Int) ≤ w then rep 48 (w - (decS n.toNat).size).toNat ++ decS n.toNat else ⟨#[]⟩
theorem decS_size (n : Nat) : (decS n).size = (decL n).length := by rw [size_eq, bytesOf_decS]
theorem decL_pos (n : Nat) : 0 < (decL n).length := by
  by_cases q : n < 10
  · rw [decL_small n q]; simp
  · rw [decL_step n q]; simp
theorem decS_toList (n : Nat) : ¬ (decS n).toList = [] := by
  intro h
  have := decL_pos n
  rw [← decS_size] at this
  have h2 : (decS n).toList.length = (decS n).size := by rw [ByteArray.toList_eq]; exact Array.length_toList
  rw [h] at h2
  simp at h2
  omega
theorem decL_long (n : Nat) : ∀ d : Nat, 10 ^ d ≤ n → d + 1 ≤ (decL n).length := by
  intro d
  induction d generalizing n with
  | zero => intro _; exact decL_pos n
  | succ d ih =>
    intro h
    have hp : 10 ^ (d + 1) = 10 ^ d * 10 := Nat.pow_succ 10 d
    have h1 : 0 < 10 ^ d := Nat.pos_of_ne_zero (by intro h0; simp at h0)
    have q : ¬ n < 10 := by omega
    rw [decL_step n q, List.length_append]
    have := ih (n / 10) (by omega)
    simp
    omega
theorem spec_Wide_l (w : Int) (hw : w ≤ 18) : ∀ (d k : Nat) (s : ByteArray), (s.size : Int) + d = w → d < k → spec_Wide.l0 k w s = some (rep 48 d ++ s) := by
  intro d
  induction d with
  | zero =>
    intro k s hd hk
    obtain ⟨k, rfl⟩ : ∃ m, k = m + 1 := ⟨k - 1, by omega⟩
    have c1 : ¬ (s.size : Int) < w := by omega
    simp only [spec_Wide.l0, if_neg c1]
    rw [rep_zero, nil_app]
  | succ d ih =>
    intro k s hd hk
    obtain ⟨k, rfl⟩ : ∃ m, k = m + 1 := ⟨k - 1, by omega⟩
    have c1 : (s.size : Int) < w := by omega
    have hz : ((⟨#[48]⟩ : ByteArray) ++ s).size = s.size + 1 := by rw [ByteArray.size_append]; exact Nat.add_comm _ _
    simp only [spec_Wide.l0, if_pos c1]
    rw [if_pos (by omega), ih k _ (by omega) (by omega), ← app_assoc, rep_front]
theorem spec_Wide_at (n w : Int) (h1 : n ≤ 9223372036854775807) (k : Nat) (hk : 60 < k) : spec_Wide.f k n w = some (wide n w) := by
  obtain ⟨k, rfl⟩ : ∃ m, k = m + 1 := ⟨k - 1, by omega⟩
  have hno : ¬ (0 ≤ n ∧ 1 ≤ w ∧ w ≤ 18 ∧ ((decS n.toNat).size : Int) ≤ w) → ∀ s, spec_Wide.j0 (k + 1) w s true = some (wide n w) := by
    intro h s
    unfold wide
    rw [if_neg h, spec_Wide.j0, if_pos rfl]
  unfold spec_Wide.f
  rw [spec_NumText_at n (k + 1) (by omega), Option.bind_some]
  by_cases hn : 0 ≤ n ∧ n ≤ 4611686018427387904
  · have e : numText n = decS n.toNat := by unfold numText; rw [if_pos hn]
    rw [e, if_neg (decS_toList _)]
    by_cases c1 : w < 1
    · rw [if_pos c1]; exact hno (by omega) _
    by_cases c2 : w > 18
    · rw [if_neg c1, if_pos c2]; exact hno (by omega) _
    by_cases c3 : ((decS n.toNat).size : Int) > w
    · rw [if_neg c1, if_neg c2, decide_eq_true c3]; exact hno (by omega) _
    rw [if_neg c1, if_neg c2, decide_eq_false c3, spec_Wide.j0, if_neg (by simp), spec_Wide_l w (by omega) (w - (decS n.toNat).size).toNat k _ (by omega) (by omega)]
    unfold wide
    rw [if_pos (by omega)]
  · have e : numText n = ⟨#[]⟩ := by unfold numText; rw [if_neg hn]
    rw [e, if_pos (by rw [ByteArray.toList_eq])]
    refine hno ?_ _
    by_cases h0 : 0 ≤ n
    · have := decL_long n.toNat 18 (by omega)
      rw [decS_size]
      omega
    · omega
theorem impl_Wide_at (n w : Int) (h0 : -9223372036854775808 ≤ n) (h1 : n ≤ 9223372036854775807) : impl_Wide.f n w = some (wide n w) := by
  unfold impl_Wide.f
  have hi : strconv_Itoa.f n = some (⟨(Lib.itoa n).toArray⟩ : ByteArray) := by unfold strconv_Itoa.f; rw [if_pos ⟨h0, h1⟩]
  by_cases hn : n < 0
  · rw [hi, Option.bind_some, if_pos hn]
    unfold wide
    rw [if_neg (by omega)]
  rw [itoa_at n (by omega) h1, Option.bind_some, if_neg hn]
  have hin : impl_within.f w 1 18 = some (decide (1 ≤ w ∧ w ≤ 18)) := by
    unfold impl_within.f
    by_cases h : 1 ≤ w
    · rw [if_pos h]; simp [h]
    · rw [if_neg h]; simp [h]
  rw [hin, Option.bind_some]
  unfold wide
  by_cases hw : 1 ≤ w ∧ w ≤ 18
  · rw [if_pos (decide_eq_true hw)]
    by_cases hz : ((decS n.toNat).size : Int) > w
    · rw [if_pos hz, if_neg (by omega)]
    · have e : wrap64 (w - ((decS n.toNat).size : Int)) = w - ((decS n.toNat).size : Int) := w64id (by omega) (by omega)
      rw [if_neg hz, e, repeat_at 48 _ (by omega) (by omega), Option.bind_some]
      have hz2 : (rep 48 (w - ((decS n.toNat).size : Int)).toNat).size ≤ 18 := by rw [rep_size]; omega
      rw [if_pos (by omega), if_pos (by omega)]
  · rw [if_neg (by simpa using hw), if_neg (by omega)]
end Go.Proofs.YtfiieppnpmodoaaDoor.Q
end
section
namespace Go.Proofs.YtfiieppnpmodoaaDoor.Q
open Go.RowKit Go.Proofs.YtfiieppnpmodoaaDoorW.PrintWords Go.Proofs.YtfiieppnpmodoaaDoorW.PrintLast Go.Proofs.YtfiieppnpmodoaaDoorW.PrintMore
attribute [local go_sem] max2_int min2_int max_two min_two max_three min_three max_four min_four
set_option linter.unusedVariables false
set_option linter.unusedSimpArgs false
def spec_Digits.l0 : Nat → ByteArray → Int → Option (Bool)
 | 0, _, _ => none
 | k + 1, x0, x3 => if x3 < (x0.size : Int) then (if 0 ≤ x3 then (if (bt x0 x3) < 48 then (some false) else (if (bt x0 x3) > 57 then (some false) else (spec_Digits.l0 k x0 (wrap64 (x3 + 1))))) else (none)) else (some (decide ((x0.size : Int) > 0)))
def spec_Digits.f (k : Nat) (a0 : ByteArray) : Option (Bool) := spec_Digits.l0 k a0 0
set_option maxHeartbeats 8000000 in
set_option maxRecDepth 100000 in
theorem spec_Digits.calls (k : Nat) (a0 : ByteArray) (r : Bool) (w : World) (h : spec_Digits.f k a0 = some r) :
  Calls Tryd.prog 81 #[.string a0] w fun e w' => e = .returned (.bool r) ∧ Drawn0 w w' := by
 have H : (spec_Digits.l0 k a0 0) = some r := h
 clear h
 have H' := Aside0.mk H
 clear H
 go_enter Tryd.func81, Tryd.ntmps81
 go_wp2
 go_loopg [3] k (fun kq v3 w' => ∃ (x3_1 : Int), v3 = .int .i64 x3_1 ∧ Aside0 (spec_Digits.l0 kq a0 x3_1 = some r) ∧ Aside0 (kq ≤ k) ∧ Drawn0 w w')
 case atStart => exact ⟨(0), (by first | rfl | (simp; done) | (simp [*]; done) | (simp [i64_w, IntKind.wrap_u8, e256_]; done) | (simp; generalize ByteArray.toList _ = zz_; cases zz_ <;> rfl)), H', ⟨Nat.le_refl _⟩, by repeat (first | exact Drawn0.refl _ | apply Drawn0.step)⟩
 case round =>
  clear H'
  obtain ⟨x3_1, rfl, HA, HK1, ⟨m1, rfl⟩⟩ := hrel
  cases gk with
  | zero => exact absurd HA.out (by simp [spec_Digits.l0])
  | succ k1 =>
   have H := HA.out
   clear HA
   simp only [spec_Digits.l0] at H
   by_cases c2 : x3_1 < (a0.size : Int)
   ·rw [if_pos c2] at H
    have c2b0 : decide (x3_1 < (a0.size : Int)) = true := decide_eq_true c2
    clear c2
    by_cases c3 : 0 ≤ x3_1
    ·rw [if_pos c3] at H
     have c3b0 : decide (0 ≤ x3_1) = true := decide_eq_true c3
     clear c3
     by_cases c5 : (bt a0 x3_1) < 48
     ·rw [if_pos c5] at H
      have c5b0 : decide ((bt a0 x3_1) < 48) = true := decide_eq_true c5
      clear c5
      obtain rfl := Option.some.inj H
      have p4 : 0 ≤ (x3_1 : Int) := of_decide_eq_true (by first | (with_reducible assumption) | assumption)
      have q4 : x3_1 < (a0.size : Int) := of_decide_eq_true (by first | (with_reducible assumption) | assumption)
      have hx4 := bt_at a0 x3_1
      replace p4 := eq_true p4
      replace q4 := eq_true q4
      go_wp2
      go_ret
      exact ⟨by first | rfl | (simp; done) | (simp [*]; done) | (simp [i64_w, IntKind.wrap_u8, e256_]; done) | (simp; generalize ByteArray.toList _ = zz_; cases zz_ <;> rfl), by repeat (first | exact Drawn0.refl _ | apply Drawn0.step)⟩
     ·rw [if_neg c5] at H
      have c5b0 : decide ((bt a0 x3_1) < 48) = false := decide_eq_false c5
      clear c5
      by_cases c7 : (bt a0 x3_1) > 57
      ·rw [if_pos c7] at H
       have c7b0 : decide (57 < (bt a0 x3_1)) = true := decide_eq_true c7
       clear c7
       obtain rfl := Option.some.inj H
       have p4 : 0 ≤ (x3_1 : Int) := of_decide_eq_true (by first | (with_reducible assumption) | assumption)
       have q4 : x3_1 < (a0.size : Int) := of_decide_eq_true (by first | (with_reducible assumption) | assumption)
       have hx4 := bt_at a0 x3_1
       replace p4 := eq_true p4
       replace q4 := eq_true q4
       have p6 : 0 ≤ (x3_1 : Int) := of_decide_eq_true (by first | (with_reducible assumption) | assumption)
       have q6 : x3_1 < (a0.size : Int) := of_decide_eq_true (by first | (with_reducible assumption) | assumption)
       have hx6 := bt_at a0 x3_1
       replace p6 := eq_true p6
       replace q6 := eq_true q6
       go_wp2
       go_ret
       exact ⟨by first | rfl | (simp; done) | (simp [*]; done) | (simp [i64_w, IntKind.wrap_u8, e256_]; done) | (simp; generalize ByteArray.toList _ = zz_; cases zz_ <;> rfl), by repeat (first | exact Drawn0.refl _ | apply Drawn0.step)⟩
      ·rw [if_neg c7] at H
       have c7b0 : decide (57 < (bt a0 x3_1)) = false := decide_eq_false c7
       clear c7
       have H' := Aside0.mk H
       clear H
       have p4 : 0 ≤ (x3_1 : Int) := of_decide_eq_true (by first | (with_reducible assumption) | assumption)
       have q4 : x3_1 < (a0.size : Int) := of_decide_eq_true (by first | (with_reducible assumption) | assumption)
       have hx4 := bt_at a0 x3_1
       replace p4 := eq_true p4
       replace q4 := eq_true q4
       have p6 : 0 ≤ (x3_1 : Int) := of_decide_eq_true (by first | (with_reducible assumption) | assumption)
       have q6 : x3_1 < (a0.size : Int) := of_decide_eq_true (by first | (with_reducible assumption) | assumption)
       have hx6 := bt_at a0 x3_1
       replace p6 := eq_true p6
       replace q6 := eq_true q6
       go_wp2
       go_roundg k1
       case measure => have := HK1.out; omega
       case rel => exact ⟨(wrap64 (x3_1 + 1)), (by first | rfl | (simp; done) | (simp [*]; done) | (simp [i64_w, IntKind.wrap_u8, e256_]; done) | (simp; generalize ByteArray.toList _ = zz_; cases zz_ <;> rfl)), H', ⟨by have := HK1.out; omega⟩, by repeat (first | exact Drawn0.refl _ | apply Drawn0.step)⟩
    ·rw [if_neg c3] at H
     exact absurd H (by simp)
   ·rw [if_neg c2] at H
    have c2b0 : decide (x3_1 < (a0.size : Int)) = false := decide_eq_false c2
    clear c2
    obtain rfl := Option.some.inj H
    go_wp2
    go_ret
    exact ⟨by first | rfl | (simp; done) | (simp [*]; done) | (simp [i64_w, IntKind.wrap_u8, e256_]; done) | (simp; generalize ByteArray.toList _ = zz_; cases zz_ <;> rfl), by repeat (first | exact Drawn0.refl _ | apply Drawn0.step)⟩
end Go.Proofs.YtfiieppnpmodoaaDoor.Q
end
section
namespace Go.Proofs.YtfiieppnpmodoaaDoor.Q
open Go.RowKit Go.Proofs.YtfiieppnpmodoaaDoorW.PrintWords Go.Proofs.YtfiieppnpmodoaaDoorW.PrintLast Go.Proofs.YtfiieppnpmodoaaDoorW.PrintMore
set_option linter.unusedVariables false
set_option linter.unusedSimpArgs false
def isDig (c : Int) : Bool := decide (48 ≤ c) && decide (c ≤ 57)
def digs (l : List Int) : Bool := l.all isDig && !l.isEmpty
theorem spec_Digits_l (s : ByteArray) (hs : s.size ≤ 140737488351232) : ∀ (d n k : Nat), n + d = s.size → d < k →
    spec_Digits.l0 k s (n : Int) = some (((bytesOf s).drop n).all isDig && decide (0 < s.size)) := by
  intro d
  induction d with
  | zero =>
    intro n k hd hk
    obtain ⟨k, rfl⟩ : ∃ m, k = m + 1 := ⟨k - 1, by omega⟩
    simp only [spec_Digits.l0]
    rw [if_neg (by omega), List.drop_of_length_le (by rw [bytesOf_length]; omega)]
    simp
  | succ d ih =>
    intro n k hd hk
    obtain ⟨k, rfl⟩ : ∃ m, k = m + 1 := ⟨k - 1, by omega⟩
    simp only [spec_Digits.l0]
    rw [if_pos (by omega), if_pos (by omega), drop_bt s n (by omega), List.all_cons]
    by_cases h1 : bt s (n : Int) < 48
    · rw [if_pos h1]
      have e : isDig (bt s (n : Int)) = false := by unfold isDig; simp; omega
      rw [e]; simp
    · rw [if_neg h1]
      by_cases h2 : bt s (n : Int) > 57
      · rw [if_pos h2]
        have e : isDig (bt s (n : Int)) = false := by unfold isDig; simp; omega
        rw [e]; simp
      · rw [if_neg h2, w64 (by omega) (by omega)]
        have e : isDig (bt s (n : Int)) = true := by unfold isDig; simp; omega
        rw [e, Bool.true_and]
        exact ih (n + 1) k (by omega) (by omega)
theorem digs_eq (s : ByteArray) : ((bytesOf s).all isDig && decide (0 < s.size)) = digs (bytesOf s) := by
  unfold digs
  congr 1
  rw [← bytesOf_length s]
  cases bytesOf s <;> simp
theorem spec_Digits_at (s : ByteArray) (hs : s.size ≤ 140737488351232) (k : Nat) (hk : s.size < k) : spec_Digits.f k s = some (digs (bytesOf s)) := by
  unfold spec_Digits.f
  have h := spec_Digits_l s hs s.size 0 k (by omega) hk
  rw [← digs_eq]
  simpa using h
theorem toList_ne (s : ByteArray) : (s.toList != ([] : List UInt8)) = decide (0 < s.size) := by
  rw [ByteArray.toList_eq, ← data_length s]
  cases s.data.toList <;> simp
theorem impl_Digits_l (s : ByteArray) (hs : s.size ≤ 140737488351232) : ∀ (d n k : Nat), n + d = s.size → d < k →
    impl_Digits.l0 k s (s.size : Int) (n : Int) = some (((bytesOf s).drop n).all isDig && decide (0 < s.size)) := by
  intro d
  induction d with
  | zero =>
    intro n k hd hk
    obtain ⟨k, rfl⟩ : ∃ m, k = m + 1 := ⟨k - 1, by omega⟩
    simp only [impl_Digits.l0]
    rw [if_neg (by omega), List.drop_of_length_le (by rw [bytesOf_length]; omega), toList_ne]
    simp
  | succ d ih =>
    intro n k hd hk
    obtain ⟨k, rfl⟩ : ∃ m, k = m + 1 := ⟨k - 1, by omega⟩
    simp only [impl_Digits.l0]
    rw [if_pos (by omega), if_pos (by omega), if_pos (by omega), drop_bt s n (by omega), List.all_cons]
    by_cases h1 : bt s (n : Int) < 48
    · rw [if_pos h1]
      have e : isDig (bt s (n : Int)) = false := by unfold isDig; simp; omega
      rw [e]; simp
    · rw [if_neg h1]
      by_cases h2 : bt s (n : Int) > 57
      · rw [if_pos h2]
        have e : isDig (bt s (n : Int)) = false := by unfold isDig; simp; omega
        rw [e]; simp
      · rw [if_neg h2, w64 (by omega) (by omega)]
        have e : isDig (bt s (n : Int)) = true := by unfold isDig; simp; omega
        rw [e, Bool.true_and]
        exact ih (n + 1) k (by omega) (by omega)
theorem impl_Digits_at (s : ByteArray) (hs : s.size ≤ 140737488351232) (k : Nat) (hk : s.size < k) : impl_Digits.f k s = some (digs (bytesOf s)) := by
  unfold impl_Digits.f
  have h := impl_Digits_l s hs s.size 0 k (by omega) hk
  rw [← digs_eq]
  simpa using h
def bcd : List Int → List Int
  | a :: b :: t => ((a - 48) * 16 + (b - 48)) :: bcd t
  | _ => []
def evened (l : List Int) : List Int := if l.length % 2 = 1 then 48 :: l else l
def putBcd (l : List Int) : List Int × Bool := if digs l && decide (l.length ≤ 38) then (bcd (evened l), true) else ([], false)
theorem bcd_length : ∀ (n : Nat) (l : List Int), l.length = 2 * n → (bcd l).length = n
  | 0, l, h => by
    have : l = [] := List.length_eq_zero_iff.1 (by omega)
    rw [this]; rfl
  | n + 1, a :: b :: t, h => by
    simp only [bcd, List.length_cons]
    rw [bcd_length n t (by simp at h; omega)]
  | n + 1, [a], h => by simp at h; omega
  | n + 1, [], h => by simp at h
theorem evened_length (l : List Int) : (evened l).length = 2 * ((l.length + 1) / 2) := by
  unfold evened
  split
  · simp; omega
  · omega
theorem dig_range' {c : Int} (h : isDig c = true) : 48 ≤ c ∧ c ≤ 57 := by
  unfold isDig at h
  simpa using h
theorem all_rd' (l : List Int) (p : Int → Bool) (h : l.all p = true) (n : Nat) (hn : n < l.length) : p (rd l (n : Int)) = true := by
  rw [List.all_eq_true] at h
  exact h _ (rd_mem l n hn)
theorem drop_two (l : List Int) (n : Nat) (h : n + 1 < l.length) : l.drop n = rd l (n : Int) :: rd l ((n + 1 : Nat) : Int) :: l.drop (n + 2) := by
  rw [drop_rd l n (by omega), drop_rd l (n + 1) (by omega)]
theorem digs_and (l : List Int) (h : digs l = true) : l.all isDig = true ∧ 0 < l.length := by
  unfold digs at h
  cases l with
  | nil => simp at h
  | cons a t => simpa using h
end Go.Proofs.YtfiieppnpmodoaaDoor.Q
end
section
namespace Go.Proofs.YtfiieppnpmodoaaDoor.Q
open Go.RowKit Go.Proofs.YtfiieppnpmodoaaDoorW.PrintWords Go.Proofs.YtfiieppnpmodoaaDoorW.PrintLast Go.Proofs.YtfiieppnpmodoaaDoorW.PrintMore
attribute [local go_sem] max2_int min2_int max_two min_two max_three min_three max_four min_four
set_option linter.unusedVariables false
set_option linter.unusedSimpArgs false
mutual
def spec_PutBcd.j0 : Nat → ByteArray → Bool → Option (List Int × Bool)
 | 0, _, _ => none
 | k + 1, x0, x13 => if x13 = true then (some (([] : List Int), false)) else (if ((x0.size : Int) % 2) = 1 then (if 1 + x0.size ≤ 9223372036854775807 then (spec_PutBcd.j1 k ((⟨#[48]⟩ : ByteArray) ++ x0)) else (none)) else (spec_PutBcd.j1 k x0))
def spec_PutBcd.j1 : Nat → ByteArray → Option (List Int × Bool)
 | 0, _ => none
 | k + 1, x0 => spec_PutBcd.l0 k x0 (([] : List Int)) 0
def spec_PutBcd.l0 : Nat → ByteArray → List Int → Int → Option (List Int × Bool)
 | 0, _, _, _ => none
 | k + 1, x0, x4, x5 => if x5 < (x0.size : Int) then (if 0 ≤ x5 then (if 0 ≤ (wrap64 (x5 + 1)) then (if (wrap64 (x5 + 1)) < (x0.size : Int) then (if x4.length < 140737488355328 then (spec_PutBcd.l0 k x0 (x4 ++ [(wrap64 ((wrap64 ((wrap64 ((wrap64 ((wrap64 (bt x0 x5)) - 48)) * 16)) + (wrap64 (bt x0 (wrap64 (x5 + 1)))))) - 48)) % 256]) (wrap64 (x5 + 2))) else (none)) else (none)) else (none)) else (none)) else (some (x4, true))
end
def spec_PutBcd.f (k : Nat) (a0 : ByteArray) : Option (List Int × Bool) := (spec_Digits.f k a0).bind fun t275 => (if t275 = true then (spec_PutBcd.j0 k a0 (decide ((a0.size : Int) > 38))) else (spec_PutBcd.j0 k a0 true))
def spec_PutBcd.T9 : Bool × List (List Nat × List Nat) := (true, [([], []), ([], []), ([], []), ([1, 2], [1, 2]), ([3], [3]), ([4], [4]), ([5], [5]), ([], []), ([], []), ([8], [8]), ([7, 9], [7, 9]), ([10], [10]), ([6, 11], [6, 11]), ([12], [12]), ([13], [13]), ([14], [14]), ([0, 15], [0, 15]), ([16, 16, 0, 1, 2, 3, 4, 5, 6, 7, 8, 9, 10, 11, 12, 13, 14, 15, 16], [0, 16])])
def spec_PutBcd.B9 : List Nat := [0, 0, 0, 6, 14, 30, 62, 0, 0, 256, 896, 1920, 4094, 8190, 16382, 32766, 65535, 131071]
theorem spec_PutBcd.tab9 : rtab .any (opsOf Tryd.f54 9) = spec_PutBcd.T9 := by kernel_rfl
theorem spec_PutBcd.bits9 : waitsOk spec_PutBcd.T9.2 spec_PutBcd.B9 = true := by kernel_rfl
set_option maxHeartbeats 8000000 in
set_option maxRecDepth 100000 in
theorem spec_PutBcd.calls (k : Nat) (a0 : ByteArray) (r1 : List Int) (r2 : Bool) (w : World) (h : spec_PutBcd.f k a0 = some (r1, r2)) :
  Calls Tryd.prog 54 #[.string a0] w fun e w' => ∃ v0_ : Value, e = .returned (.tuple #[v0_, .bool r2]) ∧ Kd.R (Kd.int .u8) 5 w' w.heap.size (fun _ => True) v0_ r1 ∧ Below w.heap.size w w' := by
 have HB := Aside0.mk (Below.refl w.heap.size w)
 have H : ((spec_Digits.f k a0).bind fun t275 => (if t275 = true then (spec_PutBcd.j0 k a0 (decide ((a0.size : Int) > 38))) else (spec_PutBcd.j0 k a0 true))) = some (r1, r2) := h
 clear h
 have HC2 := Aside0.mk H
 clear H
 go_enter Tryd.func54, Tryd.ntmps54
 go_upto_region 1 with (fail)
 go_cut [13] (fun v13 wc => ∃ (kq : Nat) (x13_1 : Bool), v13 = .bool x13_1 ∧ Aside0 (spec_PutBcd.j0 kq a0 x13_1 = some (r1, r2)) ∧ Aside0 (kq ≤ k) ∧ Aside0 (Below w.heap.size w wc))
 case first =>
  have H := HC2.out
  clear HC2
  replace H := Option.bind_eq_some_iff.mp H
  obtain ⟨t275, A30, H⟩ := H
  replace H : (if t275 = true then (spec_PutBcd.j0 k a0 (decide ((a0.size : Int) > 38))) else (spec_PutBcd.j0 k a0 true)) = some (r1, r2) := H
  have A3 := Aside0.mk A30
  clear A30
  by_cases c4 : t275 = true
  ·subst c4
   have H1 : (spec_PutBcd.j0 k a0 (decide ((a0.size : Int) > 38))) = some (r1, r2) := by rw [if_pos rfl] at H; exact H
   clear H
   have H := H1
   clear H1
   have H' := Aside0.mk H
   clear H
   go_wp2_with (first | ((with_reducible refine gate_callee (f := 81) rfl ?_); refine goesM_ (some 7) rfl rfl Tryd.func81 (by kernel_rfl) rfl #[.string a0] rfl ?_; (with_reducible refine (spec_Digits.calls k a0 true _ A3.out).mono ?_); rintro e w' ⟨rfl, ⟨nd, rfl⟩⟩; refine ⟨_, rfl, ?_⟩))
   go_meet
   case rel => exact ⟨_, (decide ((a0.size : Int) > 38)), (by first | rfl | (simp; done) | (simp [*]; done) | (simp [i64_w, IntKind.wrap_u8, e256_]; done) | (simp; generalize ByteArray.toList _ = zz_; cases zz_ <;> rfl)), H', ⟨by first | omega | exact Nat.le_refl _⟩, ⟨bB⟩⟩
  ·replace c4 := Bool.eq_false_iff.mpr c4
   subst c4
   have H1 : (spec_PutBcd.j0 k a0 true) = some (r1, r2) := by rw [if_neg (show ¬ (false = true) by decide)] at H; exact H
   clear H
   have H := H1
   clear H1
   have H' := Aside0.mk H
   clear H
   go_wp2_with (first | ((with_reducible refine gate_callee (f := 81) rfl ?_); refine goesM_ (some 7) rfl rfl Tryd.func81 (by kernel_rfl) rfl #[.string a0] rfl ?_; (with_reducible refine (spec_Digits.calls k a0 false _ A3.out).mono ?_); rintro e w' ⟨rfl, ⟨nd, rfl⟩⟩; refine ⟨_, rfl, ?_⟩))
   go_meet
   case rel => exact ⟨_, (true), (by first | rfl | (simp; done) | (simp [*]; done) | (simp [i64_w, IntKind.wrap_u8, e256_]; done) | (simp; generalize ByteArray.toList _ = zz_; cases zz_ <;> rfl)), H', ⟨by first | omega | exact Nat.le_refl _⟩, ⟨bB⟩⟩
 case rest =>
  clear HC2
  try clear p2
  try clear c4
  obtain ⟨kq, x13_1, rfl, HA, HJ1, HB⟩ := hcut
  cases kq with
  | zero => exact absurd HA.out (by simp [spec_PutBcd.j0])
  | succ kj1 =>
   have H := HA.out
   clear HA
   simp only [spec_PutBcd.j0] at H
   by_cases c5 : x13_1 = true
   ·subst c5
    have H1 : (some (([] : List Int), false)) = some (r1, r2) := by rw [if_pos rfl] at H; exact H
    clear H
    have H := H1
    clear H1
    simp only [Option.some.injEq, Prod.mk.injEq] at H
    obtain ⟨rfl, rfl⟩ := H
    go_wp2
    go_ret2
    exact ⟨_, by first | rfl | (simp [errW_none, errW_some] <;> rfl) | (simp [*, errW_none, errW_some] <;> rfl), by first | exact Kd.R_nil _ _ _ _ _ | exact Kd.N_nil _ _ _ _ _ | exact Kd.V_nil _ _ _ _ _ | exact Kd.Q_nil _ _ _ _ _ | exact Kd.S_nil _ _ _ _ _, bB⟩
   ·replace c5 := Bool.eq_false_iff.mpr c5
    subst c5
    have H1 : (if ((a0.size : Int) % 2) = 1 then (if 1 + a0.size ≤ 9223372036854775807 then (spec_PutBcd.j1 kj1 ((⟨#[48]⟩ : ByteArray) ++ a0)) else (none)) else (spec_PutBcd.j1 kj1 a0)) = some (r1, r2) := by rw [if_neg (show ¬ (false = true) by decide)] at H; exact H
    clear H
    have H := H1
    clear H1
    have HC6 := Aside0.mk H
    clear H
    go_upto_if 17 with (fail)
    go_cut [0] (fun v0 wc => ∃ (kq : Nat) (x0_5 : ByteArray), v0 = .string x0_5 ∧ Aside0 (spec_PutBcd.j1 kq x0_5 = some (r1, r2)) ∧ Aside0 (kq ≤ kj1) ∧ Aside0 (Below w.heap.size w wc))
    case first =>
     have H := HC6.out
     clear HC6
     by_cases c7 : ((a0.size : Int) % 2) = 1
     ·rw [if_pos c7] at H
      have c7b0 : (((a0.size : Int) % 2) == 1) = true := beq_iff_eq.mpr c7
      have c7b1 : (((a0.size : Int) % 2) != 1) = false := bne_eq_false_iff_eq.mpr c7
      clear c7
      (first | rw [c7b0] | (simp only [i64_w, i32_w]; rw [c7b0]) | rw [c7b1] | (simp only [c7b1]) | skip)
      by_cases c8 : 1 + a0.size ≤ 9223372036854775807
      ·rw [if_pos c8] at H
       have c8b0 := eq_true c8
       have c8b1 : decide (1 + a0.size ≤ 9223372036854775807) = true := decide_eq_true c8
       try have c8b2 : (9223372036854775807 < 1 + a0.size) = False := eq_false (Nat.not_lt.2 c8)
       try (have c8b3 := c8b2; simp only [ByteArray.size_append, ByteArray.size_extract, Nat.sub_zero, Nat.min_self] at c8b3)
       have H' := Aside0.mk H
       clear H
       go_wp2
       go_meet
       case rel => exact ⟨_, ((⟨#[48]⟩ : ByteArray) ++ a0), (by first | rfl | (simp; done) | (simp [*]; done) | (simp [i64_w, IntKind.wrap_u8, e256_]; done) | (simp; generalize ByteArray.toList _ = zz_; cases zz_ <;> rfl)), H', ⟨by have := HJ1.out; first | omega | exact Nat.le_refl _⟩, ⟨bB⟩⟩
      ·rw [if_neg c8] at H
       exact absurd H (by simp)
     ·rw [if_neg c7] at H
      have c7b0 : (((a0.size : Int) % 2) == 1) = false := beq_eq_false_iff_ne.mpr c7
      have c7b1 : (((a0.size : Int) % 2) != 1) = true := bne_iff_ne.mpr c7
      (first | rw [c7b0] | (simp only [i64_w, i32_w]; rw [c7b0]) | rw [c7b1] | (simp only [c7b1]) | skip)
      have H' := Aside0.mk H
      clear H
      go_wp2
      go_meet
      case rel => exact ⟨_, (a0), (by first | rfl | (simp; done) | (simp [*]; done) | (simp [i64_w, IntKind.wrap_u8, e256_]; done) | (simp; generalize ByteArray.toList _ = zz_; cases zz_ <;> rfl)), H', ⟨by have := HJ1.out; first | omega | exact Nat.le_refl _⟩, ⟨bB⟩⟩
    case rest =>
     clear HC6
     try clear p2
     try clear c4
     try clear c5
     try clear p6
     try clear c7
     try clear c7b0
     try clear c7b1
     try clear c8
     try clear c8b0
     try clear c8b1
     try clear c8b2
     try clear p2
     obtain ⟨kq, x0_5, rfl, HA, HJ5, HB⟩ := hcut
     cases kq with
     | zero => exact absurd HA.out (by simp [spec_PutBcd.j1])
     | succ kj5 =>
      have H := HA.out
      clear HA
      simp only [spec_PutBcd.j1] at H
      obtain ⟨y276, hy276⟩ : ∃ y_ : List Int, y_ = (([] : List Int)) := ⟨_, rfl⟩
      replace H : (spec_PutBcd.l0 kj5 x0_5 y276 0) = some (r1, r2) := by first | (rw [hy276]; with_reducible exact H) | (have H2_ := (Option.bind_some _ _).symm.trans H; rw [hy276]; with_reducible exact H2_) | (have H2_ := (Option.bind_some _ _).symm.trans H; with_reducible exact H2_) | with_reducible exact H | (rw [hy276]; exact H) | exact H
      have Ny276 := Aside0.mk hy276
      clear hy276
      have H' := Aside0.mk H
      clear H
      go_wp2_with (first | ((with_reducible refine gate_dst (N := 20) rfl ?_); (try (refine gate_guard (by rfl) ?_; dsimp only)); refine Kd.R_lit (Kd.int .u8) _ 5 ?hg (N := 20) ?hd (xs := ([] : List Int)) (inner := []) (ok := fun _ => True) (okp := fun _ => True) ?hr ?hp (fun _ hk => hk) trivial (Below.refl _ _) (Nat.le_refl _) (by simp) ?_; (case hd => rfl); (case hg => rfl); (case hr => first | (go_simp; done) | (go_simp; rfl)); (case hp => exact (Reps.none _ _)); intro v277 w9 ho10 hb hg_ hnew_; clear hg_ hnew_; (first | rw [← Ny276.out] at ho10 | (simp only [Int.reduceToNat] at ho10; rw [← Ny276.out] at ho10)); have n0_ := Aside0.mk (Kd.R_lower ho10 (below_size bB)); have n1_ := Aside0.mk (below_step bB hb); clear HB; have HO278 := n0_; have HB := n1_; clear n0_ n1_; clear hb ho10))
      go_loopg [4, 5] kj5 (fun kq v4 v5 w' => ∃ (x4_3 : List Int) (x5_3 : Int), v5 = .int .i64 x5_3 ∧ Aside0 (spec_PutBcd.l0 kq x0_5 x4_3 x5_3 = some (r1, r2)) ∧ Aside0 (kq ≤ kj5) ∧ Aside0 (Kd.R (Kd.int .u8) 5 w' w.heap.size (fun _ => True) v4 x4_3) ∧ Aside0 (Below w.heap.size w w'))
      case atStart => exact ⟨(y276), (0), (by first | rfl | (simp; done) | (simp [*]; done) | (simp [i64_w, IntKind.wrap_u8, e256_]; done) | (simp; generalize ByteArray.toList _ = zz_; cases zz_ <;> rfl)), H', ⟨Nat.le_refl _⟩, ⟨rA HO278.out⟩, ⟨bB⟩⟩
      case round =>
       clear H'
       try clear p2
       try clear c4
       try clear c5
       try clear p6
       try clear c7
       try clear c7b0
       try clear c7b1
       try clear c8
       try clear c8b0
       try clear c8b1
       try clear c8b2
       try clear p2
       try clear p6
       obtain ⟨x4_3, x5_3, rfl, HA, HK3, HO_4, HB⟩ := hrel
       cases gk with
       | zero => exact absurd HA.out (by simp [spec_PutBcd.l0])
       | succ k3 =>
        have H := HA.out
        clear HA
        simp only [spec_PutBcd.l0] at H
        by_cases c11 : x5_3 < (x0_5.size : Int)
        ·rw [if_pos c11] at H
         have c11b0 : decide (x5_3 < (x0_5.size : Int)) = true := decide_eq_true c11
         clear c11
         by_cases c12 : 0 ≤ x5_3
         ·rw [if_pos c12] at H
          have c12b0 : decide (0 ≤ x5_3) = true := decide_eq_true c12
          clear c12
          obtain ⟨ji14, hji14⟩ : ∃ j_ : Int, (wrap64 (x5_3 + 1)) = j_ := ⟨_, rfl⟩
          replace H : (if 0 ≤ (ji14) then (if (ji14) < (x0_5.size : Int) then (if x4_3.length < 140737488355328 then (spec_PutBcd.l0 k3 x0_5 (x4_3 ++ [(wrap64 ((wrap64 ((wrap64 ((wrap64 ((wrap64 (bt x0_5 x5_3)) - 48)) * 16)) + (wrap64 (bt x0_5 (ji14))))) - 48)) % 256]) (wrap64 (x5_3 + 2))) else (none)) else (none)) else (none)) = some (r1, r2) := by first | (rw [hji14] at H; exact H) | (simp only [hji14] at H ⊢; exact H)
          have hji14w : (IntKind.i64.wrap (x5_3 + 1)) = ji14 := (i64_w _).trans hji14
          by_cases c15 : 0 ≤ (ji14)
          ·rw [if_pos c15] at H
           have c15b0 : decide (0 ≤ (ji14)) = true := decide_eq_true c15
           clear c15
           by_cases c16 : (ji14) < (x0_5.size : Int)
           ·rw [if_pos c16] at H
            have c16b0 : decide ((ji14) < (x0_5.size : Int)) = true := decide_eq_true c16
            clear c16
            by_cases c18 : x4_3.length < 140737488355328
            ·rw [if_pos c18] at H
             have LMc18 := Aside0.mk c18
             clear c18
             obtain ⟨y279, hy279⟩ : ∃ y_ : List Int, y_ = (x4_3 ++ [(wrap64 ((wrap64 ((wrap64 ((wrap64 ((wrap64 (bt x0_5 x5_3)) - 48)) * 16)) + (wrap64 (bt x0_5 (ji14))))) - 48)) % 256]) := ⟨_, rfl⟩
             replace H : (spec_PutBcd.l0 k3 x0_5 y279 (wrap64 (x5_3 + 2))) = some (r1, r2) := by first | (rw [hy279]; with_reducible exact H) | (have H2_ := (Option.bind_some _ _).symm.trans H; rw [hy279]; with_reducible exact H2_) | (have H2_ := (Option.bind_some _ _).symm.trans H; with_reducible exact H2_) | with_reducible exact H | (rw [hy279]; exact H) | exact H
             have Ny279 := Aside0.mk hy279
             clear hy279
             have H' := Aside0.mk H
             clear H
             try go_wp2
             have n0_ := Aside0.mk (Kd.R_drew HO_4.out)
             have n1_ := Aside0.mk (below_drew1 HB.out)
             clear HO_4
             clear HB
             have HO_4 := n0_
             have HB := n1_
             clear n0_ n1_
             have p13 : 0 ≤ (x5_3 : Int) := of_decide_eq_true (by first | (with_reducible assumption) | assumption)
             have q13 : x5_3 < (x0_5.size : Int) := of_decide_eq_true (by first | (with_reducible assumption) | assumption)
             have hx13 := bt_at x0_5 x5_3
             replace p13 := eq_true p13
             replace q13 := eq_true q13
             have p17 : 0 ≤ ((ji14) : Int) := of_decide_eq_true (by first | (with_reducible assumption) | assumption)
             have q17 : (ji14) < (x0_5.size : Int) := of_decide_eq_true (by first | (with_reducible assumption) | assumption)
             have hx17 := bt_at x0_5 (ji14)
             replace p17 := eq_true p17
             replace q17 := eq_true q17
             refine start_ (n := 18) (S := fun w' => True) (ds := []) #[false, false, false, false, false, false, false, false, false, false, false, false, false, false, false, false, false, false] (by kernel_rfl) rfl rfl trivial (fun hHeld => ?_); refine with_tabW spec_PutBcd.tab9 spec_PutBcd.bits9 (fun HT_ HW_ => ?_)
             generalize wr.drew = w19 at HO_4 HB hHeld ⊢
             refine pure_ (i := 0) (N := some 27) (v := ?_) (a' := ?_) #[true, false, false, false, false, false, false, false, false, false, false, false, false, false, false, false, false, false] rfl rfl (any_of HT_.out (by kernel_rfl)) (fun _ _ _ h => h) (Or.inl ⟨by rfl, ?_⟩) ?_ ?_
             rotate_left
             ·intro w'
              go_simp
              with_reducible rfl
             rotate_left
             ·simp only [Act.put, List.setIfInBounds_toArray, List.set_cons_zero, List.set_cons_succ, i64_w, i32_w]
              rfl
             refine pure_ (i := 1) (N := some 28) (v := ?_) (a' := ?_) #[true, true, false, false, false, false, false, false, false, false, false, false, false, false, false, false, false, false] rfl rfl (any_of HT_.out (by kernel_rfl)) (fun _ _ _ h => h) (Or.inl ⟨by rfl, ?_⟩) ?_ ?_
             rotate_left
             ·intro w'
              go_simp
              with_reducible rfl
             rotate_left
             ·simp only [Act.put, List.setIfInBounds_toArray, List.set_cons_zero, List.set_cons_succ, i64_w, i32_w]
              rfl
             refine pure_ (i := 2) (N := some 29) (v := ?_) (a' := ?_) #[true, true, true, false, false, false, false, false, false, false, false, false, false, false, false, false, false, false] rfl rfl (any_of HT_.out (by kernel_rfl)) (fun _ _ _ h => h) (Or.inl ⟨by rfl, ?_⟩) ?_ ?_
             rotate_left
             ·intro w'
              go_simp
              with_reducible rfl
             rotate_left
             ·simp only [Act.put, List.setIfInBounds_toArray, List.set_cons_zero, List.set_cons_succ, i64_w, i32_w]
              rfl
             refine pure_ (i := 7) (N := some 34) (v := ?_) (a' := ?_) #[true, true, true, false, false, false, false, true, false, false, false, false, false, false, false, false, false, false] rfl rfl (any_of HT_.out (by kernel_rfl)) (fun _ _ _ h => h) (Or.inl ⟨by rfl, ?_⟩) ?_ ?_
             rotate_left
             ·intro w'
              go_simp
              with_reducible rfl
             rotate_left
             ·simp only [Act.put, List.setIfInBounds_toArray, List.set_cons_zero, List.set_cons_succ, i64_w, i32_w]
              rfl
             refine pure_ (i := 8) (N := some 35) (v := ?_) (a' := ?_) #[true, true, true, false, false, false, false, true, true, false, false, false, false, false, false, false, false, false] rfl rfl (any_of HT_.out (by kernel_rfl)) (fun _ _ _ h => h) (Or.inl ⟨by rfl, ?_⟩) ?_ ?_
             rotate_left
             ·intro w'
              go_simp
              with_reducible rfl
             rotate_left
             ·simp only [Act.put, List.setIfInBounds_toArray, List.set_cons_zero, List.set_cons_succ, i64_w, i32_w]
              rfl
             refine pure_ (i := 9) (N := some 36) (v := ?_) (a' := ?_) #[true, true, true, false, false, false, false, true, true, true, false, false, false, false, false, false, false, false] rfl rfl (any_of HT_.out (by kernel_rfl)) (fun _ _ _ h => h) (Or.inl ⟨by rfl, ?_⟩) ?_ ?_
             rotate_left
             ·intro w'
              go_simp
              with_reducible rfl
             rotate_left
             ·simp only [Act.put, List.setIfInBounds_toArray, List.set_cons_zero, List.set_cons_succ, i64_w, i32_w]
              rfl
             refine take_ (i := 3) (N := some 30) (v := ?_) (a' := ?_) #[true, true, true, true, false, false, false, true, true, true, false, false, false, false, false, false, false, false] rfl rfl (take_ofW HT_.out HW_.out (by kernel_rfl)) (fun _ _ _ h => h) (Or.inl ⟨by rfl, ?_⟩) hHeld ?_ ?_
             rotate_left
             ·intro w' _
              go_simp
              with_reducible rfl
             rotate_left
             ·simp only [Act.put, List.setIfInBounds_toArray, List.set_cons_zero, List.set_cons_succ, i64_w, i32_w]
              rfl
             refine pure_ (i := 4) (N := some 31) (v := ?_) (a' := ?_) #[true, true, true, true, true, false, false, true, true, true, false, false, false, false, false, false, false, false] rfl rfl (any_of HT_.out (by kernel_rfl)) (fun _ _ _ h => h) (Or.inl ⟨by rfl, ?_⟩) ?_ ?_
             rotate_left
             ·intro w'
              go_simp
              with_reducible rfl
             rotate_left
             ·simp only [Act.put, List.setIfInBounds_toArray, List.set_cons_zero, List.set_cons_succ, i64_w, i32_w]
              rfl
             refine pure_ (i := 5) (N := some 32) (v := ?_) (a' := ?_) #[true, true, true, true, true, true, false, true, true, true, false, false, false, false, false, false, false, false] rfl rfl (any_of HT_.out (by kernel_rfl)) (fun _ _ _ h => h) (Or.inl ⟨by rfl, ?_⟩) ?_ ?_
             rotate_left
             ·intro w'
              go_simp
              with_reducible rfl
             rotate_left
             ·simp only [Act.put, List.setIfInBounds_toArray, List.set_cons_zero, List.set_cons_succ, i64_w, i32_w]
              rfl
             refine pure_ (i := 6) (N := some 33) (v := ?_) (a' := ?_) #[true, true, true, true, true, true, true, true, true, true, false, false, false, false, false, false, false, false] rfl rfl (any_of HT_.out (by kernel_rfl)) (fun _ _ _ h => h) (Or.inl ⟨by rfl, ?_⟩) ?_ ?_
             rotate_left
             ·intro w'
              go_simp
              with_reducible rfl
             rotate_left
             ·simp only [Act.put, List.setIfInBounds_toArray, List.set_cons_zero, List.set_cons_succ, i64_w, i32_w]
              rfl
             refine take_ (i := 10) (N := some 37) (v := ?_) (a' := ?_) #[true, true, true, true, true, true, true, true, true, true, true, false, false, false, false, false, false, false] rfl rfl (take_ofW HT_.out HW_.out (by kernel_rfl)) (fun _ _ _ h => h) (Or.inl ⟨by rfl, ?_⟩) hHeld ?_ ?_
             rotate_left
             ·intro w' _
              go_simp
              with_reducible rfl
             rotate_left
             ·simp only [Act.put, List.setIfInBounds_toArray, List.set_cons_zero, List.set_cons_succ, i64_w, i32_w]
              rfl
             refine pure_ (i := 11) (N := some 38) (v := ?_) (a' := ?_) #[true, true, true, true, true, true, true, true, true, true, true, true, false, false, false, false, false, false] rfl rfl (any_of HT_.out (by kernel_rfl)) (fun _ _ _ h => h) (Or.inl ⟨by rfl, ?_⟩) ?_ ?_
             rotate_left
             ·intro w'
              go_simp
              with_reducible rfl
             rotate_left
             ·simp only [Act.put, List.setIfInBounds_toArray, List.set_cons_zero, List.set_cons_succ, i64_w, i32_w]
              rfl
             refine pure_ (i := 12) (N := some 39) (v := ?_) (a' := ?_) #[true, true, true, true, true, true, true, true, true, true, true, true, true, false, false, false, false, false] rfl rfl (any_of HT_.out (by kernel_rfl)) (fun _ _ _ h => h) (Or.inl ⟨by rfl, ?_⟩) ?_ ?_
             rotate_left
             ·intro w'
              go_simp
              with_reducible rfl
             rotate_left
             ·simp only [Act.put, List.setIfInBounds_toArray, List.set_cons_zero, List.set_cons_succ, i64_w, i32_w]
              rfl
             refine pure_ (i := 13) (N := some 40) (v := ?_) (a' := ?_) #[true, true, true, true, true, true, true, true, true, true, true, true, true, true, false, false, false, false] rfl rfl (any_of HT_.out (by kernel_rfl)) (fun _ _ _ h => h) (Or.inl ⟨by rfl, ?_⟩) ?_ ?_
             rotate_left
             ·intro w'
              go_simp
              with_reducible rfl
             rotate_left
             ·simp only [Act.put, List.setIfInBounds_toArray, List.set_cons_zero, List.set_cons_succ, i64_w, i32_w]
              rfl
             refine pure_ (i := 14) (N := some 41) (v := ?_) (a' := ?_) #[true, true, true, true, true, true, true, true, true, true, true, true, true, true, true, false, false, false] rfl rfl (any_of HT_.out (by kernel_rfl)) (fun _ _ _ h => h) (Or.inl ⟨by rfl, ?_⟩) ?_ ?_
             rotate_left
             ·intro w'
              go_simp
              with_reducible rfl
             rotate_left
             ·simp only [Act.put, List.setIfInBounds_toArray, List.set_cons_zero, List.set_cons_succ, i64_w, i32_w]
              rfl
             refine one_ (i := 15) (N := some 42) #[true, true, true, true, true, true, true, true, true, true, true, true, true, true, true, true, false, false] rfl rfl (one_of HT_.out (by kernel_rfl)) (by decide) (fun K hK => ?_)
             refine value_ (w1 := ?_) (v := ?_) (by rfl) rfl ?_ ?_
             rotate_left 2
             ·go_simp
              constructor
              ·rfl
              ·rfl
             refine hK.out _ _ trivial (fun hHeld => ?_)
             clear hK K
             refine norm_ (a' := ?_) ?_ ?_
             rotate_left
             ·show Act.put _ (some 42) _ = _
              simp only [Act.put, List.setIfInBounds_toArray, List.set_cons_zero, List.set_cons_succ, i64_w, i32_w]
              rfl
             refine one_ (i := 16) (N := some 43) #[true, true, true, true, true, true, true, true, true, true, true, true, true, true, true, true, true, false] rfl rfl (one_of HT_.out (by kernel_rfl)) (by decide) (fun K hK => ?_)
             refine Kd.R_append_step (Kd.int .u8) (w0 := w) w.heap.size (by rfl) (.tmp 27) (.tmp 42) 22 5 (.int .u8 0) 1 rfl Tryd.underlying22 info5 rfl (by decide) (by omega) u4 x4_3 ((wrap64 ((wrap64 ((wrap64 ((wrap64 ((wrap64 (bt x0_5 x5_3)) - 48)) * 16)) + (wrap64 (bt x0_5 (ji14))))) - 48)) % 256) [.int .u8 ((wrap64 ((wrap64 ((wrap64 ((wrap64 ((wrap64 (bt x0_5 x5_3)) - 48)) * 16)) + (wrap64 (bt x0_5 (ji14))))) - 48)) % 256)] (fun _ => True) (fun _ => False) rfl rfl ?aP (fun _ hk => hk.elim) ?aF ?aO ?aB ?aS ?aL ?_
             (case aP => exact rfl)
             (case aB => exact bB)
             (case aF => exact (fun _ _ => trivial))
             (case aO => exact (rA HO_4.out))
             (case aS => exact (below_size bB))
             (case aL => have := LMc18.out; omega)
             intro v280 w20 ho hb hg hat
             rw [← Ny279.out] at ho
             have n0_ := Aside0.mk (hb)
             have n1_ := Aside0.mk (ho)
             clear HB
             clear HO_4
             have HB := n0_
             have HO281 := n1_
             clear n0_ n1_
             clear ho hb hg hat
             refine hK.out _ _ trivial (fun hHeld => ?_)
             clear hK K
             refine norm_ (a' := ?_) ?_ ?_
             rotate_left
             ·show Act.put _ (some 43) _ = _
              simp only [Act.put, List.setIfInBounds_toArray, List.set_cons_zero, List.set_cons_succ, i64_w, i32_w]
              rfl
             refine pure_ (i := 17) (N := some 4) (v := ?_) (a' := ?_) #[true, true, true, true, true, true, true, true, true, true, true, true, true, true, true, true, true, true] rfl rfl (any_of HT_.out (by kernel_rfl)) (fun _ _ _ h => h) (Or.inl ⟨by rfl, ?_⟩) ?_ ?_
             rotate_left
             ·intro w'
              go_simp
              with_reducible rfl
             rotate_left
             ·simp only [Act.put, List.setIfInBounds_toArray, List.set_cons_zero, List.set_cons_succ, i64_w, i32_w]
              rfl
             refine done_ (done_of HT_.out (by kernel_rfl)) ?_
             try go_wp2
             go_roundg k3
             case measure => have := HJ1.out; have := HJ5.out; have := HK3.out; omega
             case rel => exact ⟨(y279), (wrap64 (x5_3 + 2)), (by first | rfl | (simp; done) | (simp [*]; done) | (simp [i64_w, IntKind.wrap_u8, e256_]; done) | (simp; generalize ByteArray.toList _ = zz_; cases zz_ <;> rfl)), H', ⟨by have := HJ1.out; have := HJ5.out; have := HK3.out; omega⟩, ⟨rA HO281.out⟩, ⟨bB⟩⟩
            ·rw [if_neg c18] at H
             exact absurd H (by simp)
           ·rw [if_neg c16] at H
            exact absurd H (by simp)
          ·rw [if_neg c15] at H
           exact absurd H (by simp)
         ·rw [if_neg c12] at H
          exact absurd H (by simp)
        ·rw [if_neg c11] at H
         have c11b0 : decide (x5_3 < (x0_5.size : Int)) = false := decide_eq_false c11
         clear c11
         simp only [Option.some.injEq, Prod.mk.injEq] at H
         obtain ⟨rfl, rfl⟩ := H
         go_wp2
         go_ret2
         exact ⟨_, by first | rfl | (simp [errW_none, errW_some] <;> rfl) | (simp [*, errW_none, errW_some] <;> rfl), rA HO_4.out, bB⟩
end Go.Proofs.YtfiieppnpmodoaaDoor.Q
end
section
namespace Go.Proofs.YtfiieppnpmodoaaDoor.Q
open Go.RowKit Go.Proofs.YtfiieppnpmodoaaDoorW.PrintWords Go.Proofs.YtfiieppnpmodoaaDoorW.PrintLast Go.Proofs.YtfiieppnpmodoaaDoorW.PrintMore
set_option linter.unusedVariables false
set_option linter.unusedSimpArgs false
theorem spec_PutBcd_l (s : ByteArray) (hs : s.size ≤ 10000000) (hd : (bytesOf s).all isDig = true) : ∀ (d n k : Nat) (x : List Int), n + 2 * d = s.size → x.length + d ≤ 1000000000 → d < k →
    spec_PutBcd.l0 k s x (n : Int) = some (x ++ bcd ((bytesOf s).drop n), true) := by
  intro d
  induction d with
  | zero =>
    intro n k x hn hx hk
    obtain ⟨k, rfl⟩ : ∃ m, k = m + 1 := ⟨k - 1, by omega⟩
    have c1 : ¬ (n : Int) < (s.size : Int) := by omega
    simp only [spec_PutBcd.l0, if_neg c1]
    rw [List.drop_of_length_le (by rw [bytesOf_length]; omega)]
    simp [bcd]
  | succ d ih =>
    intro n k x hn hx hk
    obtain ⟨k, rfl⟩ : ∃ m, k = m + 1 := ⟨k - 1, by omega⟩
    have hl : (bytesOf s).length = s.size := bytesOf_length s
    obtain ⟨a0, a1⟩ := dig_range' (all_rd' _ _ hd n (by omega))
    obtain ⟨b0, b1⟩ := dig_range' (all_rd' _ _ hd (n + 1) (by omega))
    have c1 : (n : Int) < (s.size : Int) := by omega
    have c2 : 0 ≤ (n : Int) := by omega
    have e1 : wrap64 ((n : Int) + 1) = ((n + 1 : Nat) : Int) := by unfold wrap64; omega
    have e2 : wrap64 ((n : Int) + 2) = ((n + 2 : Nat) : Int) := by unfold wrap64; omega
    have c3 : 0 ≤ ((n + 1 : Nat) : Int) := by omega
    have c4 : ((n + 1 : Nat) : Int) < (s.size : Int) := by omega
    have c5 : x.length < 140737488355328 := by omega
    rw [drop_two _ n (by omega)]
    simp only [spec_PutBcd.l0, e1, e2, if_pos c1, if_pos c2, if_pos c3, if_pos c4, if_pos c5, bt_eq, bcd]
    generalize rd (bytesOf s) (n : Int) = a at a0 a1
    generalize rd (bytesOf s) ((n + 1 : Nat) : Int) = b at b0 b1
    have e : (wrap64 ((wrap64 ((wrap64 ((wrap64 ((wrap64 a) - 48)) * 16)) + (wrap64 b))) - 48)) % 256 = (a - 48) * 16 + (b - 48) := by
      unfold wrap64
      omega
    rw [e, ih (n + 2) k _ (by omega) (by simp; omega) (by omega)]
    simp
theorem spec_PutBcd_at (s : ByteArray) (hs : s.size ≤ 9000000) (k : Nat) (hk : s.size + 5 ≤ k) : spec_PutBcd.f k s = some (putBcd (bytesOf s)) := by
  obtain ⟨k, rfl⟩ : ∃ m, k = m + 2 := ⟨k - 2, by omega⟩
  unfold spec_PutBcd.f putBcd
  rw [spec_Digits_at s (by omega) (k + 2) (by omega)]
  simp only [Option.bind_some]
  by_cases h : digs (bytesOf s) = true
  · obtain ⟨h1, h2⟩ := digs_and _ h
    rw [bytesOf_length] at h2
    rw [if_pos h, h, spec_PutBcd.j0]
    by_cases h3 : (s.size : Int) > 38
    · have h4 : ¬ s.size ≤ 38 := by omega
      simp [h3, h4, bytesOf_length]
    · have h4 : s.size ≤ 38 := by omega
      simp only [h3, decide_false, Bool.false_eq_true, if_false]
      have q : (true && decide ((bytesOf s).length ≤ 38)) = true := by simp [bytesOf_length, h4]
      rw [if_pos q]
      by_cases h5 : (s.size : Int) % 2 = 1
      · have c1 : 1 + s.size ≤ 9223372036854775807 := by omega
        have eb : bytesOf ((⟨#[48]⟩ : ByteArray) ++ s) = 48 :: bytesOf s := by rw [bytesOf_append]; rfl
        have ez : ((⟨#[48]⟩ : ByteArray) ++ s).size = s.size + 1 := by rw [size_eq, eb, List.length_cons, bytesOf_length]
        have ev : evened (bytesOf s) = 48 :: bytesOf s := by unfold evened; rw [if_pos (by rw [bytesOf_length]; omega)]
        rw [if_pos h5, if_pos c1, spec_PutBcd.j1, ev]
        have hh := spec_PutBcd_l ((⟨#[48]⟩ : ByteArray) ++ s) (by omega) (by rw [eb, List.all_cons, h1]; decide) ((s.size + 1) / 2) 0 k [] (by omega) (by simp; omega) (by omega)
        rw [eb] at hh
        simpa using hh
      · have ev : evened (bytesOf s) = bytesOf s := by unfold evened; rw [if_neg (by rw [bytesOf_length]; omega)]
        rw [if_neg h5, spec_PutBcd.j1, ev]
        have hh := spec_PutBcd_l s (by omega) h1 (s.size / 2) 0 k [] (by omega) (by simp; omega) (by omega)
        simpa using hh
  · rw [if_neg h, spec_PutBcd.j0]
    simp [h]
theorem or_bcd (a b : Int) (a0 : 0 ≤ a) (a1 : a ≤ 9) (b0 : 0 ≤ b) (b1 : b ≤ 9) : Go.bits .or .u8 (a * 16) b = a * 16 + b :=
  bits_join .u8 8 (by decide) wraps_u8 4 (a * 16) b (by omega) (by omega) (by omega) (by omega) (by omega) (by omega)
theorem impl_PutBcd_l (s : ByteArray) (hs : s.size ≤ 10000000) (hd : (bytesOf s).all isDig = true) : ∀ (d n k : Nat) (x : List Int), n + 2 * d = s.size → x.length + d ≤ 1000000000 → d < k →
    impl_PutBcd.l0 k s x (n : Int) = some (x ++ bcd ((bytesOf s).drop n), true) := by
  intro d
  induction d with
  | zero =>
    intro n k x hn hx hk
    obtain ⟨k, rfl⟩ : ∃ m, k = m + 1 := ⟨k - 1, by omega⟩
    have c1 : ¬ (n : Int) < (s.size : Int) := by omega
    simp only [impl_PutBcd.l0, if_neg c1]
    rw [List.drop_of_length_le (by rw [bytesOf_length]; omega)]
    simp [bcd]
  | succ d ih =>
    intro n k x hn hx hk
    obtain ⟨k, rfl⟩ : ∃ m, k = m + 1 := ⟨k - 1, by omega⟩
    have hl : (bytesOf s).length = s.size := bytesOf_length s
    obtain ⟨a0, a1⟩ := dig_range' (all_rd' _ _ hd n (by omega))
    obtain ⟨b0, b1⟩ := dig_range' (all_rd' _ _ hd (n + 1) (by omega))
    have c1 : (n : Int) < (s.size : Int) := by omega
    have c2 : 0 ≤ (n : Int) := by omega
    have e1 : wrap64 ((n : Int) + 1) = ((n + 1 : Nat) : Int) := by unfold wrap64; omega
    have e2 : wrap64 ((n : Int) + 2) = ((n + 2 : Nat) : Int) := by unfold wrap64; omega
    have c3 : 0 ≤ ((n + 1 : Nat) : Int) := by omega
    have c4 : ((n + 1 : Nat) : Int) < (s.size : Int) := by omega
    have c5 : x.length < 140737488355328 := by omega
    rw [drop_two _ n (by omega)]
    simp only [impl_PutBcd.l0, e1, e2, if_pos c1, if_pos c2, if_pos c3, if_pos c4, if_pos c5, bt_eq, bcd]
    generalize rd (bytesOf s) (n : Int) = a at a0 a1
    generalize rd (bytesOf s) ((n + 1 : Nat) : Int) = b at b0 b1
    have e : Go.bits .or .u8 ((((a - 48) % 256) * 16) % 256) ((b - 48) % 256) = (a - 48) * 16 + (b - 48) := by
      have f1 : (a - 48) % 256 = a - 48 := by omega
      have f2 : (b - 48) % 256 = b - 48 := by omega
      have f3 : ((a - 48) * 16) % 256 = (a - 48) * 16 := by omega
      rw [f1, f2, f3]
      exact or_bcd _ _ (by omega) (by omega) (by omega) (by omega)
    rw [e, ih (n + 2) k _ (by omega) (by simp; omega) (by omega)]
    simp
theorem impl_PutBcd_at (s : ByteArray) (hs : s.size ≤ 9000000) (k : Nat) (hk : s.size + 5 ≤ k) : impl_PutBcd.f k s = some (putBcd (bytesOf s)) := by
  obtain ⟨k, rfl⟩ : ∃ m, k = m + 2 := ⟨k - 2, by omega⟩
  unfold impl_PutBcd.f putBcd
  rw [impl_Digits_at s (by omega) (k + 2) (by omega)]
  simp only [Option.bind_some]
  by_cases h : digs (bytesOf s) = true
  · obtain ⟨h1, h2⟩ := digs_and _ h
    rw [bytesOf_length] at h2
    rw [if_pos h, h, impl_PutBcd.j0]
    by_cases h3 : (s.size : Int) > 38
    · have h4 : ¬ s.size ≤ 38 := by omega
      simp [h3, h4, bytesOf_length]
    · have h4 : s.size ≤ 38 := by omega
      simp only [h3, decide_false, Bool.false_eq_true, if_false]
      have q : (true && decide ((bytesOf s).length ≤ 38)) = true := by simp [bytesOf_length, h4]
      rw [if_pos q]
      by_cases h5 : (s.size : Int) % 2 = 1
      · have c1 : 1 + s.size ≤ 9223372036854775807 := by omega
        have eb : bytesOf ((⟨#[48]⟩ : ByteArray) ++ s) = 48 :: bytesOf s := by rw [bytesOf_append]; rfl
        have ez : ((⟨#[48]⟩ : ByteArray) ++ s).size = s.size + 1 := by rw [size_eq, eb, List.length_cons, bytesOf_length]
        have ev : evened (bytesOf s) = 48 :: bytesOf s := by unfold evened; rw [if_pos (by rw [bytesOf_length]; omega)]
        rw [if_pos h5, if_pos c1, impl_PutBcd.j1, ev]
        have hh := impl_PutBcd_l ((⟨#[48]⟩ : ByteArray) ++ s) (by omega) (by rw [eb, List.all_cons, h1]; decide) ((s.size + 1) / 2) 0 k [] (by omega) (by simp; omega) (by omega)
        rw [eb] at hh
        simpa using hh
      · have ev : evened (bytesOf s) = bytesOf s := by unfold evened; rw [if_neg (by rw [bytesOf_length]; omega)]
        rw [if_neg h5, impl_PutBcd.j1, ev]
        have hh := impl_PutBcd_l s (by omega) h1 (s.size / 2) 0 k [] (by omega) (by simp; omega) (by omega)
        simpa using hh
  · rw [if_neg h, impl_PutBcd.j0]
    simp [h]
end Go.Proofs.YtfiieppnpmodoaaDoor.Q
end
section
namespace Go.Proofs.YtfiieppnpmodoaaDoor.Q
open Go.RowKit Go.Proofs.YtfiieppnpmodoaaDoorW.PrintWords Go.Proofs.YtfiieppnpmodoaaDoorW.PrintLast Go.Proofs.YtfiieppnpmodoaaDoorW.PrintMore
attribute [local go_sem] max2_int min2_int max_two min_two max_three min_three max_four min_four
set_option linter.unusedVariables false
set_option linter.unusedSimpArgs false
def spec_PutLen.j0 : Nat → Int → Int → Bool → Option (List Int × Bool)
 | 0, _, _, _ => none
 | k + 1, x0, x1, x11 => if x11 = true then (some (([] : List Int), false)) else ((spec_Wide.f k x0 x1).bind fun t290 => ((spec_PutBcd.f k t290).bind fun bt291 => (some (bt291.1, bt291.2))))
def spec_PutLen.f (k : Nat) (a0 : Int) (a1 : Int) : Option (List Int × Bool) := if a1 = 2 then (spec_PutLen.j0 k a0 a1 false) else (spec_PutLen.j0 k a0 a1 (a1 != 3))
set_option maxHeartbeats 8000000 in
set_option maxRecDepth 100000 in
theorem spec_PutLen.calls (k : Nat) (a0 : Int) (a1 : Int) (r1 : List Int) (r2 : Bool) (w : World) (h : spec_PutLen.f k a0 a1 = some (r1, r2)) :
  Calls Tryd.prog 53 #[.int .i64 a0, .int .i64 a1] w fun e w' => ∃ v0_ : Value, e = .returned (.tuple #[v0_, .bool r2]) ∧ Kd.R (Kd.int .u8) 5 w' w.heap.size (fun _ => True) v0_ r1 ∧ Below w.heap.size w w' := by
 have HB := Aside0.mk (Below.refl w.heap.size w)
 have H : (if a1 = 2 then (spec_PutLen.j0 k a0 a1 false) else (spec_PutLen.j0 k a0 a1 (a1 != 3))) = some (r1, r2) := h
 clear h
 have HC3 := Aside0.mk H
 clear H
 go_enter Tryd.func53, Tryd.ntmps53
 go_upto_region 1 with (fail)
 go_cut [11] (fun v11 wc => ∃ (kq : Nat) (x11_2 : Bool), v11 = .bool x11_2 ∧ Aside0 (spec_PutLen.j0 kq a0 a1 x11_2 = some (r1, r2)) ∧ Aside0 (kq ≤ k) ∧ Aside0 (Below w.heap.size w wc))
 case first =>
  have H := HC3.out
  clear HC3
  by_cases c4 : a1 = 2
  ·rw [if_pos c4] at H
   have c4b0 : (a1 == 2) = true := beq_iff_eq.mpr c4
   have c4b1 : (a1 != 2) = false := bne_eq_false_iff_eq.mpr c4
   clear c4
   (first | rw [c4b0] | (simp only [i64_w, i32_w]; rw [c4b0]) | rw [c4b1] | (simp only [c4b1]) | skip)
   have H' := Aside0.mk H
   clear H
   go_wp2
   go_meet
   case rel => exact ⟨_, (false), (by first | rfl | (simp; done) | (simp [*]; done) | (simp [i64_w, IntKind.wrap_u8, e256_]; done) | (simp; generalize ByteArray.toList _ = zz_; cases zz_ <;> rfl)), H', ⟨by first | omega | exact Nat.le_refl _⟩, ⟨bB⟩⟩
  ·rw [if_neg c4] at H
   have c4b0 : (a1 == 2) = false := beq_eq_false_iff_ne.mpr c4
   have c4b1 : (a1 != 2) = true := bne_iff_ne.mpr c4
   (first | rw [c4b0] | (simp only [i64_w, i32_w]; rw [c4b0]) | rw [c4b1] | (simp only [c4b1]) | skip)
   have H' := Aside0.mk H
   clear H
   go_wp2
   go_meet
   case rel => exact ⟨_, ((a1 != 3)), (by first | rfl | (simp; done) | (simp [*]; done) | (simp [i64_w, IntKind.wrap_u8, e256_]; done) | (simp; generalize ByteArray.toList _ = zz_; cases zz_ <;> rfl)), H', ⟨by first | omega | exact Nat.le_refl _⟩, ⟨bB⟩⟩
 case rest =>
  clear HC3
  try clear p2
  try clear c4
  try clear c4b0
  try clear c4b1
  obtain ⟨kq, x11_2, rfl, HA, HJ2, HB⟩ := hcut
  cases kq with
  | zero => exact absurd HA.out (by simp [spec_PutLen.j0])
  | succ kj2 =>
   have H := HA.out
   clear HA
   simp only [spec_PutLen.j0] at H
   by_cases c5 : x11_2 = true
   ·subst c5
    have H1 : (some (([] : List Int), false)) = some (r1, r2) := by rw [if_pos rfl] at H; exact H
    clear H
    have H := H1
    clear H1
    simp only [Option.some.injEq, Prod.mk.injEq] at H
    obtain ⟨rfl, rfl⟩ := H
    go_wp2
    go_ret2
    exact ⟨_, by first | rfl | (simp [errW_none, errW_some] <;> rfl) | (simp [*, errW_none, errW_some] <;> rfl), by first | exact Kd.R_nil _ _ _ _ _ | exact Kd.N_nil _ _ _ _ _ | exact Kd.V_nil _ _ _ _ _ | exact Kd.Q_nil _ _ _ _ _ | exact Kd.S_nil _ _ _ _ _, bB⟩
   ·replace c5 := Bool.eq_false_iff.mpr c5
    subst c5
    have H1 : ((spec_Wide.f kj2 a0 a1).bind fun t290 => ((spec_PutBcd.f kj2 t290).bind fun bt291 => (some (bt291.1, bt291.2)))) = some (r1, r2) := by rw [if_neg (show ¬ (false = true) by decide)] at H; exact H
    clear H
    have H := H1
    clear H1
    replace H := Option.bind_eq_some_iff.mp H
    obtain ⟨t290, A60, H⟩ := H
    replace H : ((spec_PutBcd.f kj2 t290).bind fun bt291 => (some (bt291.1, bt291.2))) = some (r1, r2) := H
    have A6 := Aside0.mk A60
    clear A60
    replace H := Option.bind_eq_some_iff.mp H
    obtain ⟨⟨t291, t292⟩, A70, H⟩ := H
    replace H : (some (t291, t292)) = some (r1, r2) := H
    have A7 := Aside0.mk A70
    clear A70
    simp only [Option.some.injEq, Prod.mk.injEq] at H
    obtain ⟨rfl, rfl⟩ := H
    go_wp2_with (first | ((with_reducible refine gate_callee (f := 84) rfl ?_); refine goesM_ (some 14) rfl rfl Tryd.func84 (by kernel_rfl) rfl #[.int .i64 a0, .int .i64 a1] rfl ?_; (with_reducible refine (spec_Wide.calls kj2 a0 a1 t290 _ A6.out).mono ?_); rintro e w8 ⟨rfl, hb⟩; refine ⟨_, rfl, ?_⟩; have n0_ := Aside0.mk (below_step bB hb); clear HB; have HB := n0_; clear n0_; (try clear hb); (try clear hb2); (try clear hk); (try clear hi)) | ((with_reducible refine gate_callee (f := 54) rfl ?_); refine goesM_ (some 15) rfl rfl Tryd.func54 (by kernel_rfl) rfl #[.string t290] rfl ?_; (with_reducible refine (spec_PutBcd.calls kj2 t290 t291 t292 _ A7.out).mono ?_); rintro e w9 ⟨v293, rfl, ho0, hb⟩; refine ⟨_, rfl, ?_⟩; have n0_ := Aside0.mk (Kd.R_lower ho0 (below_size bB)); have n1_ := Aside0.mk (below_step bB hb); clear HB; have HO294 := n0_; have HB := n1_; clear n0_ n1_; (try clear hb); (try clear hb2); (try clear hk); (try clear hi); (try clear ho0)))
    go_ret2
    exact ⟨_, by first | rfl | (simp [errW_none, errW_some] <;> rfl) | (simp [*, errW_none, errW_some] <;> rfl), rA HO294.out, bB⟩
def impl_fieldRows.f  : Option ((List (S85))) := some (([(⟨2, 3, 19⟩ : S85), (⟨3, 1, 6⟩ : S85), (⟨4, 1, 12⟩ : S85), (⟨7, 1, 10⟩ : S85), (⟨11, 1, 6⟩ : S85), (⟨14, 1, 4⟩ : S85), (⟨37, 2, 12⟩ : S85), (⟨38, 2, 6⟩ : S85), (⟨39, 2, 2⟩ : S85), (⟨41, 2, 8⟩ : S85), (⟨48, 5, 60⟩ : S85), (⟨49, 1, 3⟩ : S85), (⟨54, 5, 60⟩ : S85), (⟨95, 2, 12⟩ : S85), (⟨102, 4, 20⟩ : S85), (⟨103, 4, 20⟩ : S85)] : List (S85)))
set_option maxHeartbeats 8000000 in
set_option maxRecDepth 100000 in
theorem impl_fieldRows.calls  (r : List (S85)) (w : World) (h : impl_fieldRows.f  = some r) :
  Calls Tryd.prog 69 #[] w fun e w' => ∃ v0_ : Value, e = .returned (v0_) ∧ Kd.R k85 85 w' w.heap.size (fun _ => True) v0_ r ∧ Below w.heap.size w w' := by
 have hu85 := Tryd.underlying85
 have HB := Aside0.mk (Below.refl w.heap.size w)
 have H : (some (([(⟨2, 3, 19⟩ : S85), (⟨3, 1, 6⟩ : S85), (⟨4, 1, 12⟩ : S85), (⟨7, 1, 10⟩ : S85), (⟨11, 1, 6⟩ : S85), (⟨14, 1, 4⟩ : S85), (⟨37, 2, 12⟩ : S85), (⟨38, 2, 6⟩ : S85), (⟨39, 2, 2⟩ : S85), (⟨41, 2, 8⟩ : S85), (⟨48, 5, 60⟩ : S85), (⟨49, 1, 3⟩ : S85), (⟨54, 5, 60⟩ : S85), (⟨95, 2, 12⟩ : S85), (⟨102, 4, 20⟩ : S85), (⟨103, 4, 20⟩ : S85)] : List (S85)))) = some r := h
 clear h
 obtain ⟨y295, hy295⟩ : ∃ y_ : List (S85), y_ = (([(⟨2, 3, 19⟩ : S85), (⟨3, 1, 6⟩ : S85), (⟨4, 1, 12⟩ : S85), (⟨7, 1, 10⟩ : S85), (⟨11, 1, 6⟩ : S85), (⟨14, 1, 4⟩ : S85), (⟨37, 2, 12⟩ : S85), (⟨38, 2, 6⟩ : S85), (⟨39, 2, 2⟩ : S85), (⟨41, 2, 8⟩ : S85), (⟨48, 5, 60⟩ : S85), (⟨49, 1, 3⟩ : S85), (⟨54, 5, 60⟩ : S85), (⟨95, 2, 12⟩ : S85), (⟨102, 4, 20⟩ : S85), (⟨103, 4, 20⟩ : S85)] : List (S85))) := ⟨_, rfl⟩
 replace H : (some y295) = some r := by first | (rw [hy295]; with_reducible exact H) | (have H2_ := (Option.bind_some _ _).symm.trans H; rw [hy295]; with_reducible exact H2_) | (have H2_ := (Option.bind_some _ _).symm.trans H; with_reducible exact H2_) | with_reducible exact H | (rw [hy295]; exact H) | exact H
 have Ny295 := Aside0.mk hy295
 clear hy295
 obtain rfl := Option.some.inj H
 go_enter Tryd.func69, Tryd.ntmps69
 go_wp2_with (first | ((with_reducible refine gate_dst (N := 17) rfl ?_); refine Kd.R_lit k85 _ 85 ?hg (N := 17) ?hd (xs := ([(⟨2, 3, 19⟩ : S85), (⟨3, 1, 6⟩ : S85), (⟨4, 1, 12⟩ : S85), (⟨7, 1, 10⟩ : S85), (⟨11, 1, 6⟩ : S85), (⟨14, 1, 4⟩ : S85), (⟨37, 2, 12⟩ : S85), (⟨38, 2, 6⟩ : S85), (⟨39, 2, 2⟩ : S85), (⟨41, 2, 8⟩ : S85), (⟨48, 5, 60⟩ : S85), (⟨49, 1, 3⟩ : S85), (⟨54, 5, 60⟩ : S85), (⟨95, 2, 12⟩ : S85), (⟨102, 4, 20⟩ : S85), (⟨103, 4, 20⟩ : S85)] : List (S85))) (inner := [.int .i64 2, .int .i64 3, .int .i64 19, .int .i64 3, .int .i64 1, .int .i64 6, .int .i64 4, .int .i64 1, .int .i64 12, .int .i64 7, .int .i64 1, .int .i64 10, .int .i64 11, .int .i64 1, .int .i64 6, .int .i64 14, .int .i64 1, .int .i64 4, .int .i64 37, .int .i64 2, .int .i64 12, .int .i64 38, .int .i64 2, .int .i64 6, .int .i64 39, .int .i64 2, .int .i64 2, .int .i64 41, .int .i64 2, .int .i64 8, .int .i64 48, .int .i64 5, .int .i64 60, .int .i64 49, .int .i64 1, .int .i64 3, .int .i64 54, .int .i64 5, .int .i64 60, .int .i64 95, .int .i64 2, .int .i64 12, .int .i64 102, .int .i64 4, .int .i64 20, .int .i64 103, .int .i64 4, .int .i64 20]) (ok := fun _ => True) (okp := fun _ => True) ?hr ?hp (fun _ hk => hk) trivial (Below.refl _ _) (Nat.le_refl _) (by simp) ?_; (case hd => rfl); (case hg => rfl); (case hr => first | (go_simp; done) | (go_simp; rfl)); (case hp => exact (Reps.c3 (show Kd.M k85 _ _ _ (⟨2, 3, 19⟩ : S85) [.int .i64 2, .int .i64 3, .int .i64 19] from (k85_mkM _ _ _ (⟨2, 3, 19⟩ : S85) )) (Reps.c3 (show Kd.M k85 _ _ _ (⟨3, 1, 6⟩ : S85) [.int .i64 3, .int .i64 1, .int .i64 6] from (k85_mkM _ _ _ (⟨3, 1, 6⟩ : S85) )) (Reps.c3 (show Kd.M k85 _ _ _ (⟨4, 1, 12⟩ : S85) [.int .i64 4, .int .i64 1, .int .i64 12] from (k85_mkM _ _ _ (⟨4, 1, 12⟩ : S85) )) (Reps.c3 (show Kd.M k85 _ _ _ (⟨7, 1, 10⟩ : S85) [.int .i64 7, .int .i64 1, .int .i64 10] from (k85_mkM _ _ _ (⟨7, 1, 10⟩ : S85) )) (Reps.c3 (show Kd.M k85 _ _ _ (⟨11, 1, 6⟩ : S85) [.int .i64 11, .int .i64 1, .int .i64 6] from (k85_mkM _ _ _ (⟨11, 1, 6⟩ : S85) )) (Reps.c3 (show Kd.M k85 _ _ _ (⟨14, 1, 4⟩ : S85) [.int .i64 14, .int .i64 1, .int .i64 4] from (k85_mkM _ _ _ (⟨14, 1, 4⟩ : S85) )) (Reps.c3 (show Kd.M k85 _ _ _ (⟨37, 2, 12⟩ : S85) [.int .i64 37, .int .i64 2, .int .i64 12] from (k85_mkM _ _ _ (⟨37, 2, 12⟩ : S85) )) (Reps.c3 (show Kd.M k85 _ _ _ (⟨38, 2, 6⟩ : S85) [.int .i64 38, .int .i64 2, .int .i64 6] from (k85_mkM _ _ _ (⟨38, 2, 6⟩ : S85) )) (Reps.c3 (show Kd.M k85 _ _ _ (⟨39, 2, 2⟩ : S85) [.int .i64 39, .int .i64 2, .int .i64 2] from (k85_mkM _ _ _ (⟨39, 2, 2⟩ : S85) )) (Reps.c3 (show Kd.M k85 _ _ _ (⟨41, 2, 8⟩ : S85) [.int .i64 41, .int .i64 2, .int .i64 8] from (k85_mkM _ _ _ (⟨41, 2, 8⟩ : S85) )) (Reps.c3 (show Kd.M k85 _ _ _ (⟨48, 5, 60⟩ : S85) [.int .i64 48, .int .i64 5, .int .i64 60] from (k85_mkM _ _ _ (⟨48, 5, 60⟩ : S85) )) (Reps.c3 (show Kd.M k85 _ _ _ (⟨49, 1, 3⟩ : S85) [.int .i64 49, .int .i64 1, .int .i64 3] from (k85_mkM _ _ _ (⟨49, 1, 3⟩ : S85) )) (Reps.c3 (show Kd.M k85 _ _ _ (⟨54, 5, 60⟩ : S85) [.int .i64 54, .int .i64 5, .int .i64 60] from (k85_mkM _ _ _ (⟨54, 5, 60⟩ : S85) )) (Reps.c3 (show Kd.M k85 _ _ _ (⟨95, 2, 12⟩ : S85) [.int .i64 95, .int .i64 2, .int .i64 12] from (k85_mkM _ _ _ (⟨95, 2, 12⟩ : S85) )) (Reps.c3 (show Kd.M k85 _ _ _ (⟨102, 4, 20⟩ : S85) [.int .i64 102, .int .i64 4, .int .i64 20] from (k85_mkM _ _ _ (⟨102, 4, 20⟩ : S85) )) (Reps.c3 (show Kd.M k85 _ _ _ (⟨103, 4, 20⟩ : S85) [.int .i64 103, .int .i64 4, .int .i64 20] from (k85_mkM _ _ _ (⟨103, 4, 20⟩ : S85) )) (Reps.none _ _)))))))))))))))))); intro v296 w1 ho2 hb hg_ hnew_; clear hg_ hnew_; (first | rw [← Ny295.out] at ho2 | (simp only [Int.reduceToNat] at ho2; rw [← Ny295.out] at ho2)); have n0_ := Aside0.mk (Kd.R_lower ho2 (below_size bB)); have n1_ := Aside0.mk (below_step bB hb); clear HB; have HO297 := n0_; have HB := n1_; clear n0_ n1_; clear hb ho2))
 go_ret
 exact ⟨_, by first | rfl | (simp [errW_none, errW_some] <;> rfl) | (simp [*, errW_none, errW_some] <;> rfl), rA HO297.out, bB⟩
end Go.Proofs.YtfiieppnpmodoaaDoor.Q
end
section
namespace Go.Proofs.YtfiieppnpmodoaaDoor.Q
open Go.RowKit Go.Proofs.YtfiieppnpmodoaaDoorW.PrintWords Go.Proofs.YtfiieppnpmodoaaDoorW.PrintLast Go.Proofs.YtfiieppnpmodoaaDoorW.PrintMore
set_option linter.unusedVariables false
set_option linter.unusedSimpArgs false
theorem wide_size (n w : Int) : (wide n w).size ≤ 18 := by
  unfold wide
  split
  · rename_i h
    rw [ByteArray.size_append, rep_size]
    omega
  · decide
def putLen (n w : Int) : List Int × Bool := if w = 2 ∨ w = 3 then putBcd (bytesOf (wide n w)) else ([], false)
theorem putLen_short (n w : Int) : (putLen n w).1.length ≤ 38 := by
  unfold putLen
  split
  · unfold putBcd
    split
    · rename_i h
      have h2 : (bytesOf (wide n w)).length ≤ 38 := by simp at h; exact h.2
      rw [bcd_length (((bytesOf (wide n w)).length + 1) / 2) _ (evened_length _)]
      omega
    · simp
  · simp
theorem spec_PutLen_at (n w : Int) (h1 : n ≤ 9223372036854775807) (k : Nat) (hk : 100 < k) : spec_PutLen.f k n w = some (putLen n w) := by
  obtain ⟨k, rfl⟩ : ∃ m, k = m + 1 := ⟨k - 1, by omega⟩
  have hs := wide_size n w
  unfold spec_PutLen.f putLen
  have hj : spec_PutLen.j0 (k + 1) n w false = some (putBcd (bytesOf (wide n w))) := by
    rw [spec_PutLen.j0, if_neg (by simp), spec_Wide_at n w h1 k (by omega), Option.bind_some, spec_PutBcd_at _ (by omega) k (by omega), Option.bind_some]
  by_cases h2 : w = 2
  · rw [if_pos h2, if_pos (Or.inl h2), hj]
  rw [if_neg h2]
  by_cases h3 : w = 3
  · have e : (w != 3) = false := by simp [h3]
    rw [e, if_pos (Or.inr h3), hj]
  · have e : (w != 3) = true := by simp [h3]
    rw [e, if_neg (by omega), spec_PutLen.j0, if_pos rfl]
theorem impl_PutLen_at (n w : Int) (h0 : -9223372036854775808 ≤ n) (h1 : n ≤ 9223372036854775807) (k : Nat) (hk : 100 < k) : impl_PutLen.f k n w = some (putLen n w) := by
  have hs := wide_size n w
  have hin : impl_within.f w 2 3 = some (decide (w = 2 ∨ w = 3)) := by
    unfold impl_within.f
    by_cases h : 2 ≤ w
    · rw [if_pos h]; congr 1; apply decide_eq_decide.2; omega
    · rw [if_neg h]; congr 1; symm; apply decide_eq_false; omega
  unfold impl_PutLen.f putLen
  rw [hin, Option.bind_some]
  by_cases h2 : w = 2 ∨ w = 3
  · rw [if_pos (decide_eq_true h2), if_pos h2, impl_Wide_at n w h0 h1, Option.bind_some, impl_PutBcd_at _ (by omega) k (by omega), Option.bind_some]
  · rw [if_neg (by simpa using h2), if_neg h2]
def kindOf (x : Int) : Int := if x = 2 then 3 else if x = 3 ∨ x = 4 ∨ x = 7 ∨ x = 11 ∨ x = 14 ∨ x = 49 then 1 else if x = 37 ∨ x = 38 ∨ x = 39 ∨ x = 41 ∨ x = 95 then 2 else if x = 102 ∨ x = 103 then 4 else if x = 48 ∨ x = 54 then 5 else 0
def sizeOf_ (x : Int) : Int := if x = 2 then 19 else if x = 3 ∨ x = 11 ∨ x = 38 then 6 else if x = 4 ∨ x = 37 ∨ x = 95 then 12 else if x = 7 then 10 else if x = 14 then 4 else if x = 39 then 2 else if x = 41 then 8 else if x = 49 then 3 else if x = 102 ∨ x = 103 then 20 else if x = 48 ∨ x = 54 then 60 else 0
theorem nos_cases (P : Int → Prop) (h2 : P 2) (h3 : P 3) (h4 : P 4) (h7 : P 7) (h11 : P 11) (h14 : P 14) (h37 : P 37) (h38 : P 38) (h39 : P 39) (h41 : P 41) (h48 : P 48) (h49 : P 49) (h54 : P 54) (h95 : P 95) (h102 : P 102) (h103 : P 103)
    (hno : ∀ x : Int, ¬ x = 2 → ¬ x = 3 → ¬ x = 4 → ¬ x = 7 → ¬ x = 11 → ¬ x = 14 → ¬ x = 37 → ¬ x = 38 → ¬ x = 39 → ¬ x = 41 → ¬ x = 48 → ¬ x = 49 → ¬ x = 54 → ¬ x = 95 → ¬ x = 102 → ¬ x = 103 → P x) (x : Int) : P x := by
  by_cases e2 : x = 2
  · subst e2; exact h2
  by_cases e3 : x = 3
  · subst e3; exact h3
  by_cases e4 : x = 4
  · subst e4; exact h4
  by_cases e7 : x = 7
  · subst e7; exact h7
  by_cases e11 : x = 11
  · subst e11; exact h11
  by_cases e14 : x = 14
  · subst e14; exact h14
  by_cases e37 : x = 37
  · subst e37; exact h37
  by_cases e38 : x = 38
  · subst e38; exact h38
  by_cases e39 : x = 39
  · subst e39; exact h39
  by_cases e41 : x = 41
  · subst e41; exact h41
  by_cases e48 : x = 48
  · subst e48; exact h48
  by_cases e49 : x = 49
  · subst e49; exact h49
  by_cases e54 : x = 54
  · subst e54; exact h54
  by_cases e95 : x = 95
  · subst e95; exact h95
  by_cases e102 : x = 102
  · subst e102; exact h102
  by_cases e103 : x = 103
  · subst e103; exact h103
  exact hno x e2 e3 e4 e7 e11 e14 e37 e38 e39 e41 e48 e49 e54 e95 e102 e103
end Go.Proofs.YtfiieppnpmodoaaDoor.Q
end
section
namespace Go.Proofs.YtfiieppnpmodoaaDoor.Q
open Go.RowKit Go.Proofs.YtfiieppnpmodoaaDoorW.PrintWords Go.Proofs.YtfiieppnpmodoaaDoorW.PrintLast Go.Proofs.YtfiieppnpmodoaaDoorW.PrintMore
attribute [local go_sem] max2_int min2_int max_two min_two max_three min_three max_four min_four
set_option linter.unusedVariables false
set_option linter.unusedSimpArgs false
def impl_rowOf.l0 : Nat → Int → List (S85) → Int → Int → Option (Int × Int × Int)
 | 0, _, _, _, _ => none
 | k + 1, x0, x5, x6, x7 => if x7 < x6 then (if 0 ≤ x7 then (if x7 < (x5.length : Int) then (if ((rd_T85 x5 x7).f0) = x0 then (some ((rd_T85 x5 x7).f0, (rd_T85 x5 x7).f1, (rd_T85 x5 x7).f2)) else (impl_rowOf.l0 k x0 x5 x6 (wrap64 (x7 + 1)))) else (none)) else (none)) else (some (0, 0, 0))
def impl_rowOf.f (k : Nat) (a0 : Int) : Option (Int × Int × Int) := (impl_fieldRows.f).bind fun t299 => (impl_rowOf.l0 k a0 t299 (t299.length : Int) 0)
theorem impl_rowOf.mono_l : ∀ k, (∀ y0 y1 y2 y3, LeO (impl_rowOf.l0 k y0 y1 y2 y3) (impl_rowOf.l0 (k + 1) y0 y1 y2 y3))
 | 0 => fun _ _ _ _ r h => by simp [impl_rowOf.l0] at h
 | k + 1 => by
  have ih0 := impl_rowOf.mono_l k
  ·intro y0 y1 y2 y3
   unfold impl_rowOf.l0
   repeat' first
   | (with_reducible exact ih0 _ _ _ _)
   | (with_reducible exact LeO.refl _)
   | (with_reducible exact LeO.none _)
   | (with_reducible refine LeO.ite ?_ ?_)
   | (with_reducible refine LeO.bind ?_ (fun _ => ?_))
   | exact ih0 _ _ _ _
   | exact LeO.none _
   | refine LeO.ite ?_ ?_
   | refine LeO.bind ?_ (fun _ => ?_)
theorem impl_rowOf.mono : ∀ a0 k, LeO (impl_rowOf.f k a0) (impl_rowOf.f (k + 1) a0) := by
 intro a0 k
 have ih0 := impl_rowOf.mono_l k
 unfold impl_rowOf.f
 repeat' first
   | (with_reducible exact ih0 _ _ _ _)
   | (with_reducible exact LeO.refl _)
   | (with_reducible exact LeO.none _)
   | (with_reducible refine LeO.ite ?_ ?_)
   | (with_reducible refine LeO.bind ?_ (fun _ => ?_))
   | exact ih0 _ _ _ _
   | exact LeO.none _
   | refine LeO.ite ?_ ?_
   | refine LeO.bind ?_ (fun _ => ?_)
set_option maxHeartbeats 8000000 in
set_option maxRecDepth 100000 in
theorem impl_rowOf.calls (k : Nat) (a0 : Int) (r1 : Int) (r2 : Int) (r3 : Int) (w : World) (h : impl_rowOf.f k a0 = some (r1, r2, r3)) :
  Calls Tryd.prog 66 #[.int .i64 a0] w fun e w' => e = .returned (.agg #[.int .i64 r1, .int .i64 r2, .int .i64 r3]) ∧ Below w.heap.size w w' := by
 have hu85 := Tryd.underlying85
 have HB := Aside0.mk (Below.refl w.heap.size w)
 have H : ((impl_fieldRows.f).bind fun t299 => (impl_rowOf.l0 k a0 t299 (t299.length : Int) 0)) = some (r1, r2, r3) := h
 clear h
 replace H := Option.bind_eq_some_iff.mp H
 obtain ⟨t299, A20, H⟩ := H
 replace H : (impl_rowOf.l0 k a0 t299 (t299.length : Int) 0) = some (r1, r2, r3) := H
 have A2 := Aside0.mk A20
 clear A20
 have H' := Aside0.mk H
 clear H
 go_enter Tryd.func66, Tryd.ntmps66
 go_wp2_with (first | ((with_reducible refine gate_dst (N := 2) rfl ?_); refine box_event ?hg (N := 2) ?hd (cs := #[.int .i64 0, .int .i64 0, .int .i64 0]) (t := 85) ?hr ?_; (case hd => rfl); (case hg => rfl); (case hr => first | (go_simp; done) | (go_simp; rfl)); intro gb298 hg w3 hbox hb; have n0_ := Aside0.mk (below_step bB hb); have n1_ := Aside0.mk (hbox); have n2_ := Aside0.mk ((by rw [hg]; exact (below_size bB) : w.heap.size ≤ gb298)); have n3_ := Aside0.mk ((by rw [hg]; exact (below_size bB) : w.heap.size ≤ gb298)); clear HB; have HB := n0_; have BK298 := n1_; have GW298 := n2_; have GE298 := n3_; clear n0_ n1_ n2_ n3_; clear hb hbox hg) | ((with_reducible refine gate_callee (f := 69) rfl ?_); refine goesM_ (some 5) rfl rfl Tryd.func69 (by kernel_rfl) rfl #[] rfl ?_; (with_reducible refine (impl_fieldRows.calls  t299 _ A2.out).mono ?_); rintro e w4 ⟨v300, rfl, ho0, hb⟩; refine ⟨_, rfl, ?_⟩; have n0_ := Aside0.mk (Kd.R_lower (Kd.R_newB ho0 (g := gb298) (o := .cells #[.int .i64 0, .int .i64 0, .int .i64 0] 85 (0, 0)) (kA BK298.out)) (below_size bG)); have n1_ := Aside0.mk (blk_below (g := gb298) (o := .cells #[.int .i64 0, .int .i64 0, .int .i64 0] 85 (0, 0)) (kA BK298.out) hb); have n2_ := Aside0.mk (below_step bG hb); clear BK298; clear HB; have HO301 := n0_; have BK298 := n1_; have HB := n2_; clear n0_ n1_ n2_; (try clear hb); (try clear hb2); (try clear hk); (try clear hi); (try clear ho0); obtain ⟨Ao5, co5, eo5⟩ := Kd.R_slice HO301.out; subst eo5))
 go_loopg [7] k (fun kq v7 w' => ∃ (x7_1 : Int) (x299000_1 : Int) (x299001_1 : Int) (x299002_1 : Int), v7 = .int .i64 x7_1 ∧ Aside0 (impl_rowOf.l0 kq a0 t299 (t299.length : Int) x7_1 = some (r1, r2, r3)) ∧ Aside0 (kq ≤ k) ∧ Aside0 (Kd.R k85 85 w' w.heap.size (fun k_ => k_ ≠ gb298) (.slice Ao5 t299.length co5) t299) ∧ Aside0 (w'.heap[gb298]? = some (.cells #[.int .i64 x299000_1, .int .i64 x299001_1, .int .i64 x299002_1] 85 (0, 0))) ∧ Aside0 (Below w.heap.size w w'))
 case atStart => exact ⟨(0), (0), (0), (0), (by first | rfl | (simp; done) | (simp [*]; done) | (simp [i64_w, IntKind.wrap_u8, e256_]; done) | (simp; generalize ByteArray.toList _ = zz_; cases zz_ <;> rfl)), H', ⟨Nat.le_refl _⟩, ⟨by (with_reducible repeat (first | apply Kd.R_alloc | apply Kd.R_drewN | apply Kd.R_drew)); exact Kd.R_mono HO301.out (fun _ hk => hk.2)⟩, ⟨kA BK298.out⟩, ⟨bG⟩⟩
 case round =>
  clear H'
  try clear p2
  obtain ⟨x7_1, x299000_1, x299001_1, x299002_1, rfl, HA, HK1, HO_5, BK298, HB⟩ := hrel
  cases gk with
  | zero => exact absurd HA.out (by simp [impl_rowOf.l0])
  | succ k1 =>
   have H := HA.out
   clear HA
   simp only [impl_rowOf.l0] at H
   by_cases c6 : x7_1 < (t299.length : Int)
   ·rw [if_pos c6] at H
    have c6b0 : decide (x7_1 < (t299.length : Int)) = true := decide_eq_true c6
    clear c6
    by_cases c7 : 0 ≤ x7_1
    ·rw [if_pos c7] at H
     have c7b0 : decide (0 ≤ x7_1) = true := decide_eq_true c7
     clear c7
     by_cases c8 : x7_1 < (t299.length : Int)
     ·rw [if_pos c8] at H
      have c8b0 : decide (x7_1 < (t299.length : Int)) = true := decide_eq_true c8
      clear c8
      by_cases c9 : ((rd_T85 t299 x7_1).f0) = a0
      ·rw [if_pos c9] at H
       have c9b0 : (((rd_T85 t299 x7_1).f0) == a0) = true := beq_iff_eq.mpr c9
       have c9b1 : (((rd_T85 t299 x7_1).f0) != a0) = false := bne_eq_false_iff_eq.mpr c9
       clear c9
       simp only [Option.some.injEq, Prod.mk.injEq] at H
       obtain ⟨rfl, rfl, rfl⟩ := H
       have p302 : 0 ≤ (x7_1 : Int) := of_decide_eq_true (by first | (with_reducible assumption) | assumption)
       have q302 : x7_1 < (t299.length : Int) := of_decide_eq_true (by first | (with_reducible assumption) | assumption)
       obtain ⟨ad302, e302, hx302_0, hx302_1, hx302_2⟩ := at_T85 (Kd.R_reads' HO_5.out).2.2 x7_1 p302 q302
       cases e302
       replace p302 := eq_true p302
       replace q302 := eq_true q302
       go_wp2_with (first | ((with_reducible refine gate_dst (N := 4) rfl ?_); refine box_event ?hg (N := 4) ?hd (cs := #[.int .i64 0, .int .i64 0, .int .i64 0]) (t := 85) ?hr ?_; (case hd => rfl); (case hg => rfl); (case hr => first | (go_simp; done) | (go_simp; rfl)); intro gb303 hg w10 hbox hb; have n0_ := Aside0.mk (Kd.R_below (Kd.R_elderB (rA HO_5.out) gb303 (Nat.le_of_eq hg.symm)) hb); have n1_ := Aside0.mk (blk_below (g := gb298) (o := .cells #[.int .i64 x299000_1, .int .i64 x299001_1, .int .i64 x299002_1] 85 (0, 0)) (kA BK298.out) hb); have n2_ := Aside0.mk (below_step bG hb); have n3_ := Aside0.mk (hbox); have n4_ := Aside0.mk ((by rw [hg]; exact (below_size bG) : w.heap.size ≤ gb303)); have n5_ := Aside0.mk ((by rw [hg]; exact (below_size bG) : w.heap.size ≤ gb303)); have n6_ := Aside0.mk ((by rw [hg]; exact Nat.ne_of_lt (blk_lt (g := gb298) (o := .cells #[.int .i64 x299000_1, .int .i64 x299001_1, .int .i64 x299002_1] 85 (0, 0)) (kA BK298.out)) : gb298 ≠ gb303)); have n7_ := Aside0.mk ((by rw [hg]; exact Nat.ne_of_gt (blk_lt (g := gb298) (o := .cells #[.int .i64 x299000_1, .int .i64 x299001_1, .int .i64 x299002_1] 85 (0, 0)) (kA BK298.out)) : gb303 ≠ gb298)); clear HO_5; clear BK298; clear HB; have HO_5 := n0_; have BK298 := n1_; have HB := n2_; have BK303 := n3_; have GW303 := n4_; have GE303 := n5_; have NB298_303 := n6_; have NB303_298 := n7_; clear n0_ n1_ n2_ n3_ n4_ n5_ n6_ n7_; clear hb hbox hg; have hnb11 := NB303_298.out; have hnc11 := NB298_303.out; have hcz12_0 : w10.cell? ⟨gb303, 0, none⟩ = some (.int .i64 0) := (blk_cell BK303.out 0).trans rfl; have hcz12_1 : w10.cell? ⟨gb303, 1, none⟩ = some (.int .i64 0) := (blk_cell BK303.out 1).trans rfl; have hcz12_2 : w10.cell? ⟨gb303, 2, none⟩ = some (.int .i64 0) := (blk_cell BK303.out 2).trans rfl; have hfz12_0 := blk_frozen BK303.out 0; have hfz12_1 := blk_frozen BK303.out 1; have hfz12_2 := blk_frozen BK303.out 2; have hcz13_0 : w10.cell? ⟨gb298, 0, none⟩ = some (.int .i64 x299000_1) := (blk_cell BK298.out 0).trans rfl; have hcz13_1 : w10.cell? ⟨gb298, 1, none⟩ = some (.int .i64 x299001_1) := (blk_cell BK298.out 1).trans rfl; have hcz13_2 : w10.cell? ⟨gb298, 2, none⟩ = some (.int .i64 x299002_1) := (blk_cell BK298.out 2).trans rfl; have hfz13_0 := blk_frozen BK298.out 0; have hfz13_1 := blk_frozen BK298.out 1; have hfz13_2 := blk_frozen BK298.out 2))
       refine bodyPost_ret (results_cell_row rfl _ _ gb298 85 #[.int .i64 ((rd_T85 t299 x7_1).f0), .int .i64 ((rd_T85 t299 x7_1).f1), .int .i64 ((rd_T85 t299 x7_1).f2)] (0, 0) _ rfl (by (with_reducible repeat (first | refine blk_drewN ?_ _ | refine blk_drew ?_ | refine blk_alloc ?_ _)); refine blk_put (cs := #[.int .i64 ((rd_T85 t299 x7_1).f0), .int .i64 ((rd_T85 t299 x7_1).f1), .int .i64 x299002_1]) ?_ 2 _ rfl; (with_reducible repeat (first | refine blk_drewN ?_ _ | refine blk_drew ?_ | refine blk_alloc ?_ _)); refine blk_put (cs := #[.int .i64 ((rd_T85 t299 x7_1).f0), .int .i64 x299001_1, .int .i64 x299002_1]) ?_ 1 _ rfl; (with_reducible repeat (first | refine blk_drewN ?_ _ | refine blk_drew ?_ | refine blk_alloc ?_ _)); refine blk_put (cs := #[.int .i64 x299000_1, .int .i64 x299001_1, .int .i64 x299002_1]) ?_ 0 _ rfl; (with_reducible repeat (first | refine blk_drewN ?_ _ | refine blk_drew ?_ | refine blk_alloc ?_ _)); refine blk_far ?_ NB298_303.out _; (with_reducible repeat (first | refine blk_drewN ?_ _ | refine blk_drew ?_ | refine blk_alloc ?_ _)); refine blk_far ?_ NB298_303.out _; (with_reducible repeat (first | refine blk_drewN ?_ _ | refine blk_drew ?_ | refine blk_alloc ?_ _)); refine blk_far ?_ NB298_303.out _; (with_reducible repeat (first | refine blk_drewN ?_ _ | refine blk_drew ?_ | refine blk_alloc ?_ _)); exact BK298.out) Tryd.underlying85 rfl (by kernel_rfl)) rfl ?_
       exact ⟨by first | rfl | (simp [errW_none, errW_some] <;> rfl) | (simp [*, errW_none, errW_some] <;> rfl), bG⟩
      ·rw [if_neg c9] at H
       have c9b0 : (((rd_T85 t299 x7_1).f0) == a0) = false := beq_eq_false_iff_ne.mpr c9
       have c9b1 : (((rd_T85 t299 x7_1).f0) != a0) = true := bne_iff_ne.mpr c9
       have H' := Aside0.mk H
       clear H
       have p302 : 0 ≤ (x7_1 : Int) := of_decide_eq_true (by first | (with_reducible assumption) | assumption)
       have q302 : x7_1 < (t299.length : Int) := of_decide_eq_true (by first | (with_reducible assumption) | assumption)
       obtain ⟨ad302, e302, hx302_0, hx302_1, hx302_2⟩ := at_T85 (Kd.R_reads' HO_5.out).2.2 x7_1 p302 q302
       cases e302
       replace p302 := eq_true p302
       replace q302 := eq_true q302
       go_wp2_with (first | ((with_reducible refine gate_dst (N := 4) rfl ?_); refine box_event ?hg (N := 4) ?hd (cs := #[.int .i64 0, .int .i64 0, .int .i64 0]) (t := 85) ?hr ?_; (case hd => rfl); (case hg => rfl); (case hr => first | (go_simp; done) | (go_simp; rfl)); intro gb303 hg w14 hbox hb; have n0_ := Aside0.mk (Kd.R_below (Kd.R_elderB (rA HO_5.out) gb303 (Nat.le_of_eq hg.symm)) hb); have n1_ := Aside0.mk (blk_below (g := gb298) (o := .cells #[.int .i64 x299000_1, .int .i64 x299001_1, .int .i64 x299002_1] 85 (0, 0)) (kA BK298.out) hb); have n2_ := Aside0.mk (below_step bG hb); have n3_ := Aside0.mk (hbox); have n4_ := Aside0.mk ((by rw [hg]; exact (below_size bG) : w.heap.size ≤ gb303)); have n5_ := Aside0.mk ((by rw [hg]; exact (below_size bG) : w.heap.size ≤ gb303)); have n6_ := Aside0.mk ((by rw [hg]; exact Nat.ne_of_lt (blk_lt (g := gb298) (o := .cells #[.int .i64 x299000_1, .int .i64 x299001_1, .int .i64 x299002_1] 85 (0, 0)) (kA BK298.out)) : gb298 ≠ gb303)); have n7_ := Aside0.mk ((by rw [hg]; exact Nat.ne_of_gt (blk_lt (g := gb298) (o := .cells #[.int .i64 x299000_1, .int .i64 x299001_1, .int .i64 x299002_1] 85 (0, 0)) (kA BK298.out)) : gb303 ≠ gb298)); clear HO_5; clear BK298; clear HB; have HO_5 := n0_; have BK298 := n1_; have HB := n2_; have BK303 := n3_; have GW303 := n4_; have GE303 := n5_; have NB298_303 := n6_; have NB303_298 := n7_; clear n0_ n1_ n2_ n3_ n4_ n5_ n6_ n7_; clear hb hbox hg; have hnb15 := NB303_298.out; have hnc15 := NB298_303.out; have hcz16_0 : w14.cell? ⟨gb303, 0, none⟩ = some (.int .i64 0) := (blk_cell BK303.out 0).trans rfl; have hcz16_1 : w14.cell? ⟨gb303, 1, none⟩ = some (.int .i64 0) := (blk_cell BK303.out 1).trans rfl; have hcz16_2 : w14.cell? ⟨gb303, 2, none⟩ = some (.int .i64 0) := (blk_cell BK303.out 2).trans rfl; have hfz16_0 := blk_frozen BK303.out 0; have hfz16_1 := blk_frozen BK303.out 1; have hfz16_2 := blk_frozen BK303.out 2))
       go_roundg k1
       case measure => have := HK1.out; omega
       case rel => exact ⟨(wrap64 (x7_1 + 1)), (x299000_1), (x299001_1), (x299002_1), (by first | rfl | (simp; done) | (simp [*]; done) | (simp [i64_w, IntKind.wrap_u8, e256_]; done) | (simp; generalize ByteArray.toList _ = zz_; cases zz_ <;> rfl)), H', ⟨by have := HK1.out; omega⟩, ⟨by (with_reducible repeat (first | apply Kd.R_alloc | apply Kd.R_drewN | apply Kd.R_drew)); exact Kd.R_mono (Kd.R_far (p := ⟨gb303, 2, none⟩) (Kd.R_far (p := ⟨gb303, 1, none⟩) (Kd.R_far (p := ⟨gb303, 0, none⟩) (Kd.R_mono HO_5.out (fun k_ hk => (⟨hk, hk.2⟩ : _ ∧ k_ ≠ gb303))) (fun _ hk => hk.2) (.int .i64 ((rd_T85 t299 x7_1).f0))) (fun _ hk => hk.2) (.int .i64 ((rd_T85 t299 x7_1).f1))) (fun _ hk => hk.2) (.int .i64 ((rd_T85 t299 x7_1).f2))) (fun _ hk => hk.1.1)⟩, ⟨by (with_reducible repeat (first | refine blk_drewN ?_ _ | refine blk_drew ?_ | refine blk_alloc ?_ _)); refine blk_far ?_ NB298_303.out _; (with_reducible repeat (first | refine blk_drewN ?_ _ | refine blk_drew ?_ | refine blk_alloc ?_ _)); refine blk_far ?_ NB298_303.out _; (with_reducible repeat (first | refine blk_drewN ?_ _ | refine blk_drew ?_ | refine blk_alloc ?_ _)); refine blk_far ?_ NB298_303.out _; (with_reducible repeat (first | refine blk_drewN ?_ _ | refine blk_drew ?_ | refine blk_alloc ?_ _)); exact BK298.out⟩, ⟨bG⟩⟩
     ·rw [if_neg c8] at H
      exact absurd H (by simp)
    ·rw [if_neg c7] at H
     exact absurd H (by simp)
   ·rw [if_neg c6] at H
    have c6b0 : decide (x7_1 < (t299.length : Int)) = false := decide_eq_false c6
    clear c6
    simp only [Option.some.injEq, Prod.mk.injEq] at H
    obtain ⟨rfl, rfl, rfl⟩ := H
    have hcz17_0 : wr.cell? ⟨gb298, 0, none⟩ = some (.int .i64 x299000_1) := (blk_cell BK298.out 0).trans rfl
    have hcz17_1 : wr.cell? ⟨gb298, 1, none⟩ = some (.int .i64 x299001_1) := (blk_cell BK298.out 1).trans rfl
    have hcz17_2 : wr.cell? ⟨gb298, 2, none⟩ = some (.int .i64 x299002_1) := (blk_cell BK298.out 2).trans rfl
    have hfz17_0 := blk_frozen BK298.out 0
    have hfz17_1 := blk_frozen BK298.out 1
    have hfz17_2 := blk_frozen BK298.out 2
    go_wp2
    refine bodyPost_ret (results_cell_row rfl _ _ gb298 85 #[.int .i64 0, .int .i64 0, .int .i64 0] (0, 0) _ rfl (by (with_reducible repeat (first | refine blk_drewN ?_ _ | refine blk_drew ?_ | refine blk_alloc ?_ _)); refine blk_put (cs := #[.int .i64 0, .int .i64 0, .int .i64 x299002_1]) ?_ 2 _ rfl; (with_reducible repeat (first | refine blk_drewN ?_ _ | refine blk_drew ?_ | refine blk_alloc ?_ _)); refine blk_put (cs := #[.int .i64 0, .int .i64 x299001_1, .int .i64 x299002_1]) ?_ 1 _ rfl; (with_reducible repeat (first | refine blk_drewN ?_ _ | refine blk_drew ?_ | refine blk_alloc ?_ _)); refine blk_put (cs := #[.int .i64 x299000_1, .int .i64 x299001_1, .int .i64 x299002_1]) ?_ 0 _ rfl; (with_reducible repeat (first | refine blk_drewN ?_ _ | refine blk_drew ?_ | refine blk_alloc ?_ _)); exact BK298.out) Tryd.underlying85 rfl (by kernel_rfl)) rfl ?_
    exact ⟨by first | rfl | (simp [errW_none, errW_some] <;> rfl) | (simp [*, errW_none, errW_some] <;> rfl), bG⟩
end Go.Proofs.YtfiieppnpmodoaaDoor.Q
end
section
namespace Go.Proofs.YtfiieppnpmodoaaDoor.Q
open Go.RowKit Go.Proofs.YtfiieppnpmodoaaDoorW.PrintWords Go.Proofs.YtfiieppnpmodoaaDoorW.PrintLast Go.Proofs.YtfiieppnpmodoaaDoorW.PrintMore
set_option linter.unusedVariables false
set_option linter.unusedSimpArgs false
theorem rowOf_none (x : Int) (l : List S85) (hl : l.length ≤ 1000) (h : ∀ r ∈ l, ¬ r.f0 = x) : ∀ (d n k : Nat), n + d = l.length → d < k →
    impl_rowOf.l0 k x l (l.length : Int) (n : Int) = some (0, 0, 0) := by
  intro d
  induction d with
  | zero =>
    intro n k hd hk
    obtain ⟨k, rfl⟩ : ∃ m, k = m + 1 := ⟨k - 1, by omega⟩
    have c1 : ¬ (n : Int) < (l.length : Int) := by omega
    simp only [impl_rowOf.l0, if_neg c1]
  | succ d ih =>
    intro n k hd hk
    obtain ⟨k, rfl⟩ : ∃ m, k = m + 1 := ⟨k - 1, by omega⟩
    have c1 : (n : Int) < (l.length : Int) := by omega
    have c2 : 0 ≤ (n : Int) := by omega
    have hn : n < l.length := by omega
    have c3 : ¬ (rd_T85 l (n : Int)).f0 = x := by
      have e : rd_T85 l (n : Int) = l[n] := by unfold rd_T85; simp [List.getD, hn]
      rw [e]
      exact h _ (List.getElem_mem hn)
    simp only [impl_rowOf.l0, if_pos c1, if_pos c2, if_neg c3, w64 c2 (by omega)]
    exact ih (n + 1) k (by omega) (by omega)
theorem rowOf_at (x : Int) (k : Nat) (hk : 20 ≤ k) : ∃ y, impl_rowOf.f k x = some (y, kindOf x, sizeOf_ x) := by
  have h : ∃ y, impl_rowOf.f 20 x = some (y, kindOf x, sizeOf_ x) := by
    refine nos_cases (fun x => ∃ y, impl_rowOf.f 20 x = some (y, kindOf x, sizeOf_ x)) ⟨2, by decide +kernel⟩ ⟨3, by decide +kernel⟩ ⟨4, by decide +kernel⟩ ⟨7, by decide +kernel⟩ ⟨11, by decide +kernel⟩ ⟨14, by decide +kernel⟩ ⟨37, by decide +kernel⟩ ⟨38, by decide +kernel⟩ ⟨39, by decide +kernel⟩ ⟨41, by decide +kernel⟩ ⟨48, by decide +kernel⟩ ⟨49, by decide +kernel⟩ ⟨54, by decide +kernel⟩ ⟨95, by decide +kernel⟩ ⟨102, by decide +kernel⟩ ⟨103, by decide +kernel⟩ ?_ x
    intro x e2 e3 e4 e7 e11 e14 e37 e38 e39 e41 e48 e49 e54 e95 e102 e103
    refine ⟨0, ?_⟩
    have hk : kindOf x = 0 := by unfold kindOf; simp [*]
    have hs : sizeOf_ x = 0 := by unfold sizeOf_; simp [*]
    rw [hk, hs]
    obtain ⟨l, hl, hn⟩ : ∃ l, impl_fieldRows.f = some l ∧ l.length = 16 ∧ ∀ r ∈ l, ¬ r.f0 = x := by
      refine ⟨_, rfl, rfl, ?_⟩
      intro r hr
      simp only [List.mem_cons, List.not_mem_nil, or_false] at hr
      rcases hr with rfl | rfl | rfl | rfl | rfl | rfl | rfl | rfl | rfl | rfl | rfl | rfl | rfl | rfl | rfl | rfl <;> (intro h; first | exact e2 h.symm | exact e3 h.symm | exact e4 h.symm | exact e7 h.symm | exact e11 h.symm | exact e14 h.symm | exact e37 h.symm | exact e38 h.symm | exact e39 h.symm | exact e41 h.symm | exact e48 h.symm | exact e49 h.symm | exact e54 h.symm | exact e95 h.symm | exact e102 h.symm | exact e103 h.symm)
    unfold impl_rowOf.f
    rw [hl]
    exact rowOf_none x l (by omega) hn.2 16 0 20 (by omega) (by omega)
  obtain ⟨y, h⟩ := h
  exact ⟨y, later (g := fun k => impl_rowOf.f k x) (fun k => impl_rowOf.mono x k) h k hk⟩
end Go.Proofs.YtfiieppnpmodoaaDoor.Q
end
section
namespace Go.Proofs.YtfiieppnpmodoaaDoor.Q
open Go.RowKit Go.Proofs.YtfiieppnpmodoaaDoorW.PrintWords Go.Proofs.YtfiieppnpmodoaaDoorW.PrintLast Go.Proofs.YtfiieppnpmodoaaDoorW.PrintMore
attribute [local go_sem] max2_int min2_int max_two min_two max_three min_three max_four min_four
set_option linter.unusedVariables false
set_option linter.unusedSimpArgs false
mutual
def spec_FieldKind.j0 : Nat → Int → Bool → Option (Int)
 | 0, _, _ => none
 | k + 1, x3, x4 => if x4 = true then (some 1) else (if x3 = 37 then (spec_FieldKind.j1 k x3 (x3 == 37)) else (if x3 = 38 then (spec_FieldKind.j1 k x3 (x3 == 38)) else (if x3 = 39 then (spec_FieldKind.j1 k x3 (x3 == 39)) else (if x3 = 41 then (spec_FieldKind.j1 k x3 (x3 == 41)) else (spec_FieldKind.j1 k x3 (x3 == 95))))))
def spec_FieldKind.j1 : Nat → Int → Bool → Option (Int)
 | 0, _, _ => none
 | k + 1, x3, x11 => if x11 = true then (some 2) else (if x3 = 2 then (some 3) else (if x3 = 102 then (spec_FieldKind.j2 k x3 (x3 == 102)) else (spec_FieldKind.j2 k x3 (x3 == 103))))
def spec_FieldKind.j2 : Nat → Int → Bool → Option (Int)
 | 0, _, _ => none
 | k + 1, x3, x19 => if x19 = true then (some 4) else (if x3 = 48 then (some 5) else (if x3 = 54 then (some 5) else (some 0)))
end
def spec_FieldKind.f (k : Nat) (a0 : Int) : Option (Int) := if a0 = 3 then (spec_FieldKind.j0 k a0 (a0 == 3)) else (if a0 = 4 then (spec_FieldKind.j0 k a0 (a0 == 4)) else (if a0 = 7 then (spec_FieldKind.j0 k a0 (a0 == 7)) else (if a0 = 11 then (spec_FieldKind.j0 k a0 (a0 == 11)) else (if a0 = 14 then (spec_FieldKind.j0 k a0 (a0 == 14)) else (spec_FieldKind.j0 k a0 (a0 == 49))))))
theorem spec_FieldKind.mono_l : ∀ k, (∀ y0 y1, LeO (spec_FieldKind.j0 k y0 y1) (spec_FieldKind.j0 (k + 1) y0 y1)) ∧ (∀ y0 y1, LeO (spec_FieldKind.j1 k y0 y1) (spec_FieldKind.j1 (k + 1) y0 y1)) ∧ (∀ y0 y1, LeO (spec_FieldKind.j2 k y0 y1) (spec_FieldKind.j2 (k + 1) y0 y1))
 | 0 => ⟨fun _ _ r h => by simp [spec_FieldKind.j0] at h, fun _ _ r h => by simp [spec_FieldKind.j1] at h, fun _ _ r h => by simp [spec_FieldKind.j2] at h⟩
 | k + 1 => by
  obtain ⟨ih0, ih1, ih2⟩ := spec_FieldKind.mono_l k
  refine ⟨?_, ?_, ?_⟩
  ·intro y0 y1
   unfold spec_FieldKind.j0
   repeat' first
   | (with_reducible exact ih0 _ _)
   | (with_reducible exact ih1 _ _)
   | (with_reducible exact ih2 _ _)
   | (with_reducible exact LeO.refl _)
   | (with_reducible exact LeO.none _)
   | (with_reducible refine LeO.ite ?_ ?_)
   | (with_reducible refine LeO.bind ?_ (fun _ => ?_))
   | exact ih0 _ _
   | exact ih1 _ _
   | exact ih2 _ _
   | exact LeO.none _
   | refine LeO.ite ?_ ?_
   | refine LeO.bind ?_ (fun _ => ?_)
  ·intro y0 y1
   unfold spec_FieldKind.j1
   repeat' first
   | (with_reducible exact ih0 _ _)
   | (with_reducible exact ih1 _ _)
   | (with_reducible exact ih2 _ _)
   | (with_reducible exact LeO.refl _)
   | (with_reducible exact LeO.none _)
   | (with_reducible refine LeO.ite ?_ ?_)
   | (with_reducible refine LeO.bind ?_ (fun _ => ?_))
   | exact ih0 _ _
   | exact ih1 _ _
   | exact ih2 _ _
   | exact LeO.none _
   | refine LeO.ite ?_ ?_
   | refine LeO.bind ?_ (fun _ => ?_)
  ·intro y0 y1
   unfold spec_FieldKind.j2
   repeat' first
   | (with_reducible exact ih0 _ _)
   | (with_reducible exact ih1 _ _)
   | (with_reducible exact ih2 _ _)
   | (with_reducible exact LeO.refl _)
   | (with_reducible exact LeO.none _)
   | (with_reducible refine LeO.ite ?_ ?_)
   | (with_reducible refine LeO.bind ?_ (fun _ => ?_))
   | exact ih0 _ _
   | exact ih1 _ _
   | exact ih2 _ _
   | exact LeO.none _
   | refine LeO.ite ?_ ?_
   | refine LeO.bind ?_ (fun _ => ?_)
theorem spec_FieldKind.mono : ∀ a0 k, LeO (spec_FieldKind.f k a0) (spec_FieldKind.f (k + 1) a0) := by
 intro a0 k
 obtain ⟨ih0, ih1, ih2⟩ := spec_FieldKind.mono_l k
 unfold spec_FieldKind.f
 repeat' first
   | (with_reducible exact ih0 _ _)
   | (with_reducible exact ih1 _ _)
   | (with_reducible exact ih2 _ _)
   | (with_reducible exact LeO.refl _)
   | (with_reducible exact LeO.none _)
   | (with_reducible refine LeO.ite ?_ ?_)
   | (with_reducible refine LeO.bind ?_ (fun _ => ?_))
   | exact ih0 _ _
   | exact ih1 _ _
   | exact ih2 _ _
   | exact LeO.none _
   | refine LeO.ite ?_ ?_
   | refine LeO.bind ?_ (fun _ => ?_)
set_option maxHeartbeats 8000000 in
set_option maxRecDepth 100000 in
theorem spec_FieldKind.calls (k : Nat) (a0 : Int) (r : Int) (w : World) (h : spec_FieldKind.f k a0 = some r) :
  Calls Tryd.prog 51 #[.int .i64 a0] w fun e w' => e = .returned (.int .i64 r) ∧ Drawn0 w w' := by
 have H : (if a0 = 3 then (spec_FieldKind.j0 k a0 (a0 == 3)) else (if a0 = 4 then (spec_FieldKind.j0 k a0 (a0 == 4)) else (if a0 = 7 then (spec_FieldKind.j0 k a0 (a0 == 7)) else (if a0 = 11 then (spec_FieldKind.j0 k a0 (a0 == 11)) else (if a0 = 14 then (spec_FieldKind.j0 k a0 (a0 == 14)) else (spec_FieldKind.j0 k a0 (a0 == 49))))))) = some r := h
 clear h
 have HC2 := Aside0.mk H
 clear H
 go_enter Tryd.func51, Tryd.ntmps51
 go_upto_if 4 with (fail)
 go_cut [4] (fun v4 wc => ∃ (kq : Nat) (x4_1 : Bool), v4 = .bool x4_1 ∧ Aside0 (spec_FieldKind.j0 kq a0 x4_1 = some r) ∧ Aside0 (kq ≤ k) ∧ Drawn0 w wc)
 case first =>
  have H := HC2.out
  clear HC2
  by_cases c3 : a0 = 3
  ·rw [if_pos c3] at H
   have c3b0 : (a0 == 3) = true := beq_iff_eq.mpr c3
   have c3b1 : (a0 != 3) = false := bne_eq_false_iff_eq.mpr c3
   clear c3
   (first | rw [c3b0] | (simp only [i64_w, i32_w]; rw [c3b0]) | rw [c3b1] | (simp only [c3b1]) | skip)
   have H' := Aside0.mk H
   clear H
   go_wp2
   go_meet
   case rel => exact ⟨_, ((a0 == 3)), (by first | rfl | (simp; done) | (simp [*]; done) | (simp [i64_w, IntKind.wrap_u8, e256_]; done) | (simp; generalize ByteArray.toList _ = zz_; cases zz_ <;> rfl)), H', ⟨by first | omega | exact Nat.le_refl _⟩, by repeat (first | exact Drawn0.refl _ | apply Drawn0.step)⟩
  ·rw [if_neg c3] at H
   have c3b0 : (a0 == 3) = false := beq_eq_false_iff_ne.mpr c3
   have c3b1 : (a0 != 3) = true := bne_iff_ne.mpr c3
   (first | rw [c3b0] | (simp only [i64_w, i32_w]; rw [c3b0]) | rw [c3b1] | (simp only [c3b1]) | skip)
   by_cases c4 : a0 = 4
   ·rw [if_pos c4] at H
    have c4b0 : (a0 == 4) = true := beq_iff_eq.mpr c4
    have c4b1 : (a0 != 4) = false := bne_eq_false_iff_eq.mpr c4
    clear c4
    have H' := Aside0.mk H
    clear H
    go_wp2
    go_meet
    case rel => exact ⟨_, ((a0 == 4)), (by first | rfl | (simp; done) | (simp [*]; done) | (simp [i64_w, IntKind.wrap_u8, e256_]; done) | (simp; generalize ByteArray.toList _ = zz_; cases zz_ <;> rfl)), H', ⟨by first | omega | exact Nat.le_refl _⟩, by repeat (first | exact Drawn0.refl _ | apply Drawn0.step)⟩
   ·rw [if_neg c4] at H
    have c4b0 : (a0 == 4) = false := beq_eq_false_iff_ne.mpr c4
    have c4b1 : (a0 != 4) = true := bne_iff_ne.mpr c4
    by_cases c5 : a0 = 7
    ·rw [if_pos c5] at H
     have c5b0 : (a0 == 7) = true := beq_iff_eq.mpr c5
     have c5b1 : (a0 != 7) = false := bne_eq_false_iff_eq.mpr c5
     clear c5
     have H' := Aside0.mk H
     clear H
     go_wp2
     go_meet
     case rel => exact ⟨_, ((a0 == 7)), (by first | rfl | (simp; done) | (simp [*]; done) | (simp [i64_w, IntKind.wrap_u8, e256_]; done) | (simp; generalize ByteArray.toList _ = zz_; cases zz_ <;> rfl)), H', ⟨by first | omega | exact Nat.le_refl _⟩, by repeat (first | exact Drawn0.refl _ | apply Drawn0.step)⟩
    ·rw [if_neg c5] at H
     have c5b0 : (a0 == 7) = false := beq_eq_false_iff_ne.mpr c5
     have c5b1 : (a0 != 7) = true := bne_iff_ne.mpr c5
     by_cases c6 : a0 = 11
     ·rw [if_pos c6] at H
      have c6b0 : (a0 == 11) = true := beq_iff_eq.mpr c6
      have c6b1 : (a0 != 11) = false := bne_eq_false_iff_eq.mpr c6
      clear c6
      have H' := Aside0.mk H
      clear H
      go_wp2
      go_meet
      case rel => exact ⟨_, ((a0 == 11)), (by first | rfl | (simp; done) | (simp [*]; done) | (simp [i64_w, IntKind.wrap_u8, e256_]; done) | (simp; generalize ByteArray.toList _ = zz_; cases zz_ <;> rfl)), H', ⟨by first | omega | exact Nat.le_refl _⟩, by repeat (first | exact Drawn0.refl _ | apply Drawn0.step)⟩
     ·rw [if_neg c6] at H
      have c6b0 : (a0 == 11) = false := beq_eq_false_iff_ne.mpr c6
      have c6b1 : (a0 != 11) = true := bne_iff_ne.mpr c6
      by_cases c7 : a0 = 14
      ·rw [if_pos c7] at H
       have c7b0 : (a0 == 14) = true := beq_iff_eq.mpr c7
       have c7b1 : (a0 != 14) = false := bne_eq_false_iff_eq.mpr c7
       clear c7
       have H' := Aside0.mk H
       clear H
       go_wp2
       go_meet
       case rel => exact ⟨_, ((a0 == 14)), (by first | rfl | (simp; done) | (simp [*]; done) | (simp [i64_w, IntKind.wrap_u8, e256_]; done) | (simp; generalize ByteArray.toList _ = zz_; cases zz_ <;> rfl)), H', ⟨by first | omega | exact Nat.le_refl _⟩, by repeat (first | exact Drawn0.refl _ | apply Drawn0.step)⟩
      ·rw [if_neg c7] at H
       have c7b0 : (a0 == 14) = false := beq_eq_false_iff_ne.mpr c7
       have c7b1 : (a0 != 14) = true := bne_iff_ne.mpr c7
       have H' := Aside0.mk H
       clear H
       go_wp2
       go_meet
       case rel => exact ⟨_, ((a0 == 49)), (by first | rfl | (simp; done) | (simp [*]; done) | (simp [i64_w, IntKind.wrap_u8, e256_]; done) | (simp; generalize ByteArray.toList _ = zz_; cases zz_ <;> rfl)), H', ⟨by first | omega | exact Nat.le_refl _⟩, by repeat (first | exact Drawn0.refl _ | apply Drawn0.step)⟩
 case rest =>
  clear HC2
  try clear p2
  try clear c3
  try clear c3b0
  try clear c3b1
  try clear c4
  try clear c4b0
  try clear c4b1
  try clear c5
  try clear c5b0
  try clear c5b1
  try clear c6
  try clear c6b0
  try clear c6b1
  try clear p6
  try clear c7
  try clear c7b0
  try clear c7b1
  obtain ⟨kq, x4_1, rfl, HA, HJ1, ⟨mc1, rfl⟩⟩ := hcut
  cases kq with
  | zero => exact absurd HA.out (by simp [spec_FieldKind.j0])
  | succ kj1 =>
   have H := HA.out
   clear HA
   simp only [spec_FieldKind.j0] at H
   by_cases c8 : x4_1 = true
   ·subst c8
    have H1 : (some 1) = some r := by rw [if_pos rfl] at H; exact H
    clear H
    have H := H1
    clear H1
    obtain rfl := Option.some.inj H
    go_wp2
    go_ret
    exact ⟨by first | rfl | (simp; done) | (simp [*]; done) | (simp [i64_w, IntKind.wrap_u8, e256_]; done) | (simp; generalize ByteArray.toList _ = zz_; cases zz_ <;> rfl), by repeat (first | exact Drawn0.refl _ | apply Drawn0.step)⟩
   ·replace c8 := Bool.eq_false_iff.mpr c8
    subst c8
    have H1 : (if a0 = 37 then (spec_FieldKind.j1 kj1 a0 (a0 == 37)) else (if a0 = 38 then (spec_FieldKind.j1 kj1 a0 (a0 == 38)) else (if a0 = 39 then (spec_FieldKind.j1 kj1 a0 (a0 == 39)) else (if a0 = 41 then (spec_FieldKind.j1 kj1 a0 (a0 == 41)) else (spec_FieldKind.j1 kj1 a0 (a0 == 95)))))) = some r := by rw [if_neg (show ¬ (false = true) by decide)] at H; exact H
    clear H
    have H := H1
    clear H1
    have HC9 := Aside0.mk H
    clear H
    go_upto_if 11 with (fail)
    go_cut [11] (fun v11 wc => ∃ (kq : Nat) (x11_8 : Bool), v11 = .bool x11_8 ∧ Aside0 (spec_FieldKind.j1 kq a0 x11_8 = some r) ∧ Aside0 (kq ≤ kj1) ∧ Drawn0 w wc)
    case first =>
     have H := HC9.out
     clear HC9
     by_cases c10 : a0 = 37
     ·rw [if_pos c10] at H
      have c10b0 : (a0 == 37) = true := beq_iff_eq.mpr c10
      have c10b1 : (a0 != 37) = false := bne_eq_false_iff_eq.mpr c10
      clear c10
      (first | rw [c10b0] | (simp only [i64_w, i32_w]; rw [c10b0]) | rw [c10b1] | (simp only [c10b1]) | skip)
      have H' := Aside0.mk H
      clear H
      go_wp2
      go_meet
      case rel => exact ⟨_, ((a0 == 37)), (by first | rfl | (simp; done) | (simp [*]; done) | (simp [i64_w, IntKind.wrap_u8, e256_]; done) | (simp; generalize ByteArray.toList _ = zz_; cases zz_ <;> rfl)), H', ⟨by have := HJ1.out; first | omega | exact Nat.le_refl _⟩, by repeat (first | exact Drawn0.refl _ | apply Drawn0.step)⟩
     ·rw [if_neg c10] at H
      have c10b0 : (a0 == 37) = false := beq_eq_false_iff_ne.mpr c10
      have c10b1 : (a0 != 37) = true := bne_iff_ne.mpr c10
      (first | rw [c10b0] | (simp only [i64_w, i32_w]; rw [c10b0]) | rw [c10b1] | (simp only [c10b1]) | skip)
      by_cases c11 : a0 = 38
      ·rw [if_pos c11] at H
       have c11b0 : (a0 == 38) = true := beq_iff_eq.mpr c11
       have c11b1 : (a0 != 38) = false := bne_eq_false_iff_eq.mpr c11
       clear c11
       have H' := Aside0.mk H
       clear H
       go_wp2
       go_meet
       case rel => exact ⟨_, ((a0 == 38)), (by first | rfl | (simp; done) | (simp [*]; done) | (simp [i64_w, IntKind.wrap_u8, e256_]; done) | (simp; generalize ByteArray.toList _ = zz_; cases zz_ <;> rfl)), H', ⟨by have := HJ1.out; first | omega | exact Nat.le_refl _⟩, by repeat (first | exact Drawn0.refl _ | apply Drawn0.step)⟩
      ·rw [if_neg c11] at H
       have c11b0 : (a0 == 38) = false := beq_eq_false_iff_ne.mpr c11
       have c11b1 : (a0 != 38) = true := bne_iff_ne.mpr c11
       by_cases c12 : a0 = 39
       ·rw [if_pos c12] at H
        have c12b0 : (a0 == 39) = true := beq_iff_eq.mpr c12
        have c12b1 : (a0 != 39) = false := bne_eq_false_iff_eq.mpr c12
        clear c12
        have H' := Aside0.mk H
        clear H
        go_wp2
        go_meet
        case rel => exact ⟨_, ((a0 == 39)), (by first | rfl | (simp; done) | (simp [*]; done) | (simp [i64_w, IntKind.wrap_u8, e256_]; done) | (simp; generalize ByteArray.toList _ = zz_; cases zz_ <;> rfl)), H', ⟨by have := HJ1.out; first | omega | exact Nat.le_refl _⟩, by repeat (first | exact Drawn0.refl _ | apply Drawn0.step)⟩
       ·rw [if_neg c12] at H
        have c12b0 : (a0 == 39) = false := beq_eq_false_iff_ne.mpr c12
        have c12b1 : (a0 != 39) = true := bne_iff_ne.mpr c12
        by_cases c13 : a0 = 41
        ·rw [if_pos c13] at H
         have c13b0 : (a0 == 41) = true := beq_iff_eq.mpr c13
         have c13b1 : (a0 != 41) = false := bne_eq_false_iff_eq.mpr c13
         clear c13
         have H' := Aside0.mk H
         clear H
         go_wp2
         go_meet
         case rel => exact ⟨_, ((a0 == 41)), (by first | rfl | (simp; done) | (simp [*]; done) | (simp [i64_w, IntKind.wrap_u8, e256_]; done) | (simp; generalize ByteArray.toList _ = zz_; cases zz_ <;> rfl)), H', ⟨by have := HJ1.out; first | omega | exact Nat.le_refl _⟩, by repeat (first | exact Drawn0.refl _ | apply Drawn0.step)⟩
        ·rw [if_neg c13] at H
         have c13b0 : (a0 == 41) = false := beq_eq_false_iff_ne.mpr c13
         have c13b1 : (a0 != 41) = true := bne_iff_ne.mpr c13
         have H' := Aside0.mk H
         clear H
         go_wp2
         go_meet
         case rel => exact ⟨_, ((a0 == 95)), (by first | rfl | (simp; done) | (simp [*]; done) | (simp [i64_w, IntKind.wrap_u8, e256_]; done) | (simp; generalize ByteArray.toList _ = zz_; cases zz_ <;> rfl)), H', ⟨by have := HJ1.out; first | omega | exact Nat.le_refl _⟩, by repeat (first | exact Drawn0.refl _ | apply Drawn0.step)⟩
    case rest =>
     clear HC9
     try clear c1
     try clear p2
     try clear c3
     try clear c3b0
     try clear c3b1
     try clear c4
     try clear c4b0
     try clear c4b1
     try clear c5
     try clear c5b0
     try clear c5b1
     try clear c6
     try clear c6b0
     try clear c6b1
     try clear p6
     try clear c7
     try clear c7b0
     try clear c7b1
     try clear c8
     try clear c10
     try clear c10b0
     try clear c10b1
     try clear c11
     try clear c11b0
     try clear c11b1
     try clear c12
     try clear c12b0
     try clear c12b1
     try clear c13
     try clear c13b0
     try clear c13b1
     try clear p2
     try clear p6
     obtain ⟨kq, x11_8, rfl, HA, HJ8, ⟨mc8, rfl⟩⟩ := hcut
     cases kq with
     | zero => exact absurd HA.out (by simp [spec_FieldKind.j1])
     | succ kj8 =>
      have H := HA.out
      clear HA
      simp only [spec_FieldKind.j1] at H
      by_cases c14 : x11_8 = true
      ·subst c14
       have H1 : (some 2) = some r := by rw [if_pos rfl] at H; exact H
       clear H
       have H := H1
       clear H1
       obtain rfl := Option.some.inj H
       go_wp2
       go_ret
       exact ⟨by first | rfl | (simp; done) | (simp [*]; done) | (simp [i64_w, IntKind.wrap_u8, e256_]; done) | (simp; generalize ByteArray.toList _ = zz_; cases zz_ <;> rfl), by repeat (first | exact Drawn0.refl _ | apply Drawn0.step)⟩
      ·replace c14 := Bool.eq_false_iff.mpr c14
       subst c14
       have H1 : (if a0 = 2 then (some 3) else (if a0 = 102 then (spec_FieldKind.j2 kj8 a0 (a0 == 102)) else (spec_FieldKind.j2 kj8 a0 (a0 == 103)))) = some r := by rw [if_neg (show ¬ (false = true) by decide)] at H; exact H
       clear H
       have H := H1
       clear H1
       by_cases c15 : a0 = 2
       ·rw [if_pos c15] at H
        have c15b0 : (a0 == 2) = true := beq_iff_eq.mpr c15
        have c15b1 : (a0 != 2) = false := bne_eq_false_iff_eq.mpr c15
        clear c15
        obtain rfl := Option.some.inj H
        go_wp2
        go_ret
        exact ⟨by first | rfl | (simp; done) | (simp [*]; done) | (simp [i64_w, IntKind.wrap_u8, e256_]; done) | (simp; generalize ByteArray.toList _ = zz_; cases zz_ <;> rfl), by repeat (first | exact Drawn0.refl _ | apply Drawn0.step)⟩
       ·rw [if_neg c15] at H
        have c15b0 : (a0 == 2) = false := beq_eq_false_iff_ne.mpr c15
        have c15b1 : (a0 != 2) = true := bne_iff_ne.mpr c15
        have HC16 := Aside0.mk H
        clear H
        go_upto_if 19 with (fail)
        go_cut [19] (fun v19 wc => ∃ (kq : Nat) (x19_15 : Bool), v19 = .bool x19_15 ∧ Aside0 (spec_FieldKind.j2 kq a0 x19_15 = some r) ∧ Aside0 (kq ≤ kj8) ∧ Drawn0 w wc)
        case first =>
         have H := HC16.out
         clear HC16
         by_cases c17 : a0 = 102
         ·rw [if_pos c17] at H
          have c17b0 : (a0 == 102) = true := beq_iff_eq.mpr c17
          have c17b1 : (a0 != 102) = false := bne_eq_false_iff_eq.mpr c17
          clear c17
          (first | rw [c17b0] | (simp only [i64_w, i32_w]; rw [c17b0]) | rw [c17b1] | (simp only [c17b1]) | skip)
          have H' := Aside0.mk H
          clear H
          go_wp2
          go_meet
          case rel => exact ⟨_, ((a0 == 102)), (by first | rfl | (simp; done) | (simp [*]; done) | (simp [i64_w, IntKind.wrap_u8, e256_]; done) | (simp; generalize ByteArray.toList _ = zz_; cases zz_ <;> rfl)), H', ⟨by have := HJ1.out; have := HJ8.out; first | omega | exact Nat.le_refl _⟩, by repeat (first | exact Drawn0.refl _ | apply Drawn0.step)⟩
         ·rw [if_neg c17] at H
          have c17b0 : (a0 == 102) = false := beq_eq_false_iff_ne.mpr c17
          have c17b1 : (a0 != 102) = true := bne_iff_ne.mpr c17
          (first | rw [c17b0] | (simp only [i64_w, i32_w]; rw [c17b0]) | rw [c17b1] | (simp only [c17b1]) | skip)
          have H' := Aside0.mk H
          clear H
          go_wp2
          go_meet
          case rel => exact ⟨_, ((a0 == 103)), (by first | rfl | (simp; done) | (simp [*]; done) | (simp [i64_w, IntKind.wrap_u8, e256_]; done) | (simp; generalize ByteArray.toList _ = zz_; cases zz_ <;> rfl)), H', ⟨by have := HJ1.out; have := HJ8.out; first | omega | exact Nat.le_refl _⟩, by repeat (first | exact Drawn0.refl _ | apply Drawn0.step)⟩
        case rest =>
         clear HC16
         try clear c1
         try clear p2
         try clear c3
         try clear c3b0
         try clear c3b1
         try clear c4
         try clear c4b0
         try clear c4b1
         try clear c5
         try clear c5b0
         try clear c5b1
         try clear c6
         try clear c6b0
         try clear c6b1
         try clear p6
         try clear c7
         try clear c7b0
         try clear c7b1
         try clear c8
         try clear c10
         try clear c10b0
         try clear c10b1
         try clear c11
         try clear c11b0
         try clear c11b1
         try clear c12
         try clear c12b0
         try clear c12b1
         try clear c13
         try clear c13b0
         try clear c13b1
         try clear c14
         try clear c15
         try clear c15b0
         try clear c15b1
         try clear c17
         try clear c17b0
         try clear c17b1
         try clear p2
         try clear p6
         obtain ⟨kq, x19_15, rfl, HA, HJ15, ⟨mc15, rfl⟩⟩ := hcut
         cases kq with
         | zero => exact absurd HA.out (by simp [spec_FieldKind.j2])
         | succ kj15 =>
          have H := HA.out
          clear HA
          simp only [spec_FieldKind.j2] at H
          by_cases c18 : x19_15 = true
          ·subst c18
           have H1 : (some 4) = some r := by rw [if_pos rfl] at H; exact H
           clear H
           have H := H1
           clear H1
           obtain rfl := Option.some.inj H
           go_wp2
           go_ret
           exact ⟨by first | rfl | (simp; done) | (simp [*]; done) | (simp [i64_w, IntKind.wrap_u8, e256_]; done) | (simp; generalize ByteArray.toList _ = zz_; cases zz_ <;> rfl), by repeat (first | exact Drawn0.refl _ | apply Drawn0.step)⟩
          ·replace c18 := Bool.eq_false_iff.mpr c18
           subst c18
           have H1 : (if a0 = 48 then (some 5) else (if a0 = 54 then (some 5) else (some 0))) = some r := by rw [if_neg (show ¬ (false = true) by decide)] at H; exact H
           clear H
           have H := H1
           clear H1
           by_cases c19 : a0 = 48
           ·rw [if_pos c19] at H
            have c19b0 : (a0 == 48) = true := beq_iff_eq.mpr c19
            have c19b1 : (a0 != 48) = false := bne_eq_false_iff_eq.mpr c19
            clear c19
            obtain rfl := Option.some.inj H
            go_wp2
            go_ret
            exact ⟨by first | rfl | (simp; done) | (simp [*]; done) | (simp [i64_w, IntKind.wrap_u8, e256_]; done) | (simp; generalize ByteArray.toList _ = zz_; cases zz_ <;> rfl), by repeat (first | exact Drawn0.refl _ | apply Drawn0.step)⟩
           ·rw [if_neg c19] at H
            have c19b0 : (a0 == 48) = false := beq_eq_false_iff_ne.mpr c19
            have c19b1 : (a0 != 48) = true := bne_iff_ne.mpr c19
            by_cases c20 : a0 = 54
            ·rw [if_pos c20] at H
             have c20b0 : (a0 == 54) = true := beq_iff_eq.mpr c20
             have c20b1 : (a0 != 54) = false := bne_eq_false_iff_eq.mpr c20
             clear c20
             obtain rfl := Option.some.inj H
             go_wp2
             go_ret
             exact ⟨by first | rfl | (simp; done) | (simp [*]; done) | (simp [i64_w, IntKind.wrap_u8, e256_]; done) | (simp; generalize ByteArray.toList _ = zz_; cases zz_ <;> rfl), by repeat (first | exact Drawn0.refl _ | apply Drawn0.step)⟩
            ·rw [if_neg c20] at H
             have c20b0 : (a0 == 54) = false := beq_eq_false_iff_ne.mpr c20
             have c20b1 : (a0 != 54) = true := bne_iff_ne.mpr c20
             obtain rfl := Option.some.inj H
             go_wp2
             go_ret
             exact ⟨by first | rfl | (simp; done) | (simp [*]; done) | (simp [i64_w, IntKind.wrap_u8, e256_]; done) | (simp; generalize ByteArray.toList _ = zz_; cases zz_ <;> rfl), by repeat (first | exact Drawn0.refl _ | apply Drawn0.step)⟩
end Go.Proofs.YtfiieppnpmodoaaDoor.Q
end
section
namespace Go.Proofs.YtfiieppnpmodoaaDoor.Q
open Go.RowKit Go.Proofs.YtfiieppnpmodoaaDoorW.PrintWords Go.Proofs.YtfiieppnpmodoaaDoorW.PrintLast Go.Proofs.YtfiieppnpmodoaaDoorW.PrintMore
set_option linter.unusedVariables false
set_option linter.unusedSimpArgs false
theorem spec_FieldKind_at (x : Int) (k : Nat) (hk : 20 ≤ k) : spec_FieldKind.f k x = some (kindOf x) := by
  refine later (g := fun k => spec_FieldKind.f k x) (fun k => spec_FieldKind.mono x k) ?_ k hk
  show spec_FieldKind.f 20 x = some (kindOf x)
  refine nos_cases (fun x => spec_FieldKind.f 20 x = some (kindOf x)) (by decide +kernel) (by decide +kernel) (by decide +kernel) (by decide +kernel) (by decide +kernel) (by decide +kernel) (by decide +kernel) (by decide +kernel) (by decide +kernel) (by decide +kernel) (by decide +kernel) (by decide +kernel) (by decide +kernel) (by decide +kernel) (by decide +kernel) (by decide +kernel) ?_ x
  intro x e2 e3 e4 e7 e11 e14 e37 e38 e39 e41 e48 e49 e54 e95 e102 e103
  unfold kindOf
  simp [spec_FieldKind.f, spec_FieldKind.j0, spec_FieldKind.j1, spec_FieldKind.j2, *]
end Go.Proofs.YtfiieppnpmodoaaDoor.Q
end
section
namespace Go.Proofs.YtfiieppnpmodoaaDoor.Q
open Go.RowKit Go.Proofs.YtfiieppnpmodoaaDoorW.PrintWords Go.Proofs.YtfiieppnpmodoaaDoorW.PrintLast Go.Proofs.YtfiieppnpmodoaaDoorW.PrintMore
attribute [local go_sem] max2_int min2_int max_two min_two max_three min_three max_four min_four
set_option linter.unusedVariables false
set_option linter.unusedSimpArgs false
mutual
def spec_FieldSize.j0 : Nat → Int → Bool → Option (Int)
 | 0, _, _ => none
 | k + 1, x3, x6 => if x6 = true then (some 6) else (if x3 = 4 then (spec_FieldSize.j1 k x3 (x3 == 4)) else (if x3 = 37 then (spec_FieldSize.j1 k x3 (x3 == 37)) else (spec_FieldSize.j1 k x3 (x3 == 95))))
def spec_FieldSize.j1 : Nat → Int → Bool → Option (Int)
 | 0, _, _ => none
 | k + 1, x3, x10 => if x10 = true then (some 12) else (if x3 = 7 then (some 10) else (if x3 = 14 then (some 4) else (if x3 = 39 then (some 2) else (if x3 = 41 then (some 8) else (if x3 = 49 then (some 3) else (if x3 = 102 then (spec_FieldSize.j2 k x3 (x3 == 102)) else (spec_FieldSize.j2 k x3 (x3 == 103))))))))
def spec_FieldSize.j2 : Nat → Int → Bool → Option (Int)
 | 0, _, _ => none
 | k + 1, x3, x24 => if x24 = true then (some 20) else (if x3 = 48 then (some 60) else (if x3 = 54 then (some 60) else (some 0)))
end
def spec_FieldSize.f (k : Nat) (a0 : Int) : Option (Int) := if a0 = 2 then (some 19) else (if a0 = 3 then (spec_FieldSize.j0 k a0 (a0 == 3)) else (if a0 = 11 then (spec_FieldSize.j0 k a0 (a0 == 11)) else (spec_FieldSize.j0 k a0 (a0 == 38))))
theorem spec_FieldSize.mono_l : ∀ k, (∀ y0 y1, LeO (spec_FieldSize.j0 k y0 y1) (spec_FieldSize.j0 (k + 1) y0 y1)) ∧ (∀ y0 y1, LeO (spec_FieldSize.j1 k y0 y1) (spec_FieldSize.j1 (k + 1) y0 y1)) ∧ (∀ y0 y1, LeO (spec_FieldSize.j2 k y0 y1) (spec_FieldSize.j2 (k + 1) y0 y1))
 | 0 => ⟨fun _ _ r h => by simp [spec_FieldSize.j0] at h, fun _ _ r h => by simp [spec_FieldSize.j1] at h, fun _ _ r h => by simp [spec_FieldSize.j2] at h⟩
 | k + 1 => by
  obtain ⟨ih0, ih1, ih2⟩ := spec_FieldSize.mono_l k
  refine ⟨?_, ?_, ?_⟩
  ·intro y0 y1
   unfold spec_FieldSize.j0
   repeat' first
   | (with_reducible exact ih0 _ _)
   | (with_reducible exact ih1 _ _)
   | (with_reducible exact ih2 _ _)
   | (with_reducible exact LeO.refl _)
   | (with_reducible exact LeO.none _)
   | (with_reducible refine LeO.ite ?_ ?_)
   | (with_reducible refine LeO.bind ?_ (fun _ => ?_))
   | exact ih0 _ _
   | exact ih1 _ _
   | exact ih2 _ _
   | exact LeO.none _
   | refine LeO.ite ?_ ?_
   | refine LeO.bind ?_ (fun _ => ?_)
  ·intro y0 y1
   unfold spec_FieldSize.j1
   repeat' first
   | (with_reducible exact ih0 _ _)
   | (with_reducible exact ih1 _ _)
   | (with_reducible exact ih2 _ _)
   | (with_reducible exact LeO.refl _)
   | (with_reducible exact LeO.none _)
   | (with_reducible refine LeO.ite ?_ ?_)
   | (with_reducible refine LeO.bind ?_ (fun _ => ?_))
   | exact ih0 _ _
   | exact ih1 _ _
   | exact ih2 _ _
   | exact LeO.none _
   | refine LeO.ite ?_ ?_
   | refine LeO.bind ?_ (fun _ => ?_)
  ·intro y0 y1
   unfold spec_FieldSize.j2
   repeat' first
   | (with_reducible exact ih0 _ _)
   | (with_reducible exact ih1 _ _)
   | (with_reducible exact ih2 _ _)
   | (with_reducible exact LeO.refl _)
   | (with_reducible exact LeO.none _)
   | (with_reducible refine LeO.ite ?_ ?_)
   | (with_reducible refine LeO.bind ?_ (fun _ => ?_))
   | exact ih0 _ _
   | exact ih1 _ _
   | exact ih2 _ _
   | exact LeO.none _
   | refine LeO.ite ?_ ?_
   | refine LeO.bind ?_ (fun _ => ?_)
theorem spec_FieldSize.mono : ∀ a0 k, LeO (spec_FieldSize.f k a0) (spec_FieldSize.f (k + 1) a0) := by
 intro a0 k
 obtain ⟨ih0, ih1, ih2⟩ := spec_FieldSize.mono_l k
 unfold spec_FieldSize.f
 repeat' first
   | (with_reducible exact ih0 _ _)
   | (with_reducible exact ih1 _ _)
   | (with_reducible exact ih2 _ _)
   | (with_reducible exact LeO.refl _)
   | (with_reducible exact LeO.none _)
   | (with_reducible refine LeO.ite ?_ ?_)
   | (with_reducible refine LeO.bind ?_ (fun _ => ?_))
   | exact ih0 _ _
   | exact ih1 _ _
   | exact ih2 _ _
   | exact LeO.none _
   | refine LeO.ite ?_ ?_
   | refine LeO.bind ?_ (fun _ => ?_)
set_option maxHeartbeats 8000000 in
set_option maxRecDepth 100000 in
theorem spec_FieldSize.calls (k : Nat) (a0 : Int) (r : Int) (w : World) (h : spec_FieldSize.f k a0 = some r) :
  Calls Tryd.prog 80 #[.int .i64 a0] w fun e w' => e = .returned (.int .i64 r) ∧ Drawn0 w w' := by
 have H : (if a0 = 2 then (some 19) else (if a0 = 3 then (spec_FieldSize.j0 k a0 (a0 == 3)) else (if a0 = 11 then (spec_FieldSize.j0 k a0 (a0 == 11)) else (spec_FieldSize.j0 k a0 (a0 == 38))))) = some r := h
 clear h
 by_cases c2 : a0 = 2
 ·rw [if_pos c2] at H
  have c2b0 : (a0 == 2) = true := beq_iff_eq.mpr c2
  have c2b1 : (a0 != 2) = false := bne_eq_false_iff_eq.mpr c2
  clear c2
  obtain rfl := Option.some.inj H
  go_enter Tryd.func80, Tryd.ntmps80
  go_wp2
  go_ret
  exact ⟨by first | rfl | (simp; done) | (simp [*]; done) | (simp [i64_w, IntKind.wrap_u8, e256_]; done) | (simp; generalize ByteArray.toList _ = zz_; cases zz_ <;> rfl), by repeat (first | exact Drawn0.refl _ | apply Drawn0.step)⟩
 ·rw [if_neg c2] at H
  have c2b0 : (a0 == 2) = false := beq_eq_false_iff_ne.mpr c2
  have c2b1 : (a0 != 2) = true := bne_iff_ne.mpr c2
  have HC3 := Aside0.mk H
  clear H
  go_enter Tryd.func80, Tryd.ntmps80
  go_upto_if 6 with (fail)
  go_cut [6] (fun v6 wc => ∃ (kq : Nat) (x6_2 : Bool), v6 = .bool x6_2 ∧ Aside0 (spec_FieldSize.j0 kq a0 x6_2 = some r) ∧ Aside0 (kq ≤ k) ∧ Drawn0 w wc)
  case first =>
   have H := HC3.out
   clear HC3
   by_cases c4 : a0 = 3
   ·rw [if_pos c4] at H
    have c4b0 : (a0 == 3) = true := beq_iff_eq.mpr c4
    have c4b1 : (a0 != 3) = false := bne_eq_false_iff_eq.mpr c4
    clear c4
    (first | rw [c4b0] | (simp only [i64_w, i32_w]; rw [c4b0]) | rw [c4b1] | (simp only [c4b1]) | skip)
    have H' := Aside0.mk H
    clear H
    go_wp2
    go_meet
    case rel => exact ⟨_, ((a0 == 3)), (by first | rfl | (simp; done) | (simp [*]; done) | (simp [i64_w, IntKind.wrap_u8, e256_]; done) | (simp; generalize ByteArray.toList _ = zz_; cases zz_ <;> rfl)), H', ⟨by first | omega | exact Nat.le_refl _⟩, by repeat (first | exact Drawn0.refl _ | apply Drawn0.step)⟩
   ·rw [if_neg c4] at H
    have c4b0 : (a0 == 3) = false := beq_eq_false_iff_ne.mpr c4
    have c4b1 : (a0 != 3) = true := bne_iff_ne.mpr c4
    (first | rw [c4b0] | (simp only [i64_w, i32_w]; rw [c4b0]) | rw [c4b1] | (simp only [c4b1]) | skip)
    by_cases c5 : a0 = 11
    ·rw [if_pos c5] at H
     have c5b0 : (a0 == 11) = true := beq_iff_eq.mpr c5
     have c5b1 : (a0 != 11) = false := bne_eq_false_iff_eq.mpr c5
     clear c5
     have H' := Aside0.mk H
     clear H
     go_wp2
     go_meet
     case rel => exact ⟨_, ((a0 == 11)), (by first | rfl | (simp; done) | (simp [*]; done) | (simp [i64_w, IntKind.wrap_u8, e256_]; done) | (simp; generalize ByteArray.toList _ = zz_; cases zz_ <;> rfl)), H', ⟨by first | omega | exact Nat.le_refl _⟩, by repeat (first | exact Drawn0.refl _ | apply Drawn0.step)⟩
    ·rw [if_neg c5] at H
     have c5b0 : (a0 == 11) = false := beq_eq_false_iff_ne.mpr c5
     have c5b1 : (a0 != 11) = true := bne_iff_ne.mpr c5
     have H' := Aside0.mk H
     clear H
     go_wp2
     go_meet
     case rel => exact ⟨_, ((a0 == 38)), (by first | rfl | (simp; done) | (simp [*]; done) | (simp [i64_w, IntKind.wrap_u8, e256_]; done) | (simp; generalize ByteArray.toList _ = zz_; cases zz_ <;> rfl)), H', ⟨by first | omega | exact Nat.le_refl _⟩, by repeat (first | exact Drawn0.refl _ | apply Drawn0.step)⟩
  case rest =>
   clear HC3
   try clear c2
   try clear c2b0
   try clear c2b1
   try clear p2
   try clear c4
   try clear c4b0
   try clear c4b1
   try clear c5
   try clear c5b0
   try clear c5b1
   obtain ⟨kq, x6_2, rfl, HA, HJ2, ⟨mc2, rfl⟩⟩ := hcut
   cases kq with
   | zero => exact absurd HA.out (by simp [spec_FieldSize.j0])
   | succ kj2 =>
    have H := HA.out
    clear HA
    simp only [spec_FieldSize.j0] at H
    by_cases c6 : x6_2 = true
    ·subst c6
     have H1 : (some 6) = some r := by rw [if_pos rfl] at H; exact H
     clear H
     have H := H1
     clear H1
     obtain rfl := Option.some.inj H
     go_wp2
     go_ret
     exact ⟨by first | rfl | (simp; done) | (simp [*]; done) | (simp [i64_w, IntKind.wrap_u8, e256_]; done) | (simp; generalize ByteArray.toList _ = zz_; cases zz_ <;> rfl), by repeat (first | exact Drawn0.refl _ | apply Drawn0.step)⟩
    ·replace c6 := Bool.eq_false_iff.mpr c6
     subst c6
     have H1 : (if a0 = 4 then (spec_FieldSize.j1 kj2 a0 (a0 == 4)) else (if a0 = 37 then (spec_FieldSize.j1 kj2 a0 (a0 == 37)) else (spec_FieldSize.j1 kj2 a0 (a0 == 95)))) = some r := by rw [if_neg (show ¬ (false = true) by decide)] at H; exact H
     clear H
     have H := H1
     clear H1
     have HC7 := Aside0.mk H
     clear H
     go_upto_if 10 with (fail)
     go_cut [10] (fun v10 wc => ∃ (kq : Nat) (x10_6 : Bool), v10 = .bool x10_6 ∧ Aside0 (spec_FieldSize.j1 kq a0 x10_6 = some r) ∧ Aside0 (kq ≤ kj2) ∧ Drawn0 w wc)
     case first =>
      have H := HC7.out
      clear HC7
      by_cases c8 : a0 = 4
      ·rw [if_pos c8] at H
       have c8b0 : (a0 == 4) = true := beq_iff_eq.mpr c8
       have c8b1 : (a0 != 4) = false := bne_eq_false_iff_eq.mpr c8
       clear c8
       (first | rw [c8b0] | (simp only [i64_w, i32_w]; rw [c8b0]) | rw [c8b1] | (simp only [c8b1]) | skip)
       have H' := Aside0.mk H
       clear H
       go_wp2
       go_meet
       case rel => exact ⟨_, ((a0 == 4)), (by first | rfl | (simp; done) | (simp [*]; done) | (simp [i64_w, IntKind.wrap_u8, e256_]; done) | (simp; generalize ByteArray.toList _ = zz_; cases zz_ <;> rfl)), H', ⟨by have := HJ2.out; first | omega | exact Nat.le_refl _⟩, by repeat (first | exact Drawn0.refl _ | apply Drawn0.step)⟩
      ·rw [if_neg c8] at H
       have c8b0 : (a0 == 4) = false := beq_eq_false_iff_ne.mpr c8
       have c8b1 : (a0 != 4) = true := bne_iff_ne.mpr c8
       (first | rw [c8b0] | (simp only [i64_w, i32_w]; rw [c8b0]) | rw [c8b1] | (simp only [c8b1]) | skip)
       by_cases c9 : a0 = 37
       ·rw [if_pos c9] at H
        have c9b0 : (a0 == 37) = true := beq_iff_eq.mpr c9
        have c9b1 : (a0 != 37) = false := bne_eq_false_iff_eq.mpr c9
        clear c9
        have H' := Aside0.mk H
        clear H
        go_wp2
        go_meet
        case rel => exact ⟨_, ((a0 == 37)), (by first | rfl | (simp; done) | (simp [*]; done) | (simp [i64_w, IntKind.wrap_u8, e256_]; done) | (simp; generalize ByteArray.toList _ = zz_; cases zz_ <;> rfl)), H', ⟨by have := HJ2.out; first | omega | exact Nat.le_refl _⟩, by repeat (first | exact Drawn0.refl _ | apply Drawn0.step)⟩
       ·rw [if_neg c9] at H
        have c9b0 : (a0 == 37) = false := beq_eq_false_iff_ne.mpr c9
        have c9b1 : (a0 != 37) = true := bne_iff_ne.mpr c9
        have H' := Aside0.mk H
        clear H
        go_wp2
        go_meet
        case rel => exact ⟨_, ((a0 == 95)), (by first | rfl | (simp; done) | (simp [*]; done) | (simp [i64_w, IntKind.wrap_u8, e256_]; done) | (simp; generalize ByteArray.toList _ = zz_; cases zz_ <;> rfl)), H', ⟨by have := HJ2.out; first | omega | exact Nat.le_refl _⟩, by repeat (first | exact Drawn0.refl _ | apply Drawn0.step)⟩
     case rest =>
      clear HC7
      try clear c2
      try clear c2b0
      try clear c2b1
      try clear p2
      try clear c4
      try clear c4b0
      try clear c4b1
      try clear c5
      try clear c5b0
      try clear c5b1
      try clear c6
      try clear p6
      try clear c8
      try clear c8b0
      try clear c8b1
      try clear c9
      try clear c9b0
      try clear c9b1
      try clear p2
      obtain ⟨kq, x10_6, rfl, HA, HJ6, ⟨mc6, rfl⟩⟩ := hcut
      cases kq with
      | zero => exact absurd HA.out (by simp [spec_FieldSize.j1])
      | succ kj6 =>
       have H := HA.out
       clear HA
       simp only [spec_FieldSize.j1] at H
       by_cases c10 : x10_6 = true
       ·subst c10
        have H1 : (some 12) = some r := by rw [if_pos rfl] at H; exact H
        clear H
        have H := H1
        clear H1
        obtain rfl := Option.some.inj H
        go_wp2
        go_ret
        exact ⟨by first | rfl | (simp; done) | (simp [*]; done) | (simp [i64_w, IntKind.wrap_u8, e256_]; done) | (simp; generalize ByteArray.toList _ = zz_; cases zz_ <;> rfl), by repeat (first | exact Drawn0.refl _ | apply Drawn0.step)⟩
       ·replace c10 := Bool.eq_false_iff.mpr c10
        subst c10
        have H1 : (if a0 = 7 then (some 10) else (if a0 = 14 then (some 4) else (if a0 = 39 then (some 2) else (if a0 = 41 then (some 8) else (if a0 = 49 then (some 3) else (if a0 = 102 then (spec_FieldSize.j2 kj6 a0 (a0 == 102)) else (spec_FieldSize.j2 kj6 a0 (a0 == 103)))))))) = some r := by rw [if_neg (show ¬ (false = true) by decide)] at H; exact H
        clear H
        have H := H1
        clear H1
        by_cases c11 : a0 = 7
        ·rw [if_pos c11] at H
         have c11b0 : (a0 == 7) = true := beq_iff_eq.mpr c11
         have c11b1 : (a0 != 7) = false := bne_eq_false_iff_eq.mpr c11
         clear c11
         obtain rfl := Option.some.inj H
         go_wp2
         go_ret
         exact ⟨by first | rfl | (simp; done) | (simp [*]; done) | (simp [i64_w, IntKind.wrap_u8, e256_]; done) | (simp; generalize ByteArray.toList _ = zz_; cases zz_ <;> rfl), by repeat (first | exact Drawn0.refl _ | apply Drawn0.step)⟩
        ·rw [if_neg c11] at H
         have c11b0 : (a0 == 7) = false := beq_eq_false_iff_ne.mpr c11
         have c11b1 : (a0 != 7) = true := bne_iff_ne.mpr c11
         by_cases c12 : a0 = 14
         ·rw [if_pos c12] at H
          have c12b0 : (a0 == 14) = true := beq_iff_eq.mpr c12
          have c12b1 : (a0 != 14) = false := bne_eq_false_iff_eq.mpr c12
          clear c12
          obtain rfl := Option.some.inj H
          go_wp2
          go_ret
          exact ⟨by first | rfl | (simp; done) | (simp [*]; done) | (simp [i64_w, IntKind.wrap_u8, e256_]; done) | (simp; generalize ByteArray.toList _ = zz_; cases zz_ <;> rfl), by repeat (first | exact Drawn0.refl _ | apply Drawn0.step)⟩
         ·rw [if_neg c12] at H
          have c12b0 : (a0 == 14) = false := beq_eq_false_iff_ne.mpr c12
          have c12b1 : (a0 != 14) = true := bne_iff_ne.mpr c12
          by_cases c13 : a0 = 39
          ·rw [if_pos c13] at H
           have c13b0 : (a0 == 39) = true := beq_iff_eq.mpr c13
           have c13b1 : (a0 != 39) = false := bne_eq_false_iff_eq.mpr c13
           clear c13
           obtain rfl := Option.some.inj H
           go_wp2
           go_ret
           exact ⟨by first | rfl | (simp; done) | (simp [*]; done) | (simp [i64_w, IntKind.wrap_u8, e256_]; done) | (simp; generalize ByteArray.toList _ = zz_; cases zz_ <;> rfl), by repeat (first | exact Drawn0.refl _ | apply Drawn0.step)⟩
          ·rw [if_neg c13] at H
           have c13b0 : (a0 == 39) = false := beq_eq_false_iff_ne.mpr c13
           have c13b1 : (a0 != 39) = true := bne_iff_ne.mpr c13
           by_cases c14 : a0 = 41
           ·rw [if_pos c14] at H
            have c14b0 : (a0 == 41) = true := beq_iff_eq.mpr c14
            have c14b1 : (a0 != 41) = false := bne_eq_false_iff_eq.mpr c14
            clear c14
            obtain rfl := Option.some.inj H
            go_wp2
            go_ret
            exact ⟨by first | rfl | (simp; done) | (simp [*]; done) | (simp [i64_w, IntKind.wrap_u8, e256_]; done) | (simp; generalize ByteArray.toList _ = zz_; cases zz_ <;> rfl), by repeat (first | exact Drawn0.refl _ | apply Drawn0.step)⟩
           ·rw [if_neg c14] at H
            have c14b0 : (a0 == 41) = false := beq_eq_false_iff_ne.mpr c14
            have c14b1 : (a0 != 41) = true := bne_iff_ne.mpr c14
            by_cases c15 : a0 = 49
            ·rw [if_pos c15] at H
             have c15b0 : (a0 == 49) = true := beq_iff_eq.mpr c15
             have c15b1 : (a0 != 49) = false := bne_eq_false_iff_eq.mpr c15
             clear c15
             obtain rfl := Option.some.inj H
             go_wp2
             go_ret
             exact ⟨by first | rfl | (simp; done) | (simp [*]; done) | (simp [i64_w, IntKind.wrap_u8, e256_]; done) | (simp; generalize ByteArray.toList _ = zz_; cases zz_ <;> rfl), by repeat (first | exact Drawn0.refl _ | apply Drawn0.step)⟩
            ·rw [if_neg c15] at H
             have c15b0 : (a0 == 49) = false := beq_eq_false_iff_ne.mpr c15
             have c15b1 : (a0 != 49) = true := bne_iff_ne.mpr c15
             have HC16 := Aside0.mk H
             clear H
             go_upto_if 24 with (fail)
             go_cut [24] (fun v24 wc => ∃ (kq : Nat) (x24_15 : Bool), v24 = .bool x24_15 ∧ Aside0 (spec_FieldSize.j2 kq a0 x24_15 = some r) ∧ Aside0 (kq ≤ kj6) ∧ Drawn0 w wc)
             case first =>
              have H := HC16.out
              clear HC16
              by_cases c17 : a0 = 102
              ·rw [if_pos c17] at H
               have c17b0 : (a0 == 102) = true := beq_iff_eq.mpr c17
               have c17b1 : (a0 != 102) = false := bne_eq_false_iff_eq.mpr c17
               clear c17
               (first | rw [c17b0] | (simp only [i64_w, i32_w]; rw [c17b0]) | rw [c17b1] | (simp only [c17b1]) | skip)
               have H' := Aside0.mk H
               clear H
               go_wp2
               go_meet
               case rel => exact ⟨_, ((a0 == 102)), (by first | rfl | (simp; done) | (simp [*]; done) | (simp [i64_w, IntKind.wrap_u8, e256_]; done) | (simp; generalize ByteArray.toList _ = zz_; cases zz_ <;> rfl)), H', ⟨by have := HJ2.out; have := HJ6.out; first | omega | exact Nat.le_refl _⟩, by repeat (first | exact Drawn0.refl _ | apply Drawn0.step)⟩
              ·rw [if_neg c17] at H
               have c17b0 : (a0 == 102) = false := beq_eq_false_iff_ne.mpr c17
               have c17b1 : (a0 != 102) = true := bne_iff_ne.mpr c17
               (first | rw [c17b0] | (simp only [i64_w, i32_w]; rw [c17b0]) | rw [c17b1] | (simp only [c17b1]) | skip)
               have H' := Aside0.mk H
               clear H
               go_wp2
               go_meet
               case rel => exact ⟨_, ((a0 == 103)), (by first | rfl | (simp; done) | (simp [*]; done) | (simp [i64_w, IntKind.wrap_u8, e256_]; done) | (simp; generalize ByteArray.toList _ = zz_; cases zz_ <;> rfl)), H', ⟨by have := HJ2.out; have := HJ6.out; first | omega | exact Nat.le_refl _⟩, by repeat (first | exact Drawn0.refl _ | apply Drawn0.step)⟩
             case rest =>
              clear HC16
              try clear c1
              try clear c2
              try clear c2b0
              try clear c2b1
              try clear p2
              try clear c4
              try clear c4b0
              try clear c4b1
              try clear c5
              try clear c5b0
              try clear c5b1
              try clear c6
              try clear p6
              try clear c8
              try clear c8b0
              try clear c8b1
              try clear c9
              try clear c9b0
              try clear c9b1
              try clear c10
              try clear c11
              try clear c11b0
              try clear c11b1
              try clear c12
              try clear c12b0
              try clear c12b1
              try clear c13
              try clear c13b0
              try clear c13b1
              try clear c14
              try clear c14b0
              try clear c14b1
              try clear c15
              try clear c15b0
              try clear c15b1
              try clear c17
              try clear c17b0
              try clear c17b1
              try clear p2
              try clear p6
              obtain ⟨kq, x24_15, rfl, HA, HJ15, ⟨mc15, rfl⟩⟩ := hcut
              cases kq with
              | zero => exact absurd HA.out (by simp [spec_FieldSize.j2])
              | succ kj15 =>
               have H := HA.out
               clear HA
               simp only [spec_FieldSize.j2] at H
               by_cases c18 : x24_15 = true
               ·subst c18
                have H1 : (some 20) = some r := by rw [if_pos rfl] at H; exact H
                clear H
                have H := H1
                clear H1
                obtain rfl := Option.some.inj H
                go_wp2
                go_ret
                exact ⟨by first | rfl | (simp; done) | (simp [*]; done) | (simp [i64_w, IntKind.wrap_u8, e256_]; done) | (simp; generalize ByteArray.toList _ = zz_; cases zz_ <;> rfl), by repeat (first | exact Drawn0.refl _ | apply Drawn0.step)⟩
               ·replace c18 := Bool.eq_false_iff.mpr c18
                subst c18
                have H1 : (if a0 = 48 then (some 60) else (if a0 = 54 then (some 60) else (some 0))) = some r := by rw [if_neg (show ¬ (false = true) by decide)] at H; exact H
                clear H
                have H := H1
                clear H1
                by_cases c19 : a0 = 48
                ·rw [if_pos c19] at H
                 have c19b0 : (a0 == 48) = true := beq_iff_eq.mpr c19
                 have c19b1 : (a0 != 48) = false := bne_eq_false_iff_eq.mpr c19
                 clear c19
                 obtain rfl := Option.some.inj H
                 go_wp2
                 go_ret
                 exact ⟨by first | rfl | (simp; done) | (simp [*]; done) | (simp [i64_w, IntKind.wrap_u8, e256_]; done) | (simp; generalize ByteArray.toList _ = zz_; cases zz_ <;> rfl), by repeat (first | exact Drawn0.refl _ | apply Drawn0.step)⟩
                ·rw [if_neg c19] at H
                 have c19b0 : (a0 == 48) = false := beq_eq_false_iff_ne.mpr c19
                 have c19b1 : (a0 != 48) = true := bne_iff_ne.mpr c19
                 by_cases c20 : a0 = 54
                 ·rw [if_pos c20] at H
                  have c20b0 : (a0 == 54) = true := beq_iff_eq.mpr c20
                  have c20b1 : (a0 != 54) = false := bne_eq_false_iff_eq.mpr c20
                  clear c20
                  obtain rfl := Option.some.inj H
                  go_wp2
                  go_ret
                  exact ⟨by first | rfl | (simp; done) | (simp [*]; done) | (simp [i64_w, IntKind.wrap_u8, e256_]; done) | (simp; generalize ByteArray.toList _ = zz_; cases zz_ <;> rfl), by repeat (first | exact Drawn0.refl _ | apply Drawn0.step)⟩
                 ·rw [if_neg c20] at H
                  have c20b0 : (a0 == 54) = false := beq_eq_false_iff_ne.mpr c20
                  have c20b1 : (a0 != 54) = true := bne_iff_ne.mpr c20
                  obtain rfl := Option.some.inj H
                  go_wp2
                  go_ret
                  exact ⟨by first | rfl | (simp; done) | (simp [*]; done) | (simp [i64_w, IntKind.wrap_u8, e256_]; done) | (simp; generalize ByteArray.toList _ = zz_; cases zz_ <;> rfl), by repeat (first | exact Drawn0.refl _ | apply Drawn0.step)⟩
end Go.Proofs.YtfiieppnpmodoaaDoor.Q
end
section
namespace Go.Proofs.YtfiieppnpmodoaaDoor.Q
open Go.RowKit Go.Proofs.YtfiieppnpmodoaaDoorW.PrintWords Go.Proofs.YtfiieppnpmodoaaDoorW.PrintLast Go.Proofs.YtfiieppnpmodoaaDoorW.PrintMore
set_option linter.unusedVariables false
set_option linter.unusedSimpArgs false
theorem spec_FieldSize_at (x : Int) (k : Nat) (hk : 20 ≤ k) : spec_FieldSize.f k x = some (sizeOf_ x) := by
  refine later (g := fun k => spec_FieldSize.f k x) (fun k => spec_FieldSize.mono x k) ?_ k hk
  show spec_FieldSize.f 20 x = some (sizeOf_ x)
  refine nos_cases (fun x => spec_FieldSize.f 20 x = some (sizeOf_ x)) (by decide +kernel) (by decide +kernel) (by decide +kernel) (by decide +kernel) (by decide +kernel) (by decide +kernel) (by decide +kernel) (by decide +kernel) (by decide +kernel) (by decide +kernel) (by decide +kernel) (by decide +kernel) (by decide +kernel) (by decide +kernel) (by decide +kernel) (by decide +kernel) ?_ x
  intro x e2 e3 e4 e7 e11 e14 e37 e38 e39 e41 e48 e49 e54 e95 e102 e103
  unfold sizeOf_
  simp [spec_FieldSize.f, spec_FieldSize.j0, spec_FieldSize.j1, spec_FieldSize.j2, *]
end Go.Proofs.YtfiieppnpmodoaaDoor.Q
end
section
namespace Go.Proofs.YtfiieppnpmodoaaDoor.Q
open Go.RowKit Go.Proofs.YtfiieppnpmodoaaDoorW.PrintWords Go.Proofs.YtfiieppnpmodoaaDoorW.PrintLast Go.Proofs.YtfiieppnpmodoaaDoorW.PrintMore
attribute [local go_sem] max2_int min2_int max_two min_two max_three min_three max_four min_four
set_option linter.unusedVariables false
set_option linter.unusedSimpArgs false
def impl_Printable.l0 : Nat → ByteArray → Int → Int → Option (Bool)
 | 0, _, _, _ => none
 | k + 1, x0, x5, x6 => if x6 < x5 then (if 0 ≤ x6 then (if x6 < (x0.size : Int) then (if (bt x0 x6) < 32 then (some false) else (if (bt x0 x6) > 126 then (some false) else (impl_Printable.l0 k x0 x5 (wrap64 (x6 + 1))))) else (none)) else (none)) else (some true)
def impl_Printable.f (k : Nat) (a0 : ByteArray) : Option (Bool) := impl_Printable.l0 k a0 (a0.size : Int) 0
set_option maxHeartbeats 8000000 in
set_option maxRecDepth 100000 in
theorem impl_Printable.calls (k : Nat) (a0 : ByteArray) (r : Bool) (w : World) (h : impl_Printable.f k a0 = some r) :
  Calls Tryd.prog 67 #[.string a0] w fun e w' => e = .returned (.bool r) ∧ Drawn0 w w' := by
 have H : (impl_Printable.l0 k a0 (a0.size : Int) 0) = some r := h
 clear h
 have H' := Aside0.mk H
 clear H
 go_enter Tryd.func67, Tryd.ntmps67
 go_wp2
 go_loopg [6] k (fun kq v6 w' => ∃ (x6_1 : Int), v6 = .int .i64 x6_1 ∧ Aside0 (impl_Printable.l0 kq a0 (a0.size : Int) x6_1 = some r) ∧ Aside0 (kq ≤ k) ∧ Drawn0 w w')
 case atStart => exact ⟨(0), (by first | rfl | (simp; done) | (simp [*]; done) | (simp [i64_w, IntKind.wrap_u8, e256_]; done) | (simp; generalize ByteArray.toList _ = zz_; cases zz_ <;> rfl)), H', ⟨Nat.le_refl _⟩, by repeat (first | exact Drawn0.refl _ | apply Drawn0.step)⟩
 case round =>
  clear H'
  obtain ⟨x6_1, rfl, HA, HK1, ⟨m1, rfl⟩⟩ := hrel
  cases gk with
  | zero => exact absurd HA.out (by simp [impl_Printable.l0])
  | succ k1 =>
   have H := HA.out
   clear HA
   simp only [impl_Printable.l0] at H
   by_cases c2 : x6_1 < (a0.size : Int)
   ·rw [if_pos c2] at H
    have c2b0 : decide (x6_1 < (a0.size : Int)) = true := decide_eq_true c2
    clear c2
    by_cases c3 : 0 ≤ x6_1
    ·rw [if_pos c3] at H
     have c3b0 : decide (0 ≤ x6_1) = true := decide_eq_true c3
     clear c3
     by_cases c4 : x6_1 < (a0.size : Int)
     ·rw [if_pos c4] at H
      have c4b0 : decide (x6_1 < (a0.size : Int)) = true := decide_eq_true c4
      clear c4
      by_cases c6 : (bt a0 x6_1) < 32
      ·rw [if_pos c6] at H
       have c6b0 : decide ((bt a0 x6_1) < 32) = true := decide_eq_true c6
       clear c6
       obtain rfl := Option.some.inj H
       have p5 : 0 ≤ (x6_1 : Int) := of_decide_eq_true (by first | (with_reducible assumption) | assumption)
       have q5 : x6_1 < (a0.size : Int) := of_decide_eq_true (by first | (with_reducible assumption) | assumption)
       have hx5 := bt_at a0 x6_1
       replace p5 := eq_true p5
       replace q5 := eq_true q5
       go_wp2
       go_ret
       exact ⟨by first | rfl | (simp; done) | (simp [*]; done) | (simp [i64_w, IntKind.wrap_u8, e256_]; done) | (simp; generalize ByteArray.toList _ = zz_; cases zz_ <;> rfl), by repeat (first | exact Drawn0.refl _ | apply Drawn0.step)⟩
      ·rw [if_neg c6] at H
       have c6b0 : decide ((bt a0 x6_1) < 32) = false := decide_eq_false c6
       clear c6
       by_cases c8 : (bt a0 x6_1) > 126
       ·rw [if_pos c8] at H
        have c8b0 : decide (126 < (bt a0 x6_1)) = true := decide_eq_true c8
        clear c8
        obtain rfl := Option.some.inj H
        have p5 : 0 ≤ (x6_1 : Int) := of_decide_eq_true (by first | (with_reducible assumption) | assumption)
        have q5 : x6_1 < (a0.size : Int) := of_decide_eq_true (by first | (with_reducible assumption) | assumption)
        have hx5 := bt_at a0 x6_1
        replace p5 := eq_true p5
        replace q5 := eq_true q5
        have p7 : 0 ≤ (x6_1 : Int) := of_decide_eq_true (by first | (with_reducible assumption) | assumption)
        have q7 : x6_1 < (a0.size : Int) := of_decide_eq_true (by first | (with_reducible assumption) | assumption)
        have hx7 := bt_at a0 x6_1
        replace p7 := eq_true p7
        replace q7 := eq_true q7
        go_wp2
        go_ret
        exact ⟨by first | rfl | (simp; done) | (simp [*]; done) | (simp [i64_w, IntKind.wrap_u8, e256_]; done) | (simp; generalize ByteArray.toList _ = zz_; cases zz_ <;> rfl), by repeat (first | exact Drawn0.refl _ | apply Drawn0.step)⟩
       ·rw [if_neg c8] at H
        have c8b0 : decide (126 < (bt a0 x6_1)) = false := decide_eq_false c8
        clear c8
        have H' := Aside0.mk H
        clear H
        have p5 : 0 ≤ (x6_1 : Int) := of_decide_eq_true (by first | (with_reducible assumption) | assumption)
        have q5 : x6_1 < (a0.size : Int) := of_decide_eq_true (by first | (with_reducible assumption) | assumption)
        have hx5 := bt_at a0 x6_1
        replace p5 := eq_true p5
        replace q5 := eq_true q5
        have p7 : 0 ≤ (x6_1 : Int) := of_decide_eq_true (by first | (with_reducible assumption) | assumption)
        have q7 : x6_1 < (a0.size : Int) := of_decide_eq_true (by first | (with_reducible assumption) | assumption)
        have hx7 := bt_at a0 x6_1
        replace p7 := eq_true p7
        replace q7 := eq_true q7
        go_wp2
        go_roundg k1
        case measure => have := HK1.out; omega
        case rel => exact ⟨(wrap64 (x6_1 + 1)), (by first | rfl | (simp; done) | (simp [*]; done) | (simp [i64_w, IntKind.wrap_u8, e256_]; done) | (simp; generalize ByteArray.toList _ = zz_; cases zz_ <;> rfl)), H', ⟨by have := HK1.out; omega⟩, by repeat (first | exact Drawn0.refl _ | apply Drawn0.step)⟩
     ·rw [if_neg c4] at H
      exact absurd H (by simp)
    ·rw [if_neg c3] at H
     exact absurd H (by simp)
   ·rw [if_neg c2] at H
    have c2b0 : decide (x6_1 < (a0.size : Int)) = false := decide_eq_false c2
    clear c2
    obtain rfl := Option.some.inj H
    go_wp2
    go_ret
    exact ⟨by first | rfl | (simp; done) | (simp [*]; done) | (simp [i64_w, IntKind.wrap_u8, e256_]; done) | (simp; generalize ByteArray.toList _ = zz_; cases zz_ <;> rfl), by repeat (first | exact Drawn0.refl _ | apply Drawn0.step)⟩
attribute [local go_sem] max2_int min2_int max_two min_two max_three min_three max_four min_four
set_option linter.unusedVariables false
set_option linter.unusedSimpArgs false
def spec_Printable.l0 : Nat → ByteArray → Int → Option (Bool)
 | 0, _, _ => none
 | k + 1, x0, x3 => if x3 < (x0.size : Int) then (if 0 ≤ x3 then (if (bt x0 x3) < 32 then (some false) else (if (bt x0 x3) > 126 then (some false) else (spec_Printable.l0 k x0 (wrap64 (x3 + 1))))) else (none)) else (some true)
def spec_Printable.f (k : Nat) (a0 : ByteArray) : Option (Bool) := spec_Printable.l0 k a0 0
set_option maxHeartbeats 8000000 in
set_option maxRecDepth 100000 in
theorem spec_Printable.calls (k : Nat) (a0 : ByteArray) (r : Bool) (w : World) (h : spec_Printable.f k a0 = some r) :
  Calls Tryd.prog 82 #[.string a0] w fun e w' => e = .returned (.bool r) ∧ Drawn0 w w' := by
 have H : (spec_Printable.l0 k a0 0) = some r := h
 clear h
 have H' := Aside0.mk H
 clear H
 go_enter Tryd.func82, Tryd.ntmps82
 go_wp2
 go_loopg [3] k (fun kq v3 w' => ∃ (x3_1 : Int), v3 = .int .i64 x3_1 ∧ Aside0 (spec_Printable.l0 kq a0 x3_1 = some r) ∧ Aside0 (kq ≤ k) ∧ Drawn0 w w')
 case atStart => exact ⟨(0), (by first | rfl | (simp; done) | (simp [*]; done) | (simp [i64_w, IntKind.wrap_u8, e256_]; done) | (simp; generalize ByteArray.toList _ = zz_; cases zz_ <;> rfl)), H', ⟨Nat.le_refl _⟩, by repeat (first | exact Drawn0.refl _ | apply Drawn0.step)⟩
 case round =>
  clear H'
  obtain ⟨x3_1, rfl, HA, HK1, ⟨m1, rfl⟩⟩ := hrel
  cases gk with
  | zero => exact absurd HA.out (by simp [spec_Printable.l0])
  | succ k1 =>
   have H := HA.out
   clear HA
   simp only [spec_Printable.l0] at H
   by_cases c2 : x3_1 < (a0.size : Int)
   ·rw [if_pos c2] at H
    have c2b0 : decide (x3_1 < (a0.size : Int)) = true := decide_eq_true c2
    clear c2
    by_cases c3 : 0 ≤ x3_1
    ·rw [if_pos c3] at H
     have c3b0 : decide (0 ≤ x3_1) = true := decide_eq_true c3
     clear c3
     by_cases c5 : (bt a0 x3_1) < 32
     ·rw [if_pos c5] at H
      have c5b0 : decide ((bt a0 x3_1) < 32) = true := decide_eq_true c5
      clear c5
      obtain rfl := Option.some.inj H
      have p4 : 0 ≤ (x3_1 : Int) := of_decide_eq_true (by first | (with_reducible assumption) | assumption)
      have q4 : x3_1 < (a0.size : Int) := of_decide_eq_true (by first | (with_reducible assumption) | assumption)
      have hx4 := bt_at a0 x3_1
      replace p4 := eq_true p4
      replace q4 := eq_true q4
      go_wp2
      go_ret
      exact ⟨by first | rfl | (simp; done) | (simp [*]; done) | (simp [i64_w, IntKind.wrap_u8, e256_]; done) | (simp; generalize ByteArray.toList _ = zz_; cases zz_ <;> rfl), by repeat (first | exact Drawn0.refl _ | apply Drawn0.step)⟩
     ·rw [if_neg c5] at H
      have c5b0 : decide ((bt a0 x3_1) < 32) = false := decide_eq_false c5
      clear c5
      by_cases c7 : (bt a0 x3_1) > 126
      ·rw [if_pos c7] at H
       have c7b0 : decide (126 < (bt a0 x3_1)) = true := decide_eq_true c7
       clear c7
       obtain rfl := Option.some.inj H
       have p4 : 0 ≤ (x3_1 : Int) := of_decide_eq_true (by first | (with_reducible assumption) | assumption)
       have q4 : x3_1 < (a0.size : Int) := of_decide_eq_true (by first | (with_reducible assumption) | assumption)
       have hx4 := bt_at a0 x3_1
       replace p4 := eq_true p4
       replace q4 := eq_true q4
       have p6 : 0 ≤ (x3_1 : Int) := of_decide_eq_true (by first | (with_reducible assumption) | assumption)
       have q6 : x3_1 < (a0.size : Int) := of_decide_eq_true (by first | (with_reducible assumption) | assumption)
       have hx6 := bt_at a0 x3_1
       replace p6 := eq_true p6
       replace q6 := eq_true q6
       go_wp2
       go_ret
       exact ⟨by first | rfl | (simp; done) | (simp [*]; done) | (simp [i64_w, IntKind.wrap_u8, e256_]; done) | (simp; generalize ByteArray.toList _ = zz_; cases zz_ <;> rfl), by repeat (first | exact Drawn0.refl _ | apply Drawn0.step)⟩
      ·rw [if_neg c7] at H
       have c7b0 : decide (126 < (bt a0 x3_1)) = false := decide_eq_false c7
       clear c7
       have H' := Aside0.mk H
       clear H
       have p4 : 0 ≤ (x3_1 : Int) := of_decide_eq_true (by first | (with_reducible assumption) | assumption)
       have q4 : x3_1 < (a0.size : Int) := of_decide_eq_true (by first | (with_reducible assumption) | assumption)
       have hx4 := bt_at a0 x3_1
       replace p4 := eq_true p4
       replace q4 := eq_true q4
       have p6 : 0 ≤ (x3_1 : Int) := of_decide_eq_true (by first | (with_reducible assumption) | assumption)
       have q6 : x3_1 < (a0.size : Int) := of_decide_eq_true (by first | (with_reducible assumption) | assumption)
       have hx6 := bt_at a0 x3_1
       replace p6 := eq_true p6
       replace q6 := eq_true q6
       go_wp2
       go_roundg k1
       case measure => have := HK1.out; omega
       case rel => exact ⟨(wrap64 (x3_1 + 1)), (by first | rfl | (simp; done) | (simp [*]; done) | (simp [i64_w, IntKind.wrap_u8, e256_]; done) | (simp; generalize ByteArray.toList _ = zz_; cases zz_ <;> rfl)), H', ⟨by have := HK1.out; omega⟩, by repeat (first | exact Drawn0.refl _ | apply Drawn0.step)⟩
    ·rw [if_neg c3] at H
     exact absurd H (by simp)
   ·rw [if_neg c2] at H
    have c2b0 : decide (x3_1 < (a0.size : Int)) = false := decide_eq_false c2
    clear c2
    obtain rfl := Option.some.inj H
    go_wp2
    go_ret
    exact ⟨by first | rfl | (simp; done) | (simp [*]; done) | (simp [i64_w, IntKind.wrap_u8, e256_]; done) | (simp; generalize ByteArray.toList _ = zz_; cases zz_ <;> rfl), by repeat (first | exact Drawn0.refl _ | apply Drawn0.step)⟩
def spec_l01In.f (a0 : Int) (a1 : Int) (a2 : Int) : Option (Bool) := if a0 ≥ a1 then (some (decide (a0 ≤ a2))) else (some false)
set_option maxHeartbeats 8000000 in
set_option maxRecDepth 100000 in
theorem spec_l01In.calls (a0 : Int) (a1 : Int) (a2 : Int) (r : Bool) (w : World) (h : spec_l01In.f a0 a1 a2 = some r) :
  Calls Tryd.prog 83 #[.int .i64 a0, .int .i64 a1, .int .i64 a2] w fun e w' => e = .returned (.bool r) ∧ Drawn0 w w' := by
 have H : (if a0 ≥ a1 then (some (decide (a0 ≤ a2))) else (some false)) = some r := h
 clear h
 by_cases c4 : a0 ≥ a1
 ·rw [if_pos c4] at H
  have c4b0 : decide (a1 ≤ a0) = true := decide_eq_true c4
  clear c4
  obtain rfl := Option.some.inj H
  go_enter Tryd.func83, Tryd.ntmps83
  go_wp2
  go_ret
  exact ⟨by first | rfl | (simp; done) | (simp [*]; done) | (simp [i64_w, IntKind.wrap_u8, e256_]; done) | (simp; generalize ByteArray.toList _ = zz_; cases zz_ <;> rfl), by repeat (first | exact Drawn0.refl _ | apply Drawn0.step)⟩
 ·rw [if_neg c4] at H
  have c4b0 : decide (a1 ≤ a0) = false := decide_eq_false c4
  clear c4
  obtain rfl := Option.some.inj H
  go_enter Tryd.func83, Tryd.ntmps83
  go_wp2
  go_ret
  exact ⟨by first | rfl | (simp; done) | (simp [*]; done) | (simp [i64_w, IntKind.wrap_u8, e256_]; done) | (simp; generalize ByteArray.toList _ = zz_; cases zz_ <;> rfl), by repeat (first | exact Drawn0.refl _ | apply Drawn0.step)⟩
end Go.Proofs.YtfiieppnpmodoaaDoor.Q
end
section
namespace Go.Proofs.YtfiieppnpmodoaaDoor.Q
open Go.RowKit Go.Proofs.YtfiieppnpmodoaaDoorW.PrintWords Go.Proofs.YtfiieppnpmodoaaDoorW.PrintLast Go.Proofs.YtfiieppnpmodoaaDoorW.PrintMore
set_option linter.unusedVariables false
set_option linter.unusedSimpArgs false
def isPri (c : Int) : Bool := decide (32 ≤ c) && decide (c ≤ 126)
theorem spec_Printable_l (s : ByteArray) (hs : s.size ≤ 140737488351232) : ∀ (d n k : Nat), n + d = s.size → d < k →
    spec_Printable.l0 k s (n : Int) = some (((bytesOf s).drop n).all isPri) := by
  intro d
  induction d with
  | zero =>
    intro n k hd hk
    obtain ⟨k, rfl⟩ : ∃ m, k = m + 1 := ⟨k - 1, by omega⟩
    simp only [spec_Printable.l0]
    rw [if_neg (by omega), List.drop_of_length_le (by rw [bytesOf_length]; omega)]
    simp
  | succ d ih =>
    intro n k hd hk
    obtain ⟨k, rfl⟩ : ∃ m, k = m + 1 := ⟨k - 1, by omega⟩
    simp only [spec_Printable.l0]
    rw [if_pos (by omega), if_pos (by omega), drop_bt s n (by omega), List.all_cons]
    by_cases h1 : bt s (n : Int) < 32
    · rw [if_pos h1]
      have e : isPri (bt s (n : Int)) = false := by unfold isPri; simp; omega
      rw [e]; simp
    · rw [if_neg h1]
      by_cases h2 : bt s (n : Int) > 126
      · rw [if_pos h2]
        have e : isPri (bt s (n : Int)) = false := by unfold isPri; simp; omega
        rw [e]; simp
      · rw [if_neg h2, w64 (by omega) (by omega)]
        have e : isPri (bt s (n : Int)) = true := by unfold isPri; simp; omega
        rw [e, Bool.true_and]
        exact ih (n + 1) k (by omega) (by omega)
theorem spec_Printable_at (s : ByteArray) (hs : s.size ≤ 140737488351232) (k : Nat) (hk : s.size < k) : spec_Printable.f k s = some ((bytesOf s).all isPri) := by
  unfold spec_Printable.f
  have h := spec_Printable_l s hs s.size 0 k (by omega) hk
  simpa using h
theorem impl_Printable_l (s : ByteArray) (hs : s.size ≤ 140737488351232) : ∀ (d n k : Nat), n + d = s.size → d < k →
    impl_Printable.l0 k s (s.size : Int) (n : Int) = some (((bytesOf s).drop n).all isPri) := by
  intro d
  induction d with
  | zero =>
    intro n k hd hk
    obtain ⟨k, rfl⟩ : ∃ m, k = m + 1 := ⟨k - 1, by omega⟩
    simp only [impl_Printable.l0]
    rw [if_neg (by omega), List.drop_of_length_le (by rw [bytesOf_length]; omega)]
    simp
  | succ d ih =>
    intro n k hd hk
    obtain ⟨k, rfl⟩ : ∃ m, k = m + 1 := ⟨k - 1, by omega⟩
    simp only [impl_Printable.l0]
    rw [if_pos (by omega), if_pos (by omega), if_pos (by omega), drop_bt s n (by omega), List.all_cons]
    by_cases h1 : bt s (n : Int) < 32
    · rw [if_pos h1]
      have e : isPri (bt s (n : Int)) = false := by unfold isPri; simp; omega
      rw [e]; simp
    · rw [if_neg h1]
      by_cases h2 : bt s (n : Int) > 126
      · rw [if_pos h2]
        have e : isPri (bt s (n : Int)) = false := by unfold isPri; simp; omega
        rw [e]; simp
      · rw [if_neg h2, w64 (by omega) (by omega)]
        have e : isPri (bt s (n : Int)) = true := by unfold isPri; simp; omega
        rw [e, Bool.true_and]
        exact ih (n + 1) k (by omega) (by omega)
theorem impl_Printable_at (s : ByteArray) (hs : s.size ≤ 140737488351232) (k : Nat) (hk : s.size < k) : impl_Printable.f k s = some ((bytesOf s).all isPri) := by
  unfold impl_Printable.f
  have h := impl_Printable_l s hs s.size 0 k (by omega) hk
  simpa using h
end Go.Proofs.YtfiieppnpmodoaaDoor.Q
end
