/- Texts for FnExactGetLen, packed by a program of this session (wip/pack.py), part 1 of 2: the print's words that are used, the printed walks, the plain laws, the row; no condition. -/
import Derived.Test.YtiglmmofapcefaaDoorMgFnExactGetLen0
import Derived.Test.YtiglmmofapcefaaDoorProg
import Derived.Below
import Derived.Deep.Draws
import Derived.Deep.AppendLies
import Derived.Maps.AppendAt
import Derived.OwnWalk
import Derived.Laws.BytesArg
import Derived.Laws.MakeOwn
import Derived.Laws.OwnMore
import Derived.Deep.OwnRows
import Derived.Tactics
import Derived.Lib.ConvBytes
import Derived.Laws.Slices
import Derived.WalkKit
import Derived.KernelRfl
import Derived.RowKit3
import Derived.Deep.LoopGhost
import Derived.Deep.QuietTactic
import Derived.BigQuiet
import Derived.WideLaws
import Derived.Deep.DeepCutAuto
import Derived.Deep.CutBlock
import Derived.Deep.RegionHeld3
import Derived.Laws.Rows
import Derived.Lib.AppendStr
import Derived.ArgAppend
import Derived.Laws.IdiomCopy
import Derived.OrdersHeld
import Derived.Laws.BitsLemmas
import Derived.RowKit
import Derived.Laws.Runes
import Derived.Shelf.Strings.Builder1
import Derived.Shelf.Strings.Builder2
import Derived.Shelf.Small.Strs
import Derived.Shelf.Strings.BuilderF
import Derived.Shelf.Strings.BuilderK
import Derived.Shelf.Strings.Builder2Cap
import Derived.Shelf.Strconv.Atoi
import Derived.Shelf.Strconv.Itoa0
import Derived.Shelf.Strconv.Itoa1
import Derived.Shelf.LaysM
import Derived.Shelf.Strconv.Itoa2
import Derived.Shelf.Strconv.Itoa3
import Derived.Shelf.Strconv.AtoiErrFast
import Derived.Shelf.Strconv.ParseIntEmpty
import Derived.Shelf.Strconv.AtoiFail
import Derived.Shelf.Strconv.Clone
import Derived.Shelf.Strconv.SyntaxError
import Derived.Shelf.LaysC
import Derived.Shelf.Strconv.ToError
import Derived.Shelf.Strconv.AtoiErr
import Derived.Shelf.Strconv.ErrVar
import Derived.Shelf.Strconv.Lower
import Derived.Shelf.Strconv.ParseUint10
import Derived.Shelf.Strconv.ParseUint10Empty
import Derived.Shelf.Strconv.ParseUint10Any
import Derived.Shelf.Strconv.ParseInt10
import Derived.Shelf.Strconv.AtoiLong
import Derived.Shelf.Strconv.AtoiInnerAll
import Derived.Shelf.Strconv.RangeError
import Derived.Shelf.Strconv.ToErrorRange
import Derived.Shelf.Strconv.AtoiAll
import Derived.Shelf.Strconv.ErrVarAll
import Derived.Shelf.Strconv.ParseUintEmpty
import Derived.Shelf.Strconv.ParseUint10b64
import Derived.Shelf.Strconv.ParseUint10b32
import Derived.Shelf.Strconv.ParseUint10b16
import Derived.Shelf.Strconv.ParseUint10b8
import Derived.Shelf.Strconv.ParseUint10At
import Derived.Shelf.Strconv.ParseInt10At64
import Derived.Shelf.Strconv.ParseInt10At32
import Derived.Shelf.Strconv.ParseInt10At16
import Derived.Shelf.Strconv.ParseInt10At8
import Derived.Shelf.Strconv.ParseInt10All
import Derived.Shelf.Strings.Search1
import Derived.Shelf.Strings.Prefix
import Derived.Shelf.Bits.Mul64
import Derived.Shelf.Strings.Repeat
import Derived.Shelf.Strings.BuilderCap
import Derived.Lib.LaidTab
import Derived.Lib.SmallJoins
import Derived.Lib.AppendIntMem
import Derived.Lib.AtoiBound
import Derived.Test.YtiglmmofapcefaaDoorRows
import Derived.LaidLaws
import Derived.Stop.LaidErr
import Derived.ChangeMaps5
namespace Go.Proofs.YtiglmmofapcefaaDoor.Q
open Go.RowKit Go.Proofs.YtiglmmofapcefaaDoorW.PrintWords Go.Proofs.YtiglmmofapcefaaDoorW.PrintLast Go.Proofs.YtiglmmofapcefaaDoorW.PrintMore
theorem e256_ (x : Int) : wrap64 (x % 256) = x % 256 := by unfold wrap64; omega
theorem bB {b : Nat} {w W : World} (h : Below b w W := by repeat (first | (with_reducible first | exact HB.out | apply below_alloc | apply pw_below_drewN | apply below_drew1) | exact HB.out)) : Below b w W := h
theorem bG {b : Nat} {w W : World} (h : Below b w W := by repeat (first | (with_reducible first | exact HB.out | apply below_alloc | apply pw_below_drewN | apply below_drew1 | refine below_set ?_ (Aside0.out (by assumption))) | exact HB.out)) : Below b w W := h
theorem rA {p q : Prop} (h : p) (k : p → q := by intro h_; (with_reducible repeat (first | apply Kd.R_alloc | apply Kd.R_drewN | apply Kd.R_drew)); exact h_) : q := k h
theorem kA {p q : Prop} (h : p) (k : p → q := by intro h_; (with_reducible repeat (first | refine blk_drewN ?_ _ | refine blk_drew ?_ | refine blk_alloc ?_ _)); exact h_) : q := k h
theorem goesM_ {P : Program} {ops : Array Oper} {Q : Exit → Act → World → Prop} {rest : List Oper} {oi : Oper} {a : Act} {w : World} (N : Option Tmp) (hd : oi.dst = N) (hg : oi.guard = none) {f : FuncId} {fn : Func} {av_ : Array Operand} {ts : Array TypeId} (hf : P.funcs[f]? = some fn) (hname : (fn.name == "runtime.NumGoroutine") = false) (hb : fn.body.isSome = true) (args : Array Value) (hop : oi.op = .call { callee := .value (.func f), args := av_, argTypes := ts }) (h : Calls P f args w fun e w' => ∃ v, e = .returned v ∧ wpList P ops Q rest (a.put N v) w') (hargs : av_.map a.eval = args := by (try simp only [List.map_toArray, List.map_cons, List.map_nil]); first | done | rfl | (simp only [List.length_drop, List.length_take]; rfl)) : wpList P ops Q (oi :: rest) a w := goesL_ N hd hg hf hname hb args hop hargs h
end Go.Proofs.YtiglmmofapcefaaDoor.Q
section
namespace Go.Proofs.YtiglmmofapcefaaDoor.Q
open Go.RowKit Go.Proofs.YtiglmmofapcefaaDoorW.PrintWords Go.Proofs.YtiglmmofapcefaaDoorW.PrintLast Go.Proofs.YtiglmmofapcefaaDoorW.PrintMore
attribute [local go_sem] max2_int min2_int max_two min_two max_three min_three max_four min_four
set_option linter.unusedVariables false
set_option linter.unusedSimpArgs false
def errW : Option Int → Value
 | none => .nilIface
 | some c => .iface 0 (.int .i64 c)
theorem errW_none : errW none = .nilIface := rfl
theorem errW_some (c : Int) : errW (some c) = .iface 0 (.int .i64 c) := rfl
theorem info5 : (Tryd.prog.info? 5).map (fun i => (i.zero, i.size, i.bytes)) = some (some (.int .u8 0), 1, 1) := by kernel_rfl
structure S100 where
 f0 : Int
 f1 : Int
 f2 : Int
structure S115 where
 f0 : Int
 f1 : ByteArray
structure S81 where
 f0 : Int
 f1 : ByteArray
attribute [local go_sem] max2_int min2_int max_two min_two max_three min_three max_four min_four
set_option linter.unusedVariables false
set_option linter.unusedSimpArgs false
def laws_eqByteS.l0 : Nat → List Int → List Int → Int → Option (Bool)
 | 0, _, _, _ => none
 | k + 1, x0, x1, x5 => if x5 < (x0.length : Int) then (if 0 ≤ x5 then (if x5 < (x1.length : Int) then (if (rd x0 x5) = (rd x1 x5) then (laws_eqByteS.l0 k x0 x1 (wrap64 (x5 + 1))) else (some false)) else (none)) else (none)) else (some true)
def laws_eqByteS.f (k : Nat) (l0 : List Int) (l1 : List Int) : Option (Bool) := if (l0.length : Int) = (l1.length : Int) then (laws_eqByteS.l0 k l0 l1 0) else (some false)
set_option maxHeartbeats 8000000 in
set_option maxRecDepth 100000 in
theorem laws_eqByteS.calls (k : Nat) (A0 : Option Addr) (c0 : Nat) (l0 : List Int) (A1 : Option Addr) (c1 : Nat) (l1 : List Int) (r : Bool) (w : World) (hr0 : Kd.C (Kd.int .u8) w A0 l0.length l0) (hc0 : l0.length ≤ c0) (hr1 : Kd.C (Kd.int .u8) w A1 l1.length l1) (hc1 : l1.length ≤ c1) (h : laws_eqByteS.f k l0 l1 = some r) :
  Calls Tryd.prog 27 #[.slice A0 l0.length c0, .slice A1 l1.length c1] w fun e w' => e = .returned (.bool r) ∧ Drawn0 w w' := by
 have HR0 := Aside0.mk hr0
 have HC0 := Aside0.mk hc0
 clear hr0 hc0
 have HR1 := Aside0.mk hr1
 have HC1 := Aside0.mk hc1
 clear hr1 hc1
 have H : (if (l0.length : Int) = (l1.length : Int) then (laws_eqByteS.l0 k l0 l1 0) else (some false)) = some r := h
 clear h
 by_cases c3 : (l0.length : Int) = (l1.length : Int)
 ·rw [if_pos c3] at H
  have c3b0 : ((l0.length : Int) == (l1.length : Int)) = true := beq_iff_eq.mpr c3
  have c3b1 : ((l0.length : Int) != (l1.length : Int)) = false := bne_eq_false_iff_eq.mpr c3
  have c3b2 : (l0.length == l1.length) = true := by first | simpa using c3 | (simp at c3 ⊢; omega)
  clear c3
  have H' := Aside0.mk H
  clear H
  go_enter Tryd.func27, Tryd.ntmps27
  go_wp2
  repeat (go_quiet (fail); try go_wp2)
  go_loopg [5] k (fun kq v5 w' => ∃ (x5_1 : Int), v5 = .int .i64 x5_1 ∧ Aside0 (laws_eqByteS.l0 kq l0 l1 x5_1 = some r) ∧ Aside0 (kq ≤ k) ∧ Drawn0 w w')
  case atStart => exact ⟨(0), (by first | rfl | (simp; done) | (simp [*]; done) | (simp [i64_w, IntKind.wrap_u8, e256_]; done) | (simp; generalize ByteArray.toList _ = zz_; cases zz_ <;> rfl)), H', ⟨Nat.le_refl _⟩, by repeat (first | exact Drawn0.refl _ | apply Drawn0.step)⟩
  case round =>
   clear H'
   try clear c1
   try clear c2
   try clear p2
   try clear c3
   try clear c3b0
   try clear c3b1
   try clear c3b2
   obtain ⟨x5_1, rfl, HA, HK1, ⟨m1, rfl⟩⟩ := hrel
   cases gk with
   | zero => exact absurd HA.out (by simp [laws_eqByteS.l0])
   | succ k1 =>
    have H := HA.out
    clear HA
    simp only [laws_eqByteS.l0] at H
    by_cases c4 : x5_1 < (l0.length : Int)
    ·rw [if_pos c4] at H
     have c4b0 : decide (x5_1 < (l0.length : Int)) = true := decide_eq_true c4
     clear c4
     by_cases c5 : 0 ≤ x5_1
     ·rw [if_pos c5] at H
      have c5b0 : decide (0 ≤ x5_1) = true := decide_eq_true c5
      clear c5
      by_cases c6 : x5_1 < (l1.length : Int)
      ·rw [if_pos c6] at H
       have c6b0 : decide (x5_1 < (l1.length : Int)) = true := decide_eq_true c6
       clear c6
       by_cases c7 : (rd l0 x5_1) = (rd l1 x5_1)
       ·rw [if_pos c7] at H
        have c7b0 : ((rd l0 x5_1) == (rd l1 x5_1)) = true := beq_iff_eq.mpr c7
        have c7b1 : ((rd l0 x5_1) != (rd l1 x5_1)) = false := bne_eq_false_iff_eq.mpr c7
        clear c7
        have H' := Aside0.mk H
        clear H
        have p155 : 0 ≤ (x5_1 : Int) := of_decide_eq_true (by first | (with_reducible assumption) | assumption)
        have q155 : x5_1 < (l0.length : Int) := of_decide_eq_true (by first | (with_reducible assumption) | assumption)
        obtain ⟨ad155, e155, hx155_0⟩ := Kd.at_int HR0.out x5_1 p155 q155
        cases e155
        replace p155 := eq_true p155
        replace q155 := eq_true q155
        have p156 : 0 ≤ (x5_1 : Int) := of_decide_eq_true (by first | (with_reducible assumption) | assumption)
        have q156 : x5_1 < (l1.length : Int) := of_decide_eq_true (by first | (with_reducible assumption) | assumption)
        obtain ⟨ad156, e156, hx156_0⟩ := Kd.at_int HR1.out x5_1 p156 q156
        cases e156
        replace p156 := eq_true p156
        replace q156 := eq_true q156
        go_wp2
        repeat (go_quiet (fail); try go_wp2)
        go_roundg k1
        case measure => have := HK1.out; omega
        case rel => exact ⟨(wrap64 (x5_1 + 1)), (by first | rfl | (simp; done) | (simp [*]; done) | (simp [i64_w, IntKind.wrap_u8, e256_]; done) | (simp; generalize ByteArray.toList _ = zz_; cases zz_ <;> rfl)), H', ⟨by have := HK1.out; omega⟩, by repeat (first | exact Drawn0.refl _ | apply Drawn0.step)⟩
       ·rw [if_neg c7] at H
        have c7b0 : ((rd l0 x5_1) == (rd l1 x5_1)) = false := beq_eq_false_iff_ne.mpr c7
        have c7b1 : ((rd l0 x5_1) != (rd l1 x5_1)) = true := bne_iff_ne.mpr c7
        obtain rfl := Option.some.inj H
        have p155 : 0 ≤ (x5_1 : Int) := of_decide_eq_true (by first | (with_reducible assumption) | assumption)
        have q155 : x5_1 < (l0.length : Int) := of_decide_eq_true (by first | (with_reducible assumption) | assumption)
        obtain ⟨ad155, e155, hx155_0⟩ := Kd.at_int HR0.out x5_1 p155 q155
        cases e155
        replace p155 := eq_true p155
        replace q155 := eq_true q155
        have p156 : 0 ≤ (x5_1 : Int) := of_decide_eq_true (by first | (with_reducible assumption) | assumption)
        have q156 : x5_1 < (l1.length : Int) := of_decide_eq_true (by first | (with_reducible assumption) | assumption)
        obtain ⟨ad156, e156, hx156_0⟩ := Kd.at_int HR1.out x5_1 p156 q156
        cases e156
        replace p156 := eq_true p156
        replace q156 := eq_true q156
        go_wp2
        repeat (go_quiet (fail); try go_wp2)
        go_ret
        exact ⟨by first | rfl | (simp; done) | (simp [*]; done) | (simp [i64_w, IntKind.wrap_u8, e256_]; done) | (simp; generalize ByteArray.toList _ = zz_; cases zz_ <;> rfl), by repeat (first | exact Drawn0.refl _ | apply Drawn0.step)⟩
      ·rw [if_neg c6] at H
       exact absurd H (by simp)
     ·rw [if_neg c5] at H
      exact absurd H (by simp)
    ·rw [if_neg c4] at H
     have c4b0 : decide (x5_1 < (l0.length : Int)) = false := decide_eq_false c4
     clear c4
     obtain rfl := Option.some.inj H
     go_wp2
     repeat (go_quiet (fail); try go_wp2)
     go_ret
     exact ⟨by first | rfl | (simp; done) | (simp [*]; done) | (simp [i64_w, IntKind.wrap_u8, e256_]; done) | (simp; generalize ByteArray.toList _ = zz_; cases zz_ <;> rfl), by repeat (first | exact Drawn0.refl _ | apply Drawn0.step)⟩
 ·rw [if_neg c3] at H
  have c3b0 : ((l0.length : Int) == (l1.length : Int)) = false := beq_eq_false_iff_ne.mpr c3
  have c3b1 : ((l0.length : Int) != (l1.length : Int)) = true := bne_iff_ne.mpr c3
  have c3b2 : (l0.length == l1.length) = false := by first | simpa using c3 | (simp at c3 ⊢; omega)
  obtain rfl := Option.some.inj H
  go_enter Tryd.func27, Tryd.ntmps27
  go_wp2
  repeat (go_quiet (fail); try go_wp2)
  go_ret
  exact ⟨by first | rfl | (simp; done) | (simp [*]; done) | (simp [i64_w, IntKind.wrap_u8, e256_]; done) | (simp; generalize ByteArray.toList _ = zz_; cases zz_ <;> rfl), by repeat (first | exact Drawn0.refl _ | apply Drawn0.step)⟩
attribute [local go_sem] max2_int min2_int max_two min_two max_three min_three max_four min_four
set_option linter.unusedVariables false
set_option linter.unusedSimpArgs false
def spec_Digits.l0 : Nat → ByteArray → Int → Option (Bool)
 | 0, _, _ => none
 | k + 1, x0, x3 => if x3 < (x0.size : Int) then (if 0 ≤ x3 then (if (bt x0 x3) < 48 then (some false) else (if (bt x0 x3) > 57 then (some false) else (spec_Digits.l0 k x0 (wrap64 (x3 + 1))))) else (none)) else (some (decide ((x0.size : Int) > 0)))
def spec_Digits.f (k : Nat) (a0 : ByteArray) : Option (Bool) := spec_Digits.l0 k a0 0
set_option maxHeartbeats 8000000 in
set_option maxRecDepth 100000 in
theorem spec_Digits.calls (k : Nat) (a0 : ByteArray) (r : Bool) (w : World) (h : spec_Digits.f k a0 = some r) :
  Calls Tryd.prog 69 #[.string a0] w fun e w' => e = .returned (.bool r) ∧ Drawn0 w w' := by
 have H : (spec_Digits.l0 k a0 0) = some r := h
 clear h
 have H' := Aside0.mk H
 clear H
 go_enter Tryd.func69, Tryd.ntmps69
 go_wp2
 go_loopg [3] k (fun kq v3 w' => ∃ (x3_1 : Int), v3 = .int .i64 x3_1 ∧ Aside0 (spec_Digits.l0 kq a0 x3_1 = some r) ∧ Aside0 (kq ≤ k) ∧ Drawn0 w w')
 case atStart => exact ⟨(0), (by first | rfl | (simp; done) | (simp [*]; done) | (simp [i64_w, IntKind.wrap_u8, e256_]; done) | (simp; generalize ByteArray.toList _ = zz_; cases zz_ <;> rfl)), H', ⟨Nat.le_refl _⟩, by repeat (first | exact Drawn0.refl _ | apply Drawn0.step)⟩
 case round =>
  clear H'
  obtain ⟨x3_1, rfl, HA, HK1, ⟨m1, rfl⟩⟩ := hrel
  cases gk with
  | zero => exact absurd HA.out (by simp [spec_Digits.l0])
  | succ k1 =>
   have H := HA.out
   clear HA
   simp only [spec_Digits.l0] at H
   by_cases c2 : x3_1 < (a0.size : Int)
   ·rw [if_pos c2] at H
    have c2b0 : decide (x3_1 < (a0.size : Int)) = true := decide_eq_true c2
    clear c2
    by_cases c3 : 0 ≤ x3_1
    ·rw [if_pos c3] at H
     have c3b0 : decide (0 ≤ x3_1) = true := decide_eq_true c3
     clear c3
     by_cases c5 : (bt a0 x3_1) < 48
     ·rw [if_pos c5] at H
      have c5b0 : decide ((bt a0 x3_1) < 48) = true := decide_eq_true c5
      clear c5
      obtain rfl := Option.some.inj H
      have p4 : 0 ≤ (x3_1 : Int) := of_decide_eq_true (by first | (with_reducible assumption) | assumption)
      have q4 : x3_1 < (a0.size : Int) := of_decide_eq_true (by first | (with_reducible assumption) | assumption)
      have hx4 := bt_at a0 x3_1
      replace p4 := eq_true p4
      replace q4 := eq_true q4
      go_wp2
      go_ret
      exact ⟨by first | rfl | (simp; done) | (simp [*]; done) | (simp [i64_w, IntKind.wrap_u8, e256_]; done) | (simp; generalize ByteArray.toList _ = zz_; cases zz_ <;> rfl), by repeat (first | exact Drawn0.refl _ | apply Drawn0.step)⟩
     ·rw [if_neg c5] at H
      have c5b0 : decide ((bt a0 x3_1) < 48) = false := decide_eq_false c5
      clear c5
      by_cases c7 : (bt a0 x3_1) > 57
      ·rw [if_pos c7] at H
       have c7b0 : decide (57 < (bt a0 x3_1)) = true := decide_eq_true c7
       clear c7
       obtain rfl := Option.some.inj H
       have p4 : 0 ≤ (x3_1 : Int) := of_decide_eq_true (by first | (with_reducible assumption) | assumption)
       have q4 : x3_1 < (a0.size : Int) := of_decide_eq_true (by first | (with_reducible assumption) | assumption)
       have hx4 := bt_at a0 x3_1
       replace p4 := eq_true p4
       replace q4 := eq_true q4
       have p6 : 0 ≤ (x3_1 : Int) := of_decide_eq_true (by first | (with_reducible assumption) | assumption)
       have q6 : x3_1 < (a0.size : Int) := of_decide_eq_true (by first | (with_reducible assumption) | assumption)
       have hx6 := bt_at a0 x3_1
       replace p6 := eq_true p6
       replace q6 := eq_true q6
       go_wp2
       go_ret
       exact ⟨by first | rfl | (simp; done) | (simp [*]; done) | (simp [i64_w, IntKind.wrap_u8, e256_]; done) | (simp; generalize ByteArray.toList _ = zz_; cases zz_ <;> rfl), by repeat (first | exact Drawn0.refl _ | apply Drawn0.step)⟩
      ·rw [if_neg c7] at H
       have c7b0 : decide (57 < (bt a0 x3_1)) = false := decide_eq_false c7
       clear c7
       have H' := Aside0.mk H
       clear H
       have p4 : 0 ≤ (x3_1 : Int) := of_decide_eq_true (by first | (with_reducible assumption) | assumption)
       have q4 : x3_1 < (a0.size : Int) := of_decide_eq_true (by first | (with_reducible assumption) | assumption)
       have hx4 := bt_at a0 x3_1
       replace p4 := eq_true p4
       replace q4 := eq_true q4
       have p6 : 0 ≤ (x3_1 : Int) := of_decide_eq_true (by first | (with_reducible assumption) | assumption)
       have q6 : x3_1 < (a0.size : Int) := of_decide_eq_true (by first | (with_reducible assumption) | assumption)
       have hx6 := bt_at a0 x3_1
       replace p6 := eq_true p6
       replace q6 := eq_true q6
       go_wp2
       go_roundg k1
       case measure => have := HK1.out; omega
       case rel => exact ⟨(wrap64 (x3_1 + 1)), (by first | rfl | (simp; done) | (simp [*]; done) | (simp [i64_w, IntKind.wrap_u8, e256_]; done) | (simp; generalize ByteArray.toList _ = zz_; cases zz_ <;> rfl)), H', ⟨by have := HK1.out; omega⟩, by repeat (first | exact Drawn0.refl _ | apply Drawn0.step)⟩
    ·rw [if_neg c3] at H
     exact absurd H (by simp)
   ·rw [if_neg c2] at H
    have c2b0 : decide (x3_1 < (a0.size : Int)) = false := decide_eq_false c2
    clear c2
    obtain rfl := Option.some.inj H
    go_wp2
    go_ret
    exact ⟨by first | rfl | (simp; done) | (simp [*]; done) | (simp [i64_w, IntKind.wrap_u8, e256_]; done) | (simp; generalize ByteArray.toList _ = zz_; cases zz_ <;> rfl), by repeat (first | exact Drawn0.refl _ | apply Drawn0.step)⟩
attribute [local go_sem] max2_int min2_int max_two min_two max_three min_three max_four min_four
set_option linter.unusedVariables false
set_option linter.unusedSimpArgs false
mutual
def spec_Narrow.j0 : Nat → ByteArray → Bool → Option (Int × Bool)
 | 0, _, _ => none
 | k + 1, x0, x13 => if x13 = true then (some (0, false)) else (spec_Narrow.l0 k x0 0 0)
def spec_Narrow.l0 : Nat → ByteArray → Int → Int → Option (Int × Bool)
 | 0, _, _, _ => none
 | k + 1, x0, x4, x5 => if x5 < (x0.size : Int) then (if 0 ≤ x5 then (spec_Narrow.l0 k x0 (wrap64 ((wrap64 ((wrap64 (x4 * 10)) + (wrap64 (bt x0 x5)))) - 48)) (wrap64 (x5 + 1))) else (none)) else (some (x4, true))
end
def spec_Narrow.f (k : Nat) (a0 : ByteArray) : Option (Int × Bool) := (spec_Digits.f k a0).bind fun t119 => (if t119 = true then (spec_Narrow.j0 k a0 (decide ((a0.size : Int) > 18))) else (spec_Narrow.j0 k a0 true))
set_option maxHeartbeats 8000000 in
set_option maxRecDepth 100000 in
theorem spec_Narrow.calls (k : Nat) (a0 : ByteArray) (r1 : Int) (r2 : Bool) (w : World) (h : spec_Narrow.f k a0 = some (r1, r2)) :
  Calls Tryd.prog 21 #[.string a0] w fun e w' => e = .returned (.tuple #[.int .i64 r1, .bool r2]) ∧ Drawn0 w w' := by
 have H : ((spec_Digits.f k a0).bind fun t119 => (if t119 = true then (spec_Narrow.j0 k a0 (decide ((a0.size : Int) > 18))) else (spec_Narrow.j0 k a0 true))) = some (r1, r2) := h
 clear h
 have HC2 := Aside0.mk H
 clear H
 go_enter Tryd.func21, Tryd.ntmps21
 go_upto_region 1 with (fail)
 go_cut [13] (fun v13 wc => ∃ (kq : Nat) (x13_1 : Bool), v13 = .bool x13_1 ∧ Aside0 (spec_Narrow.j0 kq a0 x13_1 = some (r1, r2)) ∧ Aside0 (kq ≤ k) ∧ Drawn0 w wc)
 case first =>
  have H := HC2.out
  clear HC2
  replace H := Option.bind_eq_some_iff.mp H
  obtain ⟨t119, A30, H⟩ := H
  replace H : (if t119 = true then (spec_Narrow.j0 k a0 (decide ((a0.size : Int) > 18))) else (spec_Narrow.j0 k a0 true)) = some (r1, r2) := H
  have A3 := Aside0.mk A30
  clear A30
  by_cases c4 : t119 = true
  ·subst c4
   have H1 : (spec_Narrow.j0 k a0 (decide ((a0.size : Int) > 18))) = some (r1, r2) := by rw [if_pos rfl] at H; exact H
   clear H
   have H := H1
   clear H1
   have H' := Aside0.mk H
   clear H
   go_wp2_with (first | ((with_reducible refine gate_callee (f := 69) rfl ?_); refine goesM_ (some 7) rfl rfl Tryd.func69 (by kernel_rfl) rfl #[.string a0] rfl ?_; (with_reducible refine (spec_Digits.calls k a0 true _ A3.out).mono ?_); rintro e w' ⟨rfl, ⟨nd, rfl⟩⟩; refine ⟨_, rfl, ?_⟩))
   go_meet
   case rel => exact ⟨_, (decide ((a0.size : Int) > 18)), (by first | rfl | (simp; done) | (simp [*]; done) | (simp [i64_w, IntKind.wrap_u8, e256_]; done) | (simp; generalize ByteArray.toList _ = zz_; cases zz_ <;> rfl)), H', ⟨by first | omega | exact Nat.le_refl _⟩, by repeat (first | exact Drawn0.refl _ | apply Drawn0.step)⟩
  ·replace c4 := Bool.eq_false_iff.mpr c4
   subst c4
   have H1 : (spec_Narrow.j0 k a0 true) = some (r1, r2) := by rw [if_neg (show ¬ (false = true) by decide)] at H; exact H
   clear H
   have H := H1
   clear H1
   have H' := Aside0.mk H
   clear H
   go_wp2_with (first | ((with_reducible refine gate_callee (f := 69) rfl ?_); refine goesM_ (some 7) rfl rfl Tryd.func69 (by kernel_rfl) rfl #[.string a0] rfl ?_; (with_reducible refine (spec_Digits.calls k a0 false _ A3.out).mono ?_); rintro e w' ⟨rfl, ⟨nd, rfl⟩⟩; refine ⟨_, rfl, ?_⟩))
   go_meet
   case rel => exact ⟨_, (true), (by first | rfl | (simp; done) | (simp [*]; done) | (simp [i64_w, IntKind.wrap_u8, e256_]; done) | (simp; generalize ByteArray.toList _ = zz_; cases zz_ <;> rfl)), H', ⟨by first | omega | exact Nat.le_refl _⟩, by repeat (first | exact Drawn0.refl _ | apply Drawn0.step)⟩
 case rest =>
  clear HC2
  try clear c2
  try clear p2
  try clear c4
  obtain ⟨kq, x13_1, rfl, HA, HJ1, ⟨mc1, rfl⟩⟩ := hcut
  cases kq with
  | zero => exact absurd HA.out (by simp [spec_Narrow.j0])
  | succ kj1 =>
   have H := HA.out
   clear HA
   simp only [spec_Narrow.j0] at H
   by_cases c5 : x13_1 = true
   ·subst c5
    have H1 : (some (0, false)) = some (r1, r2) := by rw [if_pos rfl] at H; exact H
    clear H
    have H := H1
    clear H1
    simp only [Option.some.injEq, Prod.mk.injEq] at H
    obtain ⟨rfl, rfl⟩ := H
    go_wp2
    go_ret2
    exact ⟨by first | rfl | (simp; done) | (simp [*]; done) | (simp [i64_w, IntKind.wrap_u8, e256_]; done) | (simp; generalize ByteArray.toList _ = zz_; cases zz_ <;> rfl), by repeat (first | exact Drawn0.refl _ | apply Drawn0.step)⟩
   ·replace c5 := Bool.eq_false_iff.mpr c5
    subst c5
    have H1 : (spec_Narrow.l0 kj1 a0 0 0) = some (r1, r2) := by rw [if_neg (show ¬ (false = true) by decide)] at H; exact H
    clear H
    have H := H1
    clear H1
    have H' := Aside0.mk H
    clear H
    go_wp2
    go_loopg [4, 5] kj1 (fun kq v4 v5 w' => ∃ (x4_2 : Int) (x5_2 : Int), v4 = .int .i64 x4_2 ∧ v5 = .int .i64 x5_2 ∧ Aside0 (spec_Narrow.l0 kq a0 x4_2 x5_2 = some (r1, r2)) ∧ Aside0 (kq ≤ kj1) ∧ Drawn0 w w')
    case atStart => exact ⟨(0), (0), (by first | rfl | (simp; done) | (simp [*]; done) | (simp [i64_w, IntKind.wrap_u8, e256_]; done) | (simp; generalize ByteArray.toList _ = zz_; cases zz_ <;> rfl)), (by first | rfl | (simp; done) | (simp [*]; done) | (simp [i64_w, IntKind.wrap_u8, e256_]; done) | (simp; generalize ByteArray.toList _ = zz_; cases zz_ <;> rfl)), H', ⟨Nat.le_refl _⟩, by repeat (first | exact Drawn0.refl _ | apply Drawn0.step)⟩
    case round =>
     clear H'
     try clear c1
     try clear c2
     try clear p2
     try clear c4
     try clear c5
     try clear p2
     obtain ⟨x4_2, x5_2, rfl, rfl, HA, HK2, ⟨m2, rfl⟩⟩ := hrel
     cases gk with
     | zero => exact absurd HA.out (by simp [spec_Narrow.l0])
     | succ k2 =>
      have H := HA.out
      clear HA
      simp only [spec_Narrow.l0] at H
      by_cases c6 : x5_2 < (a0.size : Int)
      ·rw [if_pos c6] at H
       have c6b0 : decide (x5_2 < (a0.size : Int)) = true := decide_eq_true c6
       clear c6
       by_cases c7 : 0 ≤ x5_2
       ·rw [if_pos c7] at H
        have c7b0 : decide (0 ≤ x5_2) = true := decide_eq_true c7
        clear c7
        have H' := Aside0.mk H
        clear H
        have p8 : 0 ≤ (x5_2 : Int) := of_decide_eq_true (by first | (with_reducible assumption) | assumption)
        have q8 : x5_2 < (a0.size : Int) := of_decide_eq_true (by first | (with_reducible assumption) | assumption)
        have hx8 := bt_at a0 x5_2
        replace p8 := eq_true p8
        replace q8 := eq_true q8
        go_wp2
        go_roundg k2
        case measure => have := HJ1.out; have := HK2.out; omega
        case rel => exact ⟨(wrap64 ((wrap64 ((wrap64 (x4_2 * 10)) + (wrap64 (bt a0 x5_2)))) - 48)), (wrap64 (x5_2 + 1)), (by first | rfl | (simp; done) | (simp [*]; done) | (simp [i64_w, IntKind.wrap_u8, e256_]; done) | (simp; generalize ByteArray.toList _ = zz_; cases zz_ <;> rfl)), (by first | rfl | (simp; done) | (simp [*]; done) | (simp [i64_w, IntKind.wrap_u8, e256_]; done) | (simp; generalize ByteArray.toList _ = zz_; cases zz_ <;> rfl)), H', ⟨by have := HJ1.out; have := HK2.out; omega⟩, by repeat (first | exact Drawn0.refl _ | apply Drawn0.step)⟩
       ·rw [if_neg c7] at H
        exact absurd H (by simp)
      ·rw [if_neg c6] at H
       have c6b0 : decide (x5_2 < (a0.size : Int)) = false := decide_eq_false c6
       clear c6
       simp only [Option.some.injEq, Prod.mk.injEq] at H
       obtain ⟨rfl, rfl⟩ := H
       go_wp2
       go_ret2
       exact ⟨by first | rfl | (simp; done) | (simp [*]; done) | (simp [i64_w, IntKind.wrap_u8, e256_]; done) | (simp; generalize ByteArray.toList _ = zz_; cases zz_ <;> rfl), by repeat (first | exact Drawn0.refl _ | apply Drawn0.step)⟩
attribute [local go_sem] max2_int min2_int max_two min_two max_three min_three max_four min_four
set_option linter.unusedVariables false
set_option linter.unusedSimpArgs false
mutual
def spec_GetBcd.j0 : Nat → List Int → Int → Int → Bool → Option (ByteArray × Int × Bool)
 | 0, _, _, _, _ => none
 | k + 1, x0, x1, x2, x36 => if x36 = true then (some ((⟨#[]⟩ : ByteArray), 0, false)) else (spec_GetBcd.l0 k x0 x1 x2 (⟨#[]⟩ : ByteArray) x1)
def spec_GetBcd.l0 : Nat → List Int → Int → Int → ByteArray → Int → Option (ByteArray × Int × Bool)
 | 0, _, _, _, _, _ => none
 | k + 1, x0, x1, x2, x9, x10 => if x10 < (wrap64 (x1 + (wrap64 (Int.tdiv (wrap64 (x2 + 1)) 2)))) then (if 0 ≤ x10 then (if x10 < (x0.length : Int) then ((some (([(wrap64 (48 + (wrap64 (Int.tdiv (wrap64 (rd x0 x10)) 16)))) % 256, (wrap64 (48 + (Int.tmod (wrap64 (rd x0 x10)) 16))) % 256] : List Int) : List Int)).bind fun y179 => (if x9.size + (strOfNums y179).size ≤ 9223372036854775807 then (spec_GetBcd.l0 k x0 x1 x2 (x9 ++ (strOfNums y179)) (wrap64 (x10 + 1))) else (none))) else (none)) else (none)) else (if (Int.tmod x2 2) = 1 then (if 0 < (x9.size : Int) then (if (bt x9 0) = 48 then (if 1 ≤ (x9.size : Int) then ((spec_Digits.f k (x9.extract 1 x9.size)).bind fun t182 => (if t182 = true then (some (x9.extract 1 x9.size, wrap64 (x1 + (wrap64 (Int.tdiv (wrap64 (x2 + 1)) 2))), true)) else (some ((⟨#[]⟩ : ByteArray), 0, false)))) else (none)) else (some ((⟨#[]⟩ : ByteArray), 0, false))) else (none)) else ((spec_Digits.f k x9).bind fun t183 => (if t183 = true then (some (x9, wrap64 (x1 + (wrap64 (Int.tdiv (wrap64 (x2 + 1)) 2))), true)) else (some ((⟨#[]⟩ : ByteArray), 0, false)))))
end
def spec_GetBcd.f (k : Nat) (l0 : List Int) (a1 : Int) (a2 : Int) : Option (ByteArray × Int × Bool) := if a2 < 1 then (spec_GetBcd.j0 k l0 a1 a2 true) else (if a2 > 38 then (spec_GetBcd.j0 k l0 a1 a2 true) else (if a1 < 0 then (spec_GetBcd.j0 k l0 a1 a2 true) else (if a1 > (l0.length : Int) then (spec_GetBcd.j0 k l0 a1 a2 true) else (spec_GetBcd.j0 k l0 a1 a2 (decide ((wrap64 (Int.tdiv (wrap64 (a2 + 1)) 2)) > (wrap64 ((l0.length : Int) - a1))))))))
def spec_GetBcd.T7 : Bool × List (List Nat × List Nat) := (true, [([], []), ([], []), ([], []), ([1, 2], [1, 2]), ([3], [3]), ([4], [4]), ([5], [5]), ([6], [6]), ([7], [7]), ([], []), ([], []), ([9, 10], [9, 10]), ([11], [11]), ([12], [12]), ([13], [13]), ([14], [14]), ([15], [15]), ([8, 16], [8, 16]), ([17], [17]), ([0, 18], [0, 18]), ([19, 0, 1, 2, 3, 4, 5, 6, 7, 8, 9, 10, 11, 12, 13, 14, 15, 16, 17, 18, 19], [0, 19])])
def spec_GetBcd.B7 : List Nat := [0, 0, 0, 6, 14, 30, 62, 126, 254, 0, 0, 1536, 3584, 7680, 15872, 32256, 65024, 131070, 262142, 524287, 1048575]
theorem spec_GetBcd.tab7 : rtab .any (opsOf Tryd.f73 7) = spec_GetBcd.T7 := by kernel_rfl
theorem spec_GetBcd.bits7 : waitsOk spec_GetBcd.T7.2 spec_GetBcd.B7 = true := by kernel_rfl
set_option maxHeartbeats 8000000 in
set_option maxRecDepth 100000 in
theorem spec_GetBcd.calls (k : Nat) (A0 : Option Addr) (c0 : Nat) (l0 : List Int) (a1 : Int) (a2 : Int) (r1 : ByteArray) (r2 : Int) (r3 : Bool) (w : World) (hr0 : Kd.C (Kd.int .u8) w A0 l0.length l0) (hc0 : l0.length ≤ c0) (h : spec_GetBcd.f k l0 a1 a2 = some (r1, r2, r3)) :
  Calls Tryd.prog 73 #[.slice A0 l0.length c0, .int .i64 a1, .int .i64 a2] w fun e w' => e = .returned (.tuple #[.string r1, .int .i64 r2, .bool r3]) ∧ Below w.heap.size w w' := by
 have HR0 := Aside0.mk hr0
 have HC0 := Aside0.mk hc0
 clear hr0 hc0
 have HB := Aside0.mk (Below.refl w.heap.size w)
 have H : (if a2 < 1 then (spec_GetBcd.j0 k l0 a1 a2 true) else (if a2 > 38 then (spec_GetBcd.j0 k l0 a1 a2 true) else (if a1 < 0 then (spec_GetBcd.j0 k l0 a1 a2 true) else (if a1 > (l0.length : Int) then (spec_GetBcd.j0 k l0 a1 a2 true) else (spec_GetBcd.j0 k l0 a1 a2 (decide ((wrap64 (Int.tdiv (wrap64 (a2 + 1)) 2)) > (wrap64 ((l0.length : Int) - a1))))))))) = some (r1, r2, r3) := h
 clear h
 have HC4 := Aside0.mk H
 clear H
 go_enter Tryd.func73, Tryd.ntmps73
 go_upto_region 1 with (fail)
 go_cut [36] (fun v36 wc => ∃ (kq : Nat) (x36_3 : Bool), v36 = .bool x36_3 ∧ Aside0 (spec_GetBcd.j0 kq l0 a1 a2 x36_3 = some (r1, r2, r3)) ∧ Aside0 (kq ≤ k) ∧ Aside0 (Below w.heap.size w wc))
 case first =>
  have H := HC4.out
  clear HC4
  by_cases c5 : a2 < 1
  ·rw [if_pos c5] at H
   have c5b0 : decide (a2 < 1) = true := decide_eq_true c5
   clear c5
   (first | rw [c5b0] | (simp only [i64_w, i32_w]; rw [c5b0]) | rw [c5b1] | (simp only [c5b1]) | skip)
   have H' := Aside0.mk H
   clear H
   go_wp2
   go_meet
   case rel => exact ⟨_, (true), (by first | rfl | (simp; done) | (simp [*]; done) | (simp [i64_w, IntKind.wrap_u8, e256_]; done) | (simp; generalize ByteArray.toList _ = zz_; cases zz_ <;> rfl)), H', ⟨by first | omega | exact Nat.le_refl _⟩, ⟨bB⟩⟩
  ·rw [if_neg c5] at H
   have c5b0 : decide (a2 < 1) = false := decide_eq_false c5
   clear c5
   (first | rw [c5b0] | (simp only [i64_w, i32_w]; rw [c5b0]) | rw [c5b1] | (simp only [c5b1]) | skip)
   by_cases c6 : a2 > 38
   ·rw [if_pos c6] at H
    have c6b0 : decide (38 < a2) = true := decide_eq_true c6
    clear c6
    have H' := Aside0.mk H
    clear H
    go_wp2
    go_meet
    case rel => exact ⟨_, (true), (by first | rfl | (simp; done) | (simp [*]; done) | (simp [i64_w, IntKind.wrap_u8, e256_]; done) | (simp; generalize ByteArray.toList _ = zz_; cases zz_ <;> rfl)), H', ⟨by first | omega | exact Nat.le_refl _⟩, ⟨bB⟩⟩
   ·rw [if_neg c6] at H
    have c6b0 : decide (38 < a2) = false := decide_eq_false c6
    clear c6
    by_cases c7 : a1 < 0
    ·rw [if_pos c7] at H
     have c7b0 : decide (a1 < 0) = true := decide_eq_true c7
     clear c7
     have H' := Aside0.mk H
     clear H
     go_wp2
     go_meet
     case rel => exact ⟨_, (true), (by first | rfl | (simp; done) | (simp [*]; done) | (simp [i64_w, IntKind.wrap_u8, e256_]; done) | (simp; generalize ByteArray.toList _ = zz_; cases zz_ <;> rfl)), H', ⟨by first | omega | exact Nat.le_refl _⟩, ⟨bB⟩⟩
    ·rw [if_neg c7] at H
     have c7b0 : decide (a1 < 0) = false := decide_eq_false c7
     clear c7
     by_cases c8 : a1 > (l0.length : Int)
     ·rw [if_pos c8] at H
      have c8b0 : decide ((l0.length : Int) < a1) = true := decide_eq_true c8
      clear c8
      have H' := Aside0.mk H
      clear H
      go_wp2
      go_meet
      case rel => exact ⟨_, (true), (by first | rfl | (simp; done) | (simp [*]; done) | (simp [i64_w, IntKind.wrap_u8, e256_]; done) | (simp; generalize ByteArray.toList _ = zz_; cases zz_ <;> rfl)), H', ⟨by first | omega | exact Nat.le_refl _⟩, ⟨bB⟩⟩
     ·rw [if_neg c8] at H
      have c8b0 : decide ((l0.length : Int) < a1) = false := decide_eq_false c8
      clear c8
      have H' := Aside0.mk H
      clear H
      go_wp2
      go_meet
      case rel => exact ⟨_, (decide ((wrap64 (Int.tdiv (wrap64 (a2 + 1)) 2)) > (wrap64 ((l0.length : Int) - a1)))), (by first | rfl | (simp; done) | (simp [*]; done) | (simp [i64_w, IntKind.wrap_u8, e256_]; done) | (simp; generalize ByteArray.toList _ = zz_; cases zz_ <;> rfl)), H', ⟨by first | omega | exact Nat.le_refl _⟩, ⟨bB⟩⟩
 case rest =>
  clear HC4
  try clear p2
  try clear c5
  try clear c5b0
  try clear c5b1
  try clear c6
  try clear c6b0
  try clear p6
  try clear c7
  try clear c7b0
  try clear c8
  try clear c8b0
  obtain ⟨kq, x36_3, rfl, HA, HJ3, HB⟩ := hcut
  cases kq with
  | zero => exact absurd HA.out (by simp [spec_GetBcd.j0])
  | succ kj3 =>
   have H := HA.out
   clear HA
   simp only [spec_GetBcd.j0] at H
   by_cases c9 : x36_3 = true
   ·subst c9
    have H1 : (some ((⟨#[]⟩ : ByteArray), 0, false)) = some (r1, r2, r3) := by rw [if_pos rfl] at H; exact H
    clear H
    have H := H1
    clear H1
    simp only [Option.some.injEq, Prod.mk.injEq] at H
    obtain ⟨rfl, rfl, rfl⟩ := H
    go_wp2
    go_ret3
    exact ⟨by first | rfl | (simp [errW_none, errW_some] <;> rfl) | (simp [*, errW_none, errW_some] <;> rfl), bB⟩
   ·replace c9 := Bool.eq_false_iff.mpr c9
    subst c9
    have H1 : (spec_GetBcd.l0 kj3 l0 a1 a2 (⟨#[]⟩ : ByteArray) a1) = some (r1, r2, r3) := by rw [if_neg (show ¬ (false = true) by decide)] at H; exact H
    clear H
    have H := H1
    clear H1
    have H' := Aside0.mk H
    clear H
    go_wp2
    go_loopg [9, 10] kj3 (fun kq v9 v10 w' => ∃ (x9_2 : ByteArray) (x10_2 : Int), v9 = .string x9_2 ∧ v10 = .int .i64 x10_2 ∧ Aside0 (spec_GetBcd.l0 kq l0 a1 a2 x9_2 x10_2 = some (r1, r2, r3)) ∧ Aside0 (kq ≤ kj3) ∧ Aside0 (Below w.heap.size w w'))
    case atStart => exact ⟨((⟨#[]⟩ : ByteArray)), (a1), (by first | rfl | (simp; done) | (simp [*]; done) | (simp [i64_w, IntKind.wrap_u8, e256_]; done) | (simp; generalize ByteArray.toList _ = zz_; cases zz_ <;> rfl)), (by first | rfl | (simp; done) | (simp [*]; done) | (simp [i64_w, IntKind.wrap_u8, e256_]; done) | (simp; generalize ByteArray.toList _ = zz_; cases zz_ <;> rfl)), H', ⟨Nat.le_refl _⟩, ⟨bB⟩⟩
    case round =>
     clear H'
     try clear p2
     try clear c5
     try clear c5b0
     try clear c5b1
     try clear c6
     try clear c6b0
     try clear p6
     try clear c7
     try clear c7b0
     try clear c8
     try clear c8b0
     try clear c9
     try clear p2
     try clear p6
     obtain ⟨x9_2, x10_2, rfl, rfl, HA, HK2, HB⟩ := hrel
     cases gk with
     | zero => exact absurd HA.out (by simp [spec_GetBcd.l0])
     | succ k2 =>
      have H := HA.out
      clear HA
      simp only [spec_GetBcd.l0] at H
      by_cases c10 : x10_2 < (wrap64 (a1 + (wrap64 (Int.tdiv (wrap64 (a2 + 1)) 2))))
      ·rw [if_pos c10] at H
       have c10b0 : decide (x10_2 < (wrap64 (a1 + (wrap64 (Int.tdiv (wrap64 (a2 + 1)) 2))))) = true := decide_eq_true c10
       clear c10
       by_cases c11 : 0 ≤ x10_2
       ·rw [if_pos c11] at H
        have c11b0 : decide (0 ≤ x10_2) = true := decide_eq_true c11
        clear c11
        by_cases c12 : x10_2 < (l0.length : Int)
        ·rw [if_pos c12] at H
         have c12b0 : decide (x10_2 < (l0.length : Int)) = true := decide_eq_true c12
         clear c12
         obtain ⟨y179, hy179⟩ : ∃ y_ : List Int, y_ = (([(wrap64 (48 + (wrap64 (Int.tdiv (wrap64 (rd l0 x10_2)) 16)))) % 256, (wrap64 (48 + (Int.tmod (wrap64 (rd l0 x10_2)) 16))) % 256] : List Int)) := ⟨_, rfl⟩
         replace H : (if x9_2.size + (strOfNums y179).size ≤ 9223372036854775807 then (spec_GetBcd.l0 k2 l0 a1 a2 (x9_2 ++ (strOfNums y179)) (wrap64 (x10_2 + 1))) else (none)) = some (r1, r2, r3) := by first | (rw [hy179]; with_reducible exact H) | (have H2_ := (Option.bind_some _ _).symm.trans H; rw [hy179]; with_reducible exact H2_) | (have H2_ := (Option.bind_some _ _).symm.trans H; with_reducible exact H2_) | with_reducible exact H | (rw [hy179]; exact H) | exact H
         have Ny179 := Aside0.mk hy179
         clear hy179
         by_cases c13 : x9_2.size + (strOfNums y179).size ≤ 9223372036854775807
         ·rw [if_pos c13] at H
          have c13b0 := eq_true c13
          have c13b1 : decide (x9_2.size + (strOfNums y179).size ≤ 9223372036854775807) = true := decide_eq_true c13
          try have c13b2 : (9223372036854775807 < x9_2.size + (strOfNums y179).size) = False := eq_false (Nat.not_lt.2 c13)
          try (have c13b3 := c13b2; simp only [ByteArray.size_append, ByteArray.size_extract, Nat.sub_zero, Nat.min_self] at c13b3)
          have H' := Aside0.mk H
          clear H
          try go_wp2
          have n0_ := Aside0.mk (below_drew1 HB.out)
          clear HB
          have HB := n0_
          clear n0_
          have p177 : 0 ≤ (x10_2 : Int) := of_decide_eq_true (by first | (with_reducible assumption) | assumption)
          have q177 : x10_2 < (l0.length : Int) := of_decide_eq_true (by first | (with_reducible assumption) | assumption)
          obtain ⟨ad177, e177, hx177_0⟩ := Kd.at_int HR0.out x10_2 p177 q177
          have hw177_0 := hx177_0
          cases e177
          replace hx177_0 := (HB.out.cell (World.block_lt_of_cell? w _ hx177_0)).trans hx177_0
          replace p177 := eq_true p177
          replace q177 := eq_true q177
          have p178 : 0 ≤ (x10_2 : Int) := of_decide_eq_true (by first | (with_reducible assumption) | assumption)
          have q178 : x10_2 < (l0.length : Int) := of_decide_eq_true (by first | (with_reducible assumption) | assumption)
          obtain ⟨ad178, e178, hx178_0⟩ := Kd.at_int HR0.out x10_2 p178 q178
          have hw178_0 := hx178_0
          obtain rfl : ad177 = ad178 := (by injection e178)
          replace hx178_0 := (HB.out.cell (World.block_lt_of_cell? w _ hx178_0)).trans hx178_0
          replace p178 := eq_true p178
          replace q178 := eq_true q178
          refine start_ (n := 21) (S := fun w' => w'.cell? (ad177.add (x10_2).toNat) = some (.int .u8 (rd l0 x10_2)) ∧ w'.cell? (ad177.add (x10_2).toNat) = some (.int .u8 (rd l0 x10_2))) (ds := []) #[false, false, false, false, false, false, false, false, false, false, false, false, false, false, false, false, false, false, false, false, false] (by kernel_rfl) rfl rfl ⟨((HB.out.cell (World.block_lt_of_cell? w _ hw177_0)).trans hw177_0), ((HB.out.cell (World.block_lt_of_cell? w _ hw178_0)).trans hw178_0)⟩ (fun hHeld => ?_); refine with_tabW spec_GetBcd.tab7 spec_GetBcd.bits7 (fun HT_ HW_ => ?_)
          generalize wr.drew = w14 at HB hx177_0 hx178_0 hHeld ⊢
          refine pure_ (i := 0) (N := some 47) (v := ?_) (a' := ?_) #[true, false, false, false, false, false, false, false, false, false, false, false, false, false, false, false, false, false, false, false, false] rfl rfl (any_of HT_.out (by kernel_rfl)) (fun _ _ _ h => h) (Or.inl ⟨by rfl, ?_⟩) ?_ ?_
          rotate_left
          ·intro w'
           go_simp
           with_reducible rfl
          rotate_left
          ·simp only [Act.put, List.setIfInBounds_toArray, List.set_cons_zero, List.set_cons_succ, i64_w, i32_w]
           rfl
          refine pure_ (i := 1) (N := some 48) (v := ?_) (a' := ?_) #[true, true, false, false, false, false, false, false, false, false, false, false, false, false, false, false, false, false, false, false, false] rfl rfl (any_of HT_.out (by kernel_rfl)) (fun _ _ _ h => h) (Or.inl ⟨by rfl, ?_⟩) ?_ ?_
          rotate_left
          ·intro w'
           go_simp
           with_reducible rfl
          rotate_left
          ·simp only [Act.put, List.setIfInBounds_toArray, List.set_cons_zero, List.set_cons_succ, i64_w, i32_w]
           rfl
          refine pure_ (i := 2) (N := some 49) (v := ?_) (a' := ?_) #[true, true, true, false, false, false, false, false, false, false, false, false, false, false, false, false, false, false, false, false, false] rfl rfl (any_of HT_.out (by kernel_rfl)) (fun _ _ _ h => h) (Or.inl ⟨by rfl, ?_⟩) ?_ ?_
          rotate_left
          ·intro w'
           go_simp
           with_reducible rfl
          rotate_left
          ·simp only [Act.put, List.setIfInBounds_toArray, List.set_cons_zero, List.set_cons_succ, i64_w, i32_w]
           rfl
          refine pure_ (i := 3) (N := some 50) (v := ?_) (a' := ?_) #[true, true, true, true, false, false, false, false, false, false, false, false, false, false, false, false, false, false, false, false, false] rfl rfl (any_of HT_.out (by kernel_rfl)) (fun _ _ _ h => h) (Or.inl ⟨by rfl, ?_⟩) ?_ ?_
          rotate_left
          ·intro w'
           go_simp
           with_reducible rfl
          rotate_left
          ·simp only [Act.put, List.setIfInBounds_toArray, List.set_cons_zero, List.set_cons_succ, i64_w, i32_w]
           rfl
          refine pure_ (i := 9) (N := some 56) (v := ?_) (a' := ?_) #[true, true, true, true, false, false, false, false, false, true, false, false, false, false, false, false, false, false, false, false, false] rfl rfl (any_of HT_.out (by kernel_rfl)) (fun _ _ _ h => h) (Or.inl ⟨by rfl, ?_⟩) ?_ ?_
          rotate_left
          ·intro w'
           go_simp
           with_reducible rfl
          rotate_left
          ·simp only [Act.put, List.setIfInBounds_toArray, List.set_cons_zero, List.set_cons_succ, i64_w, i32_w]
           rfl
          refine pure_ (i := 10) (N := some 57) (v := ?_) (a' := ?_) #[true, true, true, true, false, false, false, false, false, true, true, false, false, false, false, false, false, false, false, false, false] rfl rfl (any_of HT_.out (by kernel_rfl)) (fun _ _ _ h => h) (Or.inl ⟨by rfl, ?_⟩) ?_ ?_
          rotate_left
          ·intro w'
           go_simp
           with_reducible rfl
          rotate_left
          ·simp only [Act.put, List.setIfInBounds_toArray, List.set_cons_zero, List.set_cons_succ, i64_w, i32_w]
           rfl
          refine pure_ (i := 11) (N := some 58) (v := ?_) (a' := ?_) #[true, true, true, true, false, false, false, false, false, true, true, true, false, false, false, false, false, false, false, false, false] rfl rfl (any_of HT_.out (by kernel_rfl)) (fun _ _ _ h => h) (Or.inl ⟨by rfl, ?_⟩) ?_ ?_
          rotate_left
          ·intro w'
           go_simp
           with_reducible rfl
          rotate_left
          ·simp only [Act.put, List.setIfInBounds_toArray, List.set_cons_zero, List.set_cons_succ, i64_w, i32_w]
           rfl
          refine take_ (i := 4) (N := some 51) (v := ?_) (a' := ?_) #[true, true, true, true, true, false, false, false, false, true, true, true, false, false, false, false, false, false, false, false, false] rfl rfl (take_ofW HT_.out HW_.out (by kernel_rfl)) (fun _ _ _ h => h) (Or.inl ⟨by rfl, ?_⟩) hHeld ?_ ?_
          rotate_left
          ·rintro w' ⟨s0, s1⟩
           go_simp
           with_reducible rfl
          rotate_left
          ·simp only [Act.put, List.setIfInBounds_toArray, List.set_cons_zero, List.set_cons_succ, i64_w, i32_w]
           rfl
          refine pure_ (i := 5) (N := some 52) (v := ?_) (a' := ?_) #[true, true, true, true, true, true, false, false, false, true, true, true, false, false, false, false, false, false, false, false, false] rfl rfl (any_of HT_.out (by kernel_rfl)) (fun _ _ _ h => h) (Or.inl ⟨by rfl, ?_⟩) ?_ ?_
          rotate_left
          ·intro w'
           go_simp
           with_reducible rfl
          rotate_left
          ·simp only [Act.put, List.setIfInBounds_toArray, List.set_cons_zero, List.set_cons_succ, i64_w, i32_w]
           rfl
          refine pure_ (i := 6) (N := some 53) (v := ?_) (a' := ?_) #[true, true, true, true, true, true, true, false, false, true, true, true, false, false, false, false, false, false, false, false, false] rfl rfl (any_of HT_.out (by kernel_rfl)) (fun _ _ _ h => h) (Or.inl ⟨by rfl, ?_⟩) ?_ ?_
          rotate_left
          ·intro w'
           go_simp
           with_reducible rfl
          rotate_left
          ·simp only [Act.put, List.setIfInBounds_toArray, List.set_cons_zero, List.set_cons_succ, i64_w, i32_w]
           rfl
          refine pure_ (i := 7) (N := some 54) (v := ?_) (a' := ?_) #[true, true, true, true, true, true, true, true, false, true, true, true, false, false, false, false, false, false, false, false, false] rfl rfl (any_of HT_.out (by kernel_rfl)) (fun _ _ _ h => h) (Or.inl ⟨by rfl, ?_⟩) ?_ ?_
          rotate_left
          ·intro w'
           go_simp
           with_reducible rfl
          rotate_left
          ·simp only [Act.put, List.setIfInBounds_toArray, List.set_cons_zero, List.set_cons_succ, i64_w, i32_w]
           rfl
          refine pure_ (i := 8) (N := some 55) (v := ?_) (a' := ?_) #[true, true, true, true, true, true, true, true, true, true, true, true, false, false, false, false, false, false, false, false, false] rfl rfl (any_of HT_.out (by kernel_rfl)) (fun _ _ _ h => h) (Or.inl ⟨by rfl, ?_⟩) ?_ ?_
          rotate_left
          ·intro w'
           go_simp
           with_reducible rfl
          rotate_left
          ·simp only [Act.put, List.setIfInBounds_toArray, List.set_cons_zero, List.set_cons_succ, i64_w, i32_w]
           rfl
          refine take_ (i := 12) (N := some 59) (v := ?_) (a' := ?_) #[true, true, true, true, true, true, true, true, true, true, true, true, true, false, false, false, false, false, false, false, false] rfl rfl (take_ofW HT_.out HW_.out (by kernel_rfl)) (fun _ _ _ h => h) (Or.inl ⟨by rfl, ?_⟩) hHeld ?_ ?_
          rotate_left
          ·rintro w' ⟨s0, s1⟩
           go_simp
           with_reducible rfl
          rotate_left
          ·simp only [Act.put, List.setIfInBounds_toArray, List.set_cons_zero, List.set_cons_succ, i64_w, i32_w]
           rfl
          refine pure_ (i := 13) (N := some 60) (v := ?_) (a' := ?_) #[true, true, true, true, true, true, true, true, true, true, true, true, true, true, false, false, false, false, false, false, false] rfl rfl (any_of HT_.out (by kernel_rfl)) (fun _ _ _ h => h) (Or.inl ⟨by rfl, ?_⟩) ?_ ?_
          rotate_left
          ·intro w'
           go_simp
           with_reducible rfl
          rotate_left
          ·simp only [Act.put, List.setIfInBounds_toArray, List.set_cons_zero, List.set_cons_succ, i64_w, i32_w]
           rfl
          refine pure_ (i := 14) (N := some 61) (v := ?_) (a' := ?_) #[true, true, true, true, true, true, true, true, true, true, true, true, true, true, true, false, false, false, false, false, false] rfl rfl (any_of HT_.out (by kernel_rfl)) (fun _ _ _ h => h) (Or.inl ⟨by rfl, ?_⟩) ?_ ?_
          rotate_left
          ·intro w'
           go_simp
           with_reducible rfl
          rotate_left
          ·simp only [Act.put, List.setIfInBounds_toArray, List.set_cons_zero, List.set_cons_succ, i64_w, i32_w]
           rfl
          refine pure_ (i := 15) (N := some 62) (v := ?_) (a' := ?_) #[true, true, true, true, true, true, true, true, true, true, true, true, true, true, true, true, false, false, false, false, false] rfl rfl (any_of HT_.out (by kernel_rfl)) (fun _ _ _ h => h) (Or.inl ⟨by rfl, ?_⟩) ?_ ?_
          rotate_left
          ·intro w'
           go_simp
           with_reducible rfl
          rotate_left
          ·simp only [Act.put, List.setIfInBounds_toArray, List.set_cons_zero, List.set_cons_succ, i64_w, i32_w]
           rfl
          refine pure_ (i := 16) (N := some 63) (v := ?_) (a' := ?_) #[true, true, true, true, true, true, true, true, true, true, true, true, true, true, true, true, true, false, false, false, false] rfl rfl (any_of HT_.out (by kernel_rfl)) (fun _ _ _ h => h) (Or.inl ⟨by rfl, ?_⟩) ?_ ?_
          rotate_left
          ·intro w'
           go_simp
           with_reducible rfl
          rotate_left
          ·simp only [Act.put, List.setIfInBounds_toArray, List.set_cons_zero, List.set_cons_succ, i64_w, i32_w]
           rfl
          refine one_ (i := 17) (N := some 64) #[true, true, true, true, true, true, true, true, true, true, true, true, true, true, true, true, true, true, false, false, false] rfl rfl (one_of HT_.out (by kernel_rfl)) (by decide) (fun K hK => ?_)
          refine Kd.R_lit_step (Kd.int .u8) _ 5 ?hg (N := 64) ?hd (xs := ([(wrap64 (48 + (wrap64 (Int.tdiv (wrap64 (rd l0 x10_2)) 16)))) % 256, (wrap64 (48 + (Int.tmod (wrap64 (rd l0 x10_2)) 16))) % 256] : List Int)) (inner := [.int .u8 ((wrap64 (48 + (wrap64 (Int.tdiv (wrap64 (rd l0 x10_2)) 16)))) % 256), .int .u8 ((wrap64 (48 + (Int.tmod (wrap64 (rd l0 x10_2)) 16))) % 256)]) (ok := fun _ => True) (okp := fun _ => True) ?hr ?hp (fun _ hk => hk) trivial (Below.refl _ _) (Nat.le_refl _) (by simp) ?_; (case hd => rfl); (case hg => rfl); (case hr => first | (go_simp; done) | (go_simp; rfl)); (case hp => exact (Reps.one (show Kd.M (Kd.int .u8) _ _ _ ((wrap64 (48 + (wrap64 (Int.tdiv (wrap64 (rd l0 x10_2)) 16)))) % 256) [.int .u8 ((wrap64 (48 + (wrap64 (Int.tdiv (wrap64 (rd l0 x10_2)) 16)))) % 256)] from rfl) (Reps.one (show Kd.M (Kd.int .u8) _ _ _ ((wrap64 (48 + (Int.tmod (wrap64 (rd l0 x10_2)) 16))) % 256) [.int .u8 ((wrap64 (48 + (Int.tmod (wrap64 (rd l0 x10_2)) 16))) % 256)] from rfl) (Reps.none _ _))))
          intro v180 w15 ho16 hb hg_ hnew_
          clear hg_ hnew_
          (first | rw [← Ny179.out] at ho16 | (simp only [Int.reduceToNat] at ho16; rw [← Ny179.out] at ho16))
          have n0_ := Aside0.mk (Kd.R_lower ho16 (below_size bB))
          have n1_ := Aside0.mk (below_step bB hb)
          clear HB
          have HO181 := n0_
          have HB := n1_
          clear n0_ n1_
          clear hb ho16
          refine hK.out _ _ ⟨((HB.out.cell (World.block_lt_of_cell? w _ hw177_0)).trans hw177_0), ((HB.out.cell (World.block_lt_of_cell? w _ hw178_0)).trans hw178_0)⟩ (fun hHeld => ?_)
          clear hK K
          refine norm_ (a' := ?_) ?_ ?_
          rotate_left
          ·show Act.put _ (some 64) _ = _
           simp only [Act.put, List.setIfInBounds_toArray, List.set_cons_zero, List.set_cons_succ, i64_w, i32_w]
           rfl
          refine one_ (i := 18) (N := some 65) #[true, true, true, true, true, true, true, true, true, true, true, true, true, true, true, true, true, true, true, false, false] rfl rfl (one_of HT_.out (by kernel_rfl)) (by decide) (fun K hK => ?_)
          have hcv17 := own_string (P := Tryd.prog) Tryd.underlying29 Tryd.underlying5 Tryd.underlying9 (Kd.own_of_R HO181.out)
          refine value_ (w1 := ?_) (v := ?_) (by rfl) rfl ?_ ?_
          rotate_left 2
          ·go_simp
           constructor
           ·rfl
           ·rfl
          clear hcv17
          refine hK.out _ _ ⟨((HB.out.cell (World.block_lt_of_cell? w _ hw177_0)).trans hw177_0), ((HB.out.cell (World.block_lt_of_cell? w _ hw178_0)).trans hw178_0)⟩ (fun hHeld => ?_)
          clear hK K
          refine norm_ (a' := ?_) ?_ ?_
          rotate_left
          ·show Act.put _ (some 65) _ = _
           simp only [Act.put, List.setIfInBounds_toArray, List.set_cons_zero, List.set_cons_succ, i64_w, i32_w]
           rfl
          refine pure_ (i := 19) (N := some 66) (v := ?_) (a' := ?_) #[true, true, true, true, true, true, true, true, true, true, true, true, true, true, true, true, true, true, true, true, false] rfl rfl (any_of HT_.out (by kernel_rfl)) (fun _ _ _ h => h) (Or.inl ⟨by rfl, ?_⟩) ?_ ?_
          rotate_left
          ·intro w'
           go_simp
           with_reducible rfl
          rotate_left
          ·simp only [Act.put, List.setIfInBounds_toArray, List.set_cons_zero, List.set_cons_succ, i64_w, i32_w]
           rfl
          refine pure_ (i := 20) (N := some 9) (v := ?_) (a' := ?_) #[true, true, true, true, true, true, true, true, true, true, true, true, true, true, true, true, true, true, true, true, true] rfl rfl (any_of HT_.out (by kernel_rfl)) (fun _ _ _ h => h) (Or.inl ⟨by rfl, ?_⟩) ?_ ?_
          rotate_left
          ·intro w'
           go_simp
           with_reducible rfl
          rotate_left
          ·simp only [Act.put, List.setIfInBounds_toArray, List.set_cons_zero, List.set_cons_succ, i64_w, i32_w]
           rfl
          refine done_ (done_of HT_.out (by kernel_rfl)) ?_
          try go_wp2
          go_roundg k2
          case measure => have := HJ3.out; have := HK2.out; omega
          case rel => exact ⟨(x9_2 ++ (strOfNums y179)), (wrap64 (x10_2 + 1)), (by first | rfl | (simp; done) | (simp [*]; done) | (simp [i64_w, IntKind.wrap_u8, e256_]; done) | (simp; generalize ByteArray.toList _ = zz_; cases zz_ <;> rfl)), (by first | rfl | (simp; done) | (simp [*]; done) | (simp [i64_w, IntKind.wrap_u8, e256_]; done) | (simp; generalize ByteArray.toList _ = zz_; cases zz_ <;> rfl)), H', ⟨by have := HJ3.out; have := HK2.out; omega⟩, ⟨bB⟩⟩
         ·rw [if_neg c13] at H
          exact absurd H (by simp)
        ·rw [if_neg c12] at H
         exact absurd H (by simp)
       ·rw [if_neg c11] at H
        exact absurd H (by simp)
      ·rw [if_neg c10] at H
       have c10b0 : decide (x10_2 < (wrap64 (a1 + (wrap64 (Int.tdiv (wrap64 (a2 + 1)) 2))))) = false := decide_eq_false c10
       clear c10
       by_cases c18 : (Int.tmod a2 2) = 1
       ·rw [if_pos c18] at H
        have c18b0 : ((Int.tmod a2 2) == 1) = true := beq_iff_eq.mpr c18
        have c18b1 : ((Int.tmod a2 2) != 1) = false := bne_eq_false_iff_eq.mpr c18
        clear c18
        by_cases c19 : 0 < (x9_2.size : Int)
        ·rw [if_pos c19] at H
         have c19b0 : decide (0 < (x9_2.size : Int)) = true := decide_eq_true c19
         have c19b1 : decide (0 < x9_2.size) = true := decide_eq_true (by omega)
         clear c19
         by_cases c21 : (bt x9_2 0) = 48
         ·rw [if_pos c21] at H
          have c21b0 : ((bt x9_2 0) == 48) = true := beq_iff_eq.mpr c21
          have c21b1 : ((bt x9_2 0) != 48) = false := bne_eq_false_iff_eq.mpr c21
          clear c21
          by_cases c22 : 1 ≤ (x9_2.size : Int)
          ·rw [if_pos c22] at H
           have c22b0 := eq_true c22
           have c22b1 : decide (1 ≤ (x9_2.size : Int)) = true := decide_eq_true c22
           clear c22
           replace H := Option.bind_eq_some_iff.mp H
           obtain ⟨t182, A230, H⟩ := H
           replace H : (if t182 = true then (some (x9_2.extract 1 x9_2.size, wrap64 (a1 + (wrap64 (Int.tdiv (wrap64 (a2 + 1)) 2))), true)) else (some ((⟨#[]⟩ : ByteArray), 0, false))) = some (r1, r2, r3) := H
           have A23 := Aside0.mk A230
           clear A230
           by_cases c24 : t182 = true
           ·subst c24
            have H1 : (some (x9_2.extract 1 x9_2.size, wrap64 (a1 + (wrap64 (Int.tdiv (wrap64 (a2 + 1)) 2))), true)) = some (r1, r2, r3) := by rw [if_pos rfl] at H; exact H
            clear H
            have H := H1
            clear H1
            simp only [Option.some.injEq, Prod.mk.injEq] at H
            obtain ⟨rfl, rfl, rfl⟩ := H
            have p20 : 0 ≤ (0 : Int) := (by omega)
            have q20 : 0 < x9_2.size := (by have : (0 : Int) < (x9_2.size : Int) := of_decide_eq_true (by first | (with_reducible assumption) | assumption); omega)
            have hx20 : ∀ h : 0 < x9_2.size, ((x9_2[0]'h).toNat : Int) = bt x9_2 0 := bt_at x9_2 0
            clear p20
            have qi20 : (0 < (x9_2.size : Int)) = True := eq_true (of_decide_eq_true (by first | (with_reducible assumption) | assumption))
            replace q20 := eq_true q20
            go_wp2_with (first | ((with_reducible refine gate_callee (f := 69) rfl ?_); refine goesM_ (some 76) rfl rfl Tryd.func69 (by kernel_rfl) rfl #[.string (x9_2.extract 1 x9_2.size)] rfl ?_; (with_reducible refine (spec_Digits.calls k2 (x9_2.extract 1 x9_2.size) true _ A23.out).mono ?_); rintro e w' ⟨rfl, ⟨nd, rfl⟩⟩; refine ⟨_, rfl, ?_⟩))
            go_ret3
            exact ⟨by first | rfl | (simp [errW_none, errW_some] <;> rfl) | (simp [*, errW_none, errW_some] <;> rfl), bB⟩
           ·replace c24 := Bool.eq_false_iff.mpr c24
            subst c24
            have H1 : (some ((⟨#[]⟩ : ByteArray), 0, false)) = some (r1, r2, r3) := by rw [if_neg (show ¬ (false = true) by decide)] at H; exact H
            clear H
            have H := H1
            clear H1
            simp only [Option.some.injEq, Prod.mk.injEq] at H
            obtain ⟨rfl, rfl, rfl⟩ := H
            have p20 : 0 ≤ (0 : Int) := (by omega)
            have q20 : 0 < x9_2.size := (by have : (0 : Int) < (x9_2.size : Int) := of_decide_eq_true (by first | (with_reducible assumption) | assumption); omega)
            have hx20 : ∀ h : 0 < x9_2.size, ((x9_2[0]'h).toNat : Int) = bt x9_2 0 := bt_at x9_2 0
            clear p20
            have qi20 : (0 < (x9_2.size : Int)) = True := eq_true (of_decide_eq_true (by first | (with_reducible assumption) | assumption))
            replace q20 := eq_true q20
            go_wp2_with (first | ((with_reducible refine gate_callee (f := 69) rfl ?_); refine goesM_ (some 76) rfl rfl Tryd.func69 (by kernel_rfl) rfl #[.string (x9_2.extract 1 x9_2.size)] rfl ?_; (with_reducible refine (spec_Digits.calls k2 (x9_2.extract 1 x9_2.size) false _ A23.out).mono ?_); rintro e w' ⟨rfl, ⟨nd, rfl⟩⟩; refine ⟨_, rfl, ?_⟩))
            go_ret3
            exact ⟨by first | rfl | (simp [errW_none, errW_some] <;> rfl) | (simp [*, errW_none, errW_some] <;> rfl), bB⟩
          ·rw [if_neg c22] at H
           exact absurd H (by simp)
         ·rw [if_neg c21] at H
          have c21b0 : ((bt x9_2 0) == 48) = false := beq_eq_false_iff_ne.mpr c21
          have c21b1 : ((bt x9_2 0) != 48) = true := bne_iff_ne.mpr c21
          simp only [Option.some.injEq, Prod.mk.injEq] at H
          obtain ⟨rfl, rfl, rfl⟩ := H
          have p20 : 0 ≤ (0 : Int) := (by omega)
          have q20 : 0 < x9_2.size := (by have : (0 : Int) < (x9_2.size : Int) := of_decide_eq_true (by first | (with_reducible assumption) | assumption); omega)
          have hx20 : ∀ h : 0 < x9_2.size, ((x9_2[0]'h).toNat : Int) = bt x9_2 0 := bt_at x9_2 0
          clear p20
          have qi20 : (0 < (x9_2.size : Int)) = True := eq_true (of_decide_eq_true (by first | (with_reducible assumption) | assumption))
          replace q20 := eq_true q20
          go_wp2
          go_ret3
          exact ⟨by first | rfl | (simp [errW_none, errW_some] <;> rfl) | (simp [*, errW_none, errW_some] <;> rfl), bB⟩
        ·rw [if_neg c19] at H
         exact absurd H (by simp)
       ·rw [if_neg c18] at H
        have c18b0 : ((Int.tmod a2 2) == 1) = false := beq_eq_false_iff_ne.mpr c18
        have c18b1 : ((Int.tmod a2 2) != 1) = true := bne_iff_ne.mpr c18
        replace H := Option.bind_eq_some_iff.mp H
        obtain ⟨t183, A250, H⟩ := H
        replace H : (if t183 = true then (some (x9_2, wrap64 (a1 + (wrap64 (Int.tdiv (wrap64 (a2 + 1)) 2))), true)) else (some ((⟨#[]⟩ : ByteArray), 0, false))) = some (r1, r2, r3) := H
        have A25 := Aside0.mk A250
        clear A250
        by_cases c26 : t183 = true
        ·subst c26
         have H1 : (some (x9_2, wrap64 (a1 + (wrap64 (Int.tdiv (wrap64 (a2 + 1)) 2))), true)) = some (r1, r2, r3) := by rw [if_pos rfl] at H; exact H
         clear H
         have H := H1
         clear H1
         simp only [Option.some.injEq, Prod.mk.injEq] at H
         obtain ⟨rfl, rfl, rfl⟩ := H
         go_wp2_with (first | ((with_reducible refine gate_callee (f := 69) rfl ?_); refine goesM_ (some 76) rfl rfl Tryd.func69 (by kernel_rfl) rfl #[.string x9_2] rfl ?_; (with_reducible refine (spec_Digits.calls k2 x9_2 true _ A25.out).mono ?_); rintro e w' ⟨rfl, ⟨nd, rfl⟩⟩; refine ⟨_, rfl, ?_⟩))
         go_ret3
         exact ⟨by first | rfl | (simp [errW_none, errW_some] <;> rfl) | (simp [*, errW_none, errW_some] <;> rfl), bB⟩
        ·replace c26 := Bool.eq_false_iff.mpr c26
         subst c26
         have H1 : (some ((⟨#[]⟩ : ByteArray), 0, false)) = some (r1, r2, r3) := by rw [if_neg (show ¬ (false = true) by decide)] at H; exact H
         clear H
         have H := H1
         clear H1
         simp only [Option.some.injEq, Prod.mk.injEq] at H
         obtain ⟨rfl, rfl, rfl⟩ := H
         go_wp2_with (first | ((with_reducible refine gate_callee (f := 69) rfl ?_); refine goesM_ (some 76) rfl rfl Tryd.func69 (by kernel_rfl) rfl #[.string x9_2] rfl ?_; (with_reducible refine (spec_Digits.calls k2 x9_2 false _ A25.out).mono ?_); rintro e w' ⟨rfl, ⟨nd, rfl⟩⟩; refine ⟨_, rfl, ?_⟩))
         go_ret3
         exact ⟨by first | rfl | (simp [errW_none, errW_some] <;> rfl) | (simp [*, errW_none, errW_some] <;> rfl), bB⟩
attribute [local go_sem] max2_int min2_int max_two min_two max_three min_three max_four min_four
set_option linter.unusedVariables false
set_option linter.unusedSimpArgs false
def spec_GetLen.j0 : Nat → List Int → Int → Int → Bool → Option (Int × Int × Bool)
 | 0, _, _, _, _ => none
 | k + 1, x0, x1, x2, x19 => if x19 = true then (some (0, 0, false)) else ((spec_GetBcd.f k x0 x1 x2).bind fun bt184 => ((spec_Narrow.f k bt184.1).bind fun bt187 => (some (bt187.1, bt184.2.1, bt184.2.2))))
def spec_GetLen.f (k : Nat) (l0 : List Int) (a1 : Int) (a2 : Int) : Option (Int × Int × Bool) := if a2 = 2 then (spec_GetLen.j0 k l0 a1 a2 false) else (spec_GetLen.j0 k l0 a1 a2 (a2 != 3))
set_option maxHeartbeats 8000000 in
set_option maxRecDepth 100000 in
theorem spec_GetLen.calls (k : Nat) (A0 : Option Addr) (c0 : Nat) (l0 : List Int) (a1 : Int) (a2 : Int) (r1 : Int) (r2 : Int) (r3 : Bool) (w : World) (hr0 : Kd.C (Kd.int .u8) w A0 l0.length l0) (hc0 : l0.length ≤ c0) (h : spec_GetLen.f k l0 a1 a2 = some (r1, r2, r3)) :
  Calls Tryd.prog 30 #[.slice A0 l0.length c0, .int .i64 a1, .int .i64 a2] w fun e w' => e = .returned (.tuple #[.int .i64 r1, .int .i64 r2, .bool r3]) ∧ Below w.heap.size w w' := by
 have HR0 := Aside0.mk hr0
 have HC0 := Aside0.mk hc0
 clear hr0 hc0
 have HB := Aside0.mk (Below.refl w.heap.size w)
 have H : (if a2 = 2 then (spec_GetLen.j0 k l0 a1 a2 false) else (spec_GetLen.j0 k l0 a1 a2 (a2 != 3))) = some (r1, r2, r3) := h
 clear h
 have HC4 := Aside0.mk H
 clear H
 go_enter Tryd.func30, Tryd.ntmps30
 go_upto_region 1 with (fail)
 go_cut [19] (fun v19 wc => ∃ (kq : Nat) (x19_3 : Bool), v19 = .bool x19_3 ∧ Aside0 (spec_GetLen.j0 kq l0 a1 a2 x19_3 = some (r1, r2, r3)) ∧ Aside0 (kq ≤ k) ∧ Aside0 (Below w.heap.size w wc))
 case first =>
  have H := HC4.out
  clear HC4
  by_cases c5 : a2 = 2
  ·rw [if_pos c5] at H
   have c5b0 : (a2 == 2) = true := beq_iff_eq.mpr c5
   have c5b1 : (a2 != 2) = false := bne_eq_false_iff_eq.mpr c5
   clear c5
   (first | rw [c5b0] | (simp only [i64_w, i32_w]; rw [c5b0]) | rw [c5b1] | (simp only [c5b1]) | skip)
   have H' := Aside0.mk H
   clear H
   go_wp2
   go_meet
   case rel => exact ⟨_, (false), (by first | rfl | (simp; done) | (simp [*]; done) | (simp [i64_w, IntKind.wrap_u8, e256_]; done) | (simp; generalize ByteArray.toList _ = zz_; cases zz_ <;> rfl)), H', ⟨by first | omega | exact Nat.le_refl _⟩, ⟨bB⟩⟩
  ·rw [if_neg c5] at H
   have c5b0 : (a2 == 2) = false := beq_eq_false_iff_ne.mpr c5
   have c5b1 : (a2 != 2) = true := bne_iff_ne.mpr c5
   (first | rw [c5b0] | (simp only [i64_w, i32_w]; rw [c5b0]) | rw [c5b1] | (simp only [c5b1]) | skip)
   have H' := Aside0.mk H
   clear H
   go_wp2
   go_meet
   case rel => exact ⟨_, ((a2 != 3)), (by first | rfl | (simp; done) | (simp [*]; done) | (simp [i64_w, IntKind.wrap_u8, e256_]; done) | (simp; generalize ByteArray.toList _ = zz_; cases zz_ <;> rfl)), H', ⟨by first | omega | exact Nat.le_refl _⟩, ⟨bB⟩⟩
 case rest =>
  clear HC4
  try clear p2
  try clear c3
  try clear c5
  try clear c5b0
  try clear c5b1
  obtain ⟨kq, x19_3, rfl, HA, HJ3, HB⟩ := hcut
  cases kq with
  | zero => exact absurd HA.out (by simp [spec_GetLen.j0])
  | succ kj3 =>
   have H := HA.out
   clear HA
   simp only [spec_GetLen.j0] at H
   by_cases c6 : x19_3 = true
   ·subst c6
    have H1 : (some (0, 0, false)) = some (r1, r2, r3) := by rw [if_pos rfl] at H; exact H
    clear H
    have H := H1
    clear H1
    simp only [Option.some.injEq, Prod.mk.injEq] at H
    obtain ⟨rfl, rfl, rfl⟩ := H
    go_wp2
    go_ret3
    exact ⟨by first | rfl | (simp [errW_none, errW_some] <;> rfl) | (simp [*, errW_none, errW_some] <;> rfl), bB⟩
   ·replace c6 := Bool.eq_false_iff.mpr c6
    subst c6
    have H1 : ((spec_GetBcd.f kj3 l0 a1 a2).bind fun bt184 => ((spec_Narrow.f kj3 bt184.1).bind fun bt187 => (some (bt187.1, bt184.2.1, bt184.2.2)))) = some (r1, r2, r3) := by rw [if_neg (show ¬ (false = true) by decide)] at H; exact H
    clear H
    have H := H1
    clear H1
    replace H := Option.bind_eq_some_iff.mp H
    obtain ⟨⟨t184, t185, t186⟩, A70, H⟩ := H
    replace H : ((spec_Narrow.f kj3 t184).bind fun bt187 => (some (bt187.1, t185, t186))) = some (r1, r2, r3) := H
    have A7 := Aside0.mk A70
    clear A70
    replace H := Option.bind_eq_some_iff.mp H
    obtain ⟨⟨t187, t188⟩, A80, H⟩ := H
    replace H : (some (t187, t185, t186)) = some (r1, r2, r3) := H
    have A8 := Aside0.mk A80
    clear A80
    simp only [Option.some.injEq, Prod.mk.injEq] at H
    obtain ⟨rfl, rfl, rfl⟩ := H
    go_wp2_with (first | ((with_reducible refine gate_callee (f := 73) rfl ?_); refine goesM_ (some 24) rfl rfl Tryd.func73 (by kernel_rfl) rfl #[.slice A0 l0.length c0, .int .i64 a1, .int .i64 a2] rfl ?_; (with_reducible refine (spec_GetBcd.calls kj3 _ _ l0 a1 a2 t184 t185 t186 _ ?side1 ?side2 A7.out).mono ?_); (case side1 => repeat (first | exact (Kd.C_below HR0.out HB.out) | (with_reducible refine Kd.C_alloc ?_ _) | (with_reducible refine Kd.C_drewN ?_ _) | (with_reducible refine Kd.C_drew ?_))); (case side2 => exact HC0.out); rintro e w9 ⟨rfl, hb⟩; refine ⟨_, rfl, ?_⟩; have n0_ := Aside0.mk (below_step bB hb); clear HB; have HB := n0_; clear n0_; (try clear hb); (try clear hb2); (try clear hk); (try clear hi)) | ((with_reducible refine gate_callee (f := 21) rfl ?_); refine goesM_ (some 30) rfl rfl Tryd.func21 (by kernel_rfl) rfl #[.string t184] rfl ?_; (with_reducible refine (spec_Narrow.calls kj3 t184 t187 t188 _ A8.out).mono ?_); rintro e w' ⟨rfl, ⟨nd, rfl⟩⟩; refine ⟨_, rfl, ?_⟩))
    go_ret3
    exact ⟨by first | rfl | (simp [errW_none, errW_some] <;> rfl) | (simp [*, errW_none, errW_some] <;> rfl), bB⟩
attribute [local go_sem] max2_int min2_int max_two min_two max_three min_three max_four min_four
set_option linter.unusedVariables false
set_option linter.unusedSimpArgs false
def laws_toByteS.l0 : Nat → List Int → List Int → Int → Option (List Int)
 | 0, _, _, _ => none
 | k + 1, x0, x3, x4 => if x4 < (x0.length : Int) then (if 0 ≤ x4 then (if x4 < (x3.length : Int) then (laws_toByteS.l0 k x0 (x3.set (x4 : Int).toNat (rd x0 x4)) (wrap64 (x4 + 1))) else (none)) else (none)) else (some x3)
def laws_toByteS.f (k : Nat) (l0 : List Int) : Option (List Int) := if 0 ≤ (l0.length : Int) then (if ((l0.length : Int) : Int).toNat ≤ 281474976710656 then (laws_toByteS.l0 k l0 (List.replicate ((l0.length : Int) : Int).toNat 0) 0) else (none)) else (none)
set_option maxHeartbeats 8000000 in
set_option maxRecDepth 100000 in
theorem laws_toByteS.calls (k : Nat) (A0 : Option Addr) (c0 : Nat) (l0 : List Int) (r : List Int) (w : World) (hr0 : Kd.C (Kd.int .u8) w A0 l0.length l0) (hc0 : l0.length ≤ c0) (h : laws_toByteS.f k l0 = some r) :
  Calls Tryd.prog 31 #[.slice A0 l0.length c0] w fun e w' => ∃ v0_ : Value, e = .returned (v0_) ∧ Kd.R (Kd.int .u8) 5 w' w.heap.size (fun _ => True) v0_ r ∧ Below w.heap.size w w' := by
 have HR0 := Aside0.mk hr0
 have HC0 := Aside0.mk hc0
 clear hr0 hc0
 have HB := Aside0.mk (Below.refl w.heap.size w)
 have H : (if 0 ≤ (l0.length : Int) then (if ((l0.length : Int) : Int).toNat ≤ 281474976710656 then (laws_toByteS.l0 k l0 (List.replicate ((l0.length : Int) : Int).toNat 0) 0) else (none)) else (none)) = some r := h
 clear h
 by_cases c2 : 0 ≤ (l0.length : Int)
 ·rw [if_pos c2] at H
  have c2b0 := eq_true c2
  have c2b1 : decide (0 ≤ (l0.length : Int)) = true := decide_eq_true c2
  clear c2
  by_cases c3 : ((l0.length : Int) : Int).toNat ≤ 281474976710656
  ·rw [if_pos c3] at H
   have c3b0 := eq_true c3
   have c3b1 : decide (((l0.length : Int) : Int).toNat ≤ 281474976710656) = true := decide_eq_true c3
   clear c3
   obtain ⟨y189, hy189⟩ : ∃ y_ : List Int, y_ = (List.replicate ((l0.length : Int) : Int).toNat 0) := ⟨_, rfl⟩
   replace H : (laws_toByteS.l0 k l0 y189 0) = some r := by first | (rw [hy189]; with_reducible exact H) | (have H2_ := (Option.bind_some _ _).symm.trans H; rw [hy189]; with_reducible exact H2_) | (have H2_ := (Option.bind_some _ _).symm.trans H; with_reducible exact H2_) | with_reducible exact H | (rw [hy189]; exact H) | exact H
   have Ny189 := Aside0.mk hy189
   clear hy189
   have H' := Aside0.mk H
   clear H
   go_enter Tryd.func31, Tryd.ntmps31
   go_wp2_with (first | ((with_reducible refine gate_dst (N := 7) rfl ?_); refine Kd.R_make (Kd.int .u8) _ 5 rfl (N := 7) rfl 29 _ _ rfl (l0.length : Int) rfl rfl Tryd.underlying29 (.int .u8 0) 1 info5 rfl (by decide) (by omega) 0 (ok := fun _ => True) (okp := fun _ => True) rfl (fun _ hk => hk) trivial (of_decide_eq_true (by first | (with_reducible assumption) | assumption)) (Nat.le_trans (Nat.mul_le_mul_right _ (of_decide_eq_true (by first | (with_reducible assumption) | assumption) : (l0.length : Int).toNat ≤ 281474976710656)) (by omega)) (Below.refl _ _) (Nat.le_refl _) ?_; intro v190 w4 ho5 hb hg_ hnew_; clear hg_ hnew_; (first | rw [← Ny189.out] at ho5 | (simp only [Int.reduceToNat] at ho5; rw [← Ny189.out] at ho5)); have n0_ := Aside0.mk (Kd.R_lower ho5 (below_size bB)); have n1_ := Aside0.mk (below_step bB hb); clear HB; have HO191 := n0_; have HB := n1_; clear n0_ n1_; clear hb ho5))
   go_loopg [4] k (fun kq v4 w' => ∃ (x3_1 : List Int) (x4_1 : Int), v4 = .int .i64 x4_1 ∧ Aside0 (laws_toByteS.l0 kq l0 x3_1 x4_1 = some r) ∧ Aside0 (kq ≤ k) ∧ Aside0 (Kd.R (Kd.int .u8) 5 w' w.heap.size (fun _ => True) v190 x3_1) ∧ Aside0 (Below w.heap.size w w'))
   case atStart => exact ⟨(y189), (0), (by first | rfl | (simp; done) | (simp [*]; done) | (simp [i64_w, IntKind.wrap_u8, e256_]; done) | (simp; generalize ByteArray.toList _ = zz_; cases zz_ <;> rfl)), H', ⟨Nat.le_refl _⟩, ⟨rA HO191.out⟩, ⟨bB⟩⟩
   case round =>
    clear H'
    try clear c2
    try clear c2b0
    try clear c2b1
    try clear p2
    try clear c3
    try clear c3b0
    try clear c3b1
    obtain ⟨x3_1, x4_1, rfl, HA, HK1, HO_3, HB⟩ := hrel
    cases gk with
    | zero => exact absurd HA.out (by simp [laws_toByteS.l0])
    | succ k1 =>
     have H := HA.out
     clear HA
     simp only [laws_toByteS.l0] at H
     by_cases c6 : x4_1 < (l0.length : Int)
     ·rw [if_pos c6] at H
      have c6b0 : decide (x4_1 < (l0.length : Int)) = true := decide_eq_true c6
      clear c6
      by_cases c7 : 0 ≤ x4_1
      ·rw [if_pos c7] at H
       have c7b0 : decide (0 ≤ x4_1) = true := decide_eq_true c7
       clear c7
       by_cases c8 : x4_1 < (x3_1.length : Int)
       ·rw [if_pos c8] at H
        have c8b0 : decide (x4_1 < (x3_1.length : Int)) = true := decide_eq_true c8
        clear c8
        obtain ⟨y193, hy193⟩ : ∃ y_ : List Int, y_ = (x3_1.set (x4_1 : Int).toNat (rd l0 x4_1)) := ⟨_, rfl⟩
        replace H : (laws_toByteS.l0 k1 l0 y193 (wrap64 (x4_1 + 1))) = some r := by first | (rw [hy193]; with_reducible exact H) | (have H2_ := (Option.bind_some _ _).symm.trans H; rw [hy193]; with_reducible exact H2_) | (have H2_ := (Option.bind_some _ _).symm.trans H; with_reducible exact H2_) | with_reducible exact H | (rw [hy193]; exact H) | exact H
        have Ny193 := Aside0.mk hy193
        clear hy193
        have H' := Aside0.mk H
        clear H
        have p192 : 0 ≤ (x4_1 : Int) := of_decide_eq_true (by first | (with_reducible assumption) | assumption)
        have q192 : x4_1 < (l0.length : Int) := of_decide_eq_true (by first | (with_reducible assumption) | assumption)
        obtain ⟨ad192, e192, hx192_0⟩ := Kd.at_int HR0.out x4_1 p192 q192
        cases e192
        replace hx192_0 := (HB.out.cell (World.block_lt_of_cell? w _ hx192_0)).trans hx192_0
        replace p192 := eq_true p192
        replace q192 := eq_true q192
        have p9 : 0 ≤ (x4_1 : Int) := of_decide_eq_true (by first | (with_reducible assumption) | assumption)
        have q9 : (x4_1 : Int) < ((x3_1.length : Int) : Int) := of_decide_eq_true (by first | (with_reducible assumption) | assumption)
        obtain ⟨go9, co9, eo9, gb9, gl9, cl9, HG9⟩ := Kd.R_form HO_3.out (by omega)
        (first | cases eo9 | (injection eo9 with ea_ en_ ec_; (first | subst ea_ | (injection ea_ with ea_; subst ea_)); subst ec_; clear en_))
        have GB9 := Aside0.mk gb9
        have GG9 := Aside0.mk HG9
        clear gb9 gl9 HG9
        obtain ⟨hx9_0, hf9_0⟩ := Kd.R_celln 0 HO_3.out (x4_1 : Int) p9 q9
        replace p9 := eq_true p9
        replace q9 := eq_true q9
        have HP10 := Kd.R_putg HO_3.out (x4_1 : Int) (rd l0 x4_1)
        go_wp2_with (first | ((with_reducible refine gate_store (t := 5) (p := 20) rfl ?_); refine store_event (t := 5) (p := 20) (v := ?vo_w11) (w1 := (wr.setCell ⟨go9, (x4_1 : Int).toNat, none⟩ (.int .u8 (rd l0 x4_1)))) ?hg ?ho ?hn ?hr ?_; (case ho => rfl); (case hg => rfl); (case hn => rfl); (case hr => first | (go_simp; done) | (go_simp; rfl)); intro w11 hw; have hg : wr.grownBy w11 (some go9) := (by rw [hw]; exact HP10.2); have hp_ : Kd.R (Kd.int .u8) 5 w11 w.heap.size (fun _ => True) (.slice (some ⟨go9, 0, none⟩) x3_1.length co9) y193 := (by rw [hw, Ny193.out]; exact HP10.1); clear HP10; have n0_ := Aside0.mk (hp_); have n1_ := Aside0.mk ((by rw [hw]; exact below_set (HB.out) GB9.out : Below w.heap.size w w11)); clear HO_3; clear HB; have HO_3 := n0_; have HB := n1_; clear n0_ n1_; clear hg hw hp_))
        go_roundg k1
        case measure => have := HK1.out; omega
        case rel => exact ⟨(y193), (wrap64 (x4_1 + 1)), (by first | rfl | (simp; done) | (simp [*]; done) | (simp [i64_w, IntKind.wrap_u8, e256_]; done) | (simp; generalize ByteArray.toList _ = zz_; cases zz_ <;> rfl)), H', ⟨by have := HK1.out; omega⟩, ⟨rA HO_3.out⟩, ⟨bB⟩⟩
       ·rw [if_neg c8] at H
        exact absurd H (by simp)
      ·rw [if_neg c7] at H
       exact absurd H (by simp)
     ·rw [if_neg c6] at H
      have c6b0 : decide (x4_1 < (l0.length : Int)) = false := decide_eq_false c6
      clear c6
      obtain rfl := Option.some.inj H
      go_wp2
      go_ret
      exact ⟨_, by first | rfl | (simp [errW_none, errW_some] <;> rfl) | (simp [*, errW_none, errW_some] <;> rfl), rA HO_3.out, bB⟩
  ·rw [if_neg c3] at H
   exact absurd H (by simp)
 ·rw [if_neg c2] at H
  exact absurd H (by simp)
attribute [local go_sem] max2_int min2_int max_two min_two max_three min_three max_four min_four
set_option linter.unusedVariables false
set_option linter.unusedSimpArgs false
def impl_within.f (a0 : Int) (a1 : Int) (a2 : Int) : Option (Bool) := if a1 ≤ a0 then (some (decide (a0 ≤ a2))) else (some false)
set_option maxHeartbeats 8000000 in
set_option maxRecDepth 100000 in
theorem impl_within.calls (a0 : Int) (a1 : Int) (a2 : Int) (r : Bool) (w : World) (h : impl_within.f a0 a1 a2 = some r) :
  Calls Tryd.prog 67 #[.int .i64 a0, .int .i64 a1, .int .i64 a2] w fun e w' => e = .returned (.bool r) ∧ Drawn0 w w' := by
 have H : (if a1 ≤ a0 then (some (decide (a0 ≤ a2))) else (some false)) = some r := h
 clear h
 by_cases c4 : a1 ≤ a0
 ·rw [if_pos c4] at H
  have c4b0 : decide (a1 ≤ a0) = true := decide_eq_true c4
  clear c4
  obtain rfl := Option.some.inj H
  go_enter Tryd.func67, Tryd.ntmps67
  go_wp2
  go_ret
  exact ⟨by first | rfl | (simp; done) | (simp [*]; done) | (simp [i64_w, IntKind.wrap_u8, e256_]; done) | (simp; generalize ByteArray.toList _ = zz_; cases zz_ <;> rfl), by repeat (first | exact Drawn0.refl _ | apply Drawn0.step)⟩
 ·rw [if_neg c4] at H
  have c4b0 : decide (a1 ≤ a0) = false := decide_eq_false c4
  clear c4
  obtain rfl := Option.some.inj H
  go_enter Tryd.func67, Tryd.ntmps67
  go_wp2
  go_ret
  exact ⟨by first | rfl | (simp; done) | (simp [*]; done) | (simp [i64_w, IntKind.wrap_u8, e256_]; done) | (simp; generalize ByteArray.toList _ = zz_; cases zz_ <;> rfl), by repeat (first | exact Drawn0.refl _ | apply Drawn0.step)⟩
attribute [local go_sem] max2_int min2_int max_two min_two max_three min_three max_four min_four
set_option linter.unusedVariables false
set_option linter.unusedSimpArgs false
def impl_Digits.l0 : Nat → ByteArray → Int → Int → Option (Bool)
 | 0, _, _, _ => none
 | k + 1, x0, x5, x6 => if x6 < x5 then (if 0 ≤ x6 then (if x6 < (x0.size : Int) then (if (bt x0 x6) < 48 then (some false) else (if (bt x0 x6) > 57 then (some false) else (impl_Digits.l0 k x0 x5 (wrap64 (x6 + 1))))) else (none)) else (none)) else (some (x0.toList != ([] : List UInt8)))
def impl_Digits.f (k : Nat) (a0 : ByteArray) : Option (Bool) := impl_Digits.l0 k a0 (a0.size : Int) 0
set_option maxHeartbeats 8000000 in
set_option maxRecDepth 100000 in
theorem impl_Digits.calls (k : Nat) (a0 : ByteArray) (r : Bool) (w : World) (h : impl_Digits.f k a0 = some r) :
  Calls Tryd.prog 70 #[.string a0] w fun e w' => e = .returned (.bool r) ∧ Drawn0 w w' := by
 have H : (impl_Digits.l0 k a0 (a0.size : Int) 0) = some r := h
 clear h
 have H' := Aside0.mk H
 clear H
 go_enter Tryd.func70, Tryd.ntmps70
 go_wp2
 go_loopg [6] k (fun kq v6 w' => ∃ (x6_1 : Int), v6 = .int .i64 x6_1 ∧ Aside0 (impl_Digits.l0 kq a0 (a0.size : Int) x6_1 = some r) ∧ Aside0 (kq ≤ k) ∧ Drawn0 w w')
 case atStart => exact ⟨(0), (by first | rfl | (simp; done) | (simp [*]; done) | (simp [i64_w, IntKind.wrap_u8, e256_]; done) | (simp; generalize ByteArray.toList _ = zz_; cases zz_ <;> rfl)), H', ⟨Nat.le_refl _⟩, by repeat (first | exact Drawn0.refl _ | apply Drawn0.step)⟩
 case round =>
  clear H'
  obtain ⟨x6_1, rfl, HA, HK1, ⟨m1, rfl⟩⟩ := hrel
  cases gk with
  | zero => exact absurd HA.out (by simp [impl_Digits.l0])
  | succ k1 =>
   have H := HA.out
   clear HA
   simp only [impl_Digits.l0] at H
   by_cases c2 : x6_1 < (a0.size : Int)
   ·rw [if_pos c2] at H
    have c2b0 : decide (x6_1 < (a0.size : Int)) = true := decide_eq_true c2
    clear c2
    by_cases c3 : 0 ≤ x6_1
    ·rw [if_pos c3] at H
     have c3b0 : decide (0 ≤ x6_1) = true := decide_eq_true c3
     clear c3
     by_cases c4 : x6_1 < (a0.size : Int)
     ·rw [if_pos c4] at H
      have c4b0 : decide (x6_1 < (a0.size : Int)) = true := decide_eq_true c4
      clear c4
      by_cases c6 : (bt a0 x6_1) < 48
      ·rw [if_pos c6] at H
       have c6b0 : decide ((bt a0 x6_1) < 48) = true := decide_eq_true c6
       clear c6
       obtain rfl := Option.some.inj H
       have p5 : 0 ≤ (x6_1 : Int) := of_decide_eq_true (by first | (with_reducible assumption) | assumption)
       have q5 : x6_1 < (a0.size : Int) := of_decide_eq_true (by first | (with_reducible assumption) | assumption)
       have hx5 := bt_at a0 x6_1
       replace p5 := eq_true p5
       replace q5 := eq_true q5
       go_wp2
       go_ret
       exact ⟨by first | rfl | (simp; done) | (simp [*]; done) | (simp [i64_w, IntKind.wrap_u8, e256_]; done) | (simp; generalize ByteArray.toList _ = zz_; cases zz_ <;> rfl), by repeat (first | exact Drawn0.refl _ | apply Drawn0.step)⟩
      ·rw [if_neg c6] at H
       have c6b0 : decide ((bt a0 x6_1) < 48) = false := decide_eq_false c6
       clear c6
       by_cases c8 : (bt a0 x6_1) > 57
       ·rw [if_pos c8] at H
        have c8b0 : decide (57 < (bt a0 x6_1)) = true := decide_eq_true c8
        clear c8
        obtain rfl := Option.some.inj H
        have p5 : 0 ≤ (x6_1 : Int) := of_decide_eq_true (by first | (with_reducible assumption) | assumption)
        have q5 : x6_1 < (a0.size : Int) := of_decide_eq_true (by first | (with_reducible assumption) | assumption)
        have hx5 := bt_at a0 x6_1
        replace p5 := eq_true p5
        replace q5 := eq_true q5
        have p7 : 0 ≤ (x6_1 : Int) := of_decide_eq_true (by first | (with_reducible assumption) | assumption)
        have q7 : x6_1 < (a0.size : Int) := of_decide_eq_true (by first | (with_reducible assumption) | assumption)
        have hx7 := bt_at a0 x6_1
        replace p7 := eq_true p7
        replace q7 := eq_true q7
        go_wp2
        go_ret
        exact ⟨by first | rfl | (simp; done) | (simp [*]; done) | (simp [i64_w, IntKind.wrap_u8, e256_]; done) | (simp; generalize ByteArray.toList _ = zz_; cases zz_ <;> rfl), by repeat (first | exact Drawn0.refl _ | apply Drawn0.step)⟩
       ·rw [if_neg c8] at H
        have c8b0 : decide (57 < (bt a0 x6_1)) = false := decide_eq_false c8
        clear c8
        have H' := Aside0.mk H
        clear H
        have p5 : 0 ≤ (x6_1 : Int) := of_decide_eq_true (by first | (with_reducible assumption) | assumption)
        have q5 : x6_1 < (a0.size : Int) := of_decide_eq_true (by first | (with_reducible assumption) | assumption)
        have hx5 := bt_at a0 x6_1
        replace p5 := eq_true p5
        replace q5 := eq_true q5
        have p7 : 0 ≤ (x6_1 : Int) := of_decide_eq_true (by first | (with_reducible assumption) | assumption)
        have q7 : x6_1 < (a0.size : Int) := of_decide_eq_true (by first | (with_reducible assumption) | assumption)
        have hx7 := bt_at a0 x6_1
        replace p7 := eq_true p7
        replace q7 := eq_true q7
        go_wp2
        go_roundg k1
        case measure => have := HK1.out; omega
        case rel => exact ⟨(wrap64 (x6_1 + 1)), (by first | rfl | (simp; done) | (simp [*]; done) | (simp [i64_w, IntKind.wrap_u8, e256_]; done) | (simp; generalize ByteArray.toList _ = zz_; cases zz_ <;> rfl)), H', ⟨by have := HK1.out; omega⟩, by repeat (first | exact Drawn0.refl _ | apply Drawn0.step)⟩
     ·rw [if_neg c4] at H
      exact absurd H (by simp)
    ·rw [if_neg c3] at H
     exact absurd H (by simp)
   ·rw [if_neg c2] at H
    have c2b0 : decide (x6_1 < (a0.size : Int)) = false := decide_eq_false c2
    clear c2
    obtain rfl := Option.some.inj H
    go_wp2
    go_ret
    exact ⟨by first | rfl | (simp; done) | (simp [*]; done) | (simp [i64_w, IntKind.wrap_u8, e256_]; done) | (simp; generalize ByteArray.toList _ = zz_; cases zz_ <;> rfl), by repeat (first | exact Drawn0.refl _ | apply Drawn0.step)⟩
end Go.Proofs.YtiglmmofapcefaaDoor.Q
end
section
namespace Go.Proofs.YtiglmmofapcefaaDoor.Q
open Go.RowKit Go.Proofs.YtiglmmofapcefaaDoorW.PrintWords Go.Proofs.YtiglmmofapcefaaDoorW.PrintLast Go.Proofs.YtiglmmofapcefaaDoorW.PrintMore
set_option linter.unusedVariables false
set_option linter.unusedSimpArgs false
def impl_piece.f (l0 : List Int) (a1 : Int) (a2 : Int) : Option (List Int × Bool) :=
  if 0 ≤ a1 ∧ a1 ≤ (l0.length : Int) ∧ 0 ≤ a2 ∧ a2 ≤ (l0.length : Int) - a1 then some ((l0.take (a1 + a2).toNat).drop a1.toNat, true) else some ([], false)
theorem piece_info : (Tryd.prog.info? 5).map (fun i => (i.zero, i.size, i.bytes)) = some (some (.int .u8 0), 1, 1) := by kernel_rfl
set_option maxHeartbeats 4000000 in
set_option maxRecDepth 100000 in
theorem piece_yes (A0 : Option Addr) (c0 : Nat) (l0 : List Int) (a1 : Int) (a2 : Int) (w : World) (hr0 : Kd.C (Kd.int .u8) w A0 l0.length l0) (hc0 : l0.length ≤ c0) (h1 : 0 ≤ a1) (h2 : a1 ≤ (l0.length : Int)) (h3 : 0 ≤ a2) (h4 : a2 ≤ (l0.length : Int) - a1) :
    Calls Tryd.prog 83 #[.slice A0 l0.length c0, .int .i64 a1, .int .i64 a2] w fun e w' => ∃ (A : Option Addr) (c : Nat), e = .returned (.tuple #[.slice A ((l0.take (a1 + a2).toNat).drop a1.toNat).length c, .bool true]) ∧
      (∀ W, Kd.C (Kd.int .u8) W A0 l0.length l0 → Kd.C (Kd.int .u8) W A ((l0.take (a1 + a2).toNat).drop a1.toNat).length ((l0.take (a1 + a2).toNat).drop a1.toNat)) ∧ ((l0.take (a1 + a2).toNat).drop a1.toNat).length ≤ c ∧ Drawn0 w w' := by
  have hm : l0.length ≤ 9223372036854775807 := (Kd.reads_of_C (d := (0 : Int)) (h1 := fun _ => rfl) hr0).2.1
  obtain ⟨i0, hi, hz0, hz1, hz2⟩ := info_parts piece_info
  obtain ⟨A1, hcut, hread, hle⟩ := print_mid_int (P := Tryd.prog) (k := .u8) 29 5 Tryd.underlying29 hi hz1 A0 c0 l0 a1 (a1 + a2) h1 (by omega) (by omega) hc0
  have hin : impl_within.f a1 0 (l0.length : Int) = some true := by unfold impl_within.f; rw [if_pos h1]; simp [h2]
  have d1 : decide (a2 < 0) = false := decide_eq_false (by omega)
  have d2 : decide ((l0.length : Int) - a1 < a2) = false := decide_eq_false (by omega)
  have HC := Aside0.mk hread
  have HL := Aside0.mk hle
  have HI := Aside0.mk hin
  clear hin hread hle hz0 hz1 hz2 hi
  have h5 : a1 + a2 ≤ 9223372036854775807 := by omega
  go_enter Tryd.func83, Tryd.ntmps83
  go_wp2_with (go_at_call 67; (with_reducible refine (impl_within.calls a1 0 (l0.length : Int) true _ HI.out).mono ?_); rintro e w' ⟨rfl, ⟨nd, rfl⟩⟩)
  go_ret2
  exact ⟨A1, c0 - a1.toNat, by first | rfl | (simp; done), fun W hW => Kd.C_of_reads (d := (0 : Int)) (h1 := fun _ => rfl) (HC.out W (Kd.reads_of_C (d := (0 : Int)) (h1 := fun _ => rfl) hW)), HL.out, by repeat (first | exact Drawn0.refl _ | apply Drawn0.step)⟩
set_option maxHeartbeats 4000000 in
set_option maxRecDepth 100000 in
theorem piece_no (A0 : Option Addr) (c0 : Nat) (l0 : List Int) (a1 : Int) (a2 : Int) (w : World) (hr0 : Kd.C (Kd.int .u8) w A0 l0.length l0) (hc0 : l0.length ≤ c0) (hno : ¬ (0 ≤ a1 ∧ a1 ≤ (l0.length : Int) ∧ 0 ≤ a2 ∧ a2 ≤ (l0.length : Int) - a1)) :
    Calls Tryd.prog 83 #[.slice A0 l0.length c0, .int .i64 a1, .int .i64 a2] w fun e w' => e = .returned (.tuple #[.slice none 0 0, .bool false]) ∧ Drawn0 w w' := by
  have hm : l0.length ≤ 9223372036854775807 := (Kd.reads_of_C (d := (0 : Int)) (h1 := fun _ => rfl) hr0).2.1
  by_cases hw : 0 ≤ a1 ∧ a1 ≤ (l0.length : Int)
  · obtain ⟨h1, h2⟩ := hw
    have hin : impl_within.f a1 0 (l0.length : Int) = some true := by unfold impl_within.f; rw [if_pos h1]; simp [h2]
    have HI := Aside0.mk hin
    clear hin
    by_cases h3 : a2 < 0
    · have d1 : decide (a2 < 0) = true := decide_eq_true h3
      clear hno
      go_enter Tryd.func83, Tryd.ntmps83
      go_wp2_with (go_at_call 67; (with_reducible refine (impl_within.calls a1 0 (l0.length : Int) true _ HI.out).mono ?_); rintro e w' ⟨rfl, ⟨nd, rfl⟩⟩)
      go_ret2
      exact ⟨rfl, by repeat (first | exact Drawn0.refl _ | apply Drawn0.step)⟩
    · have d1 : decide (a2 < 0) = false := decide_eq_false h3
      have h4 : (l0.length : Int) - a1 < a2 := by omega
      have d2 : decide ((l0.length : Int) - a1 < a2) = true := decide_eq_true h4
      clear hno
      go_enter Tryd.func83, Tryd.ntmps83
      go_wp2_with (go_at_call 67; (with_reducible refine (impl_within.calls a1 0 (l0.length : Int) true _ HI.out).mono ?_); rintro e w' ⟨rfl, ⟨nd, rfl⟩⟩)
      go_ret2
      exact ⟨rfl, by repeat (first | exact Drawn0.refl _ | apply Drawn0.step)⟩
  · have hin : impl_within.f a1 0 (l0.length : Int) = some false := by
      unfold impl_within.f
      by_cases h1 : 0 ≤ a1
      · rw [if_pos h1]
        have : ¬ a1 ≤ (l0.length : Int) := fun h => hw ⟨h1, h⟩
        simp [this]
      · rw [if_neg h1]
    have HI := Aside0.mk hin
    clear hin hw hno
    go_enter Tryd.func83, Tryd.ntmps83
    go_wp2_with (go_at_call 67; (with_reducible refine (impl_within.calls a1 0 (l0.length : Int) false _ HI.out).mono ?_); rintro e w' ⟨rfl, ⟨nd, rfl⟩⟩)
    go_ret2
    exact ⟨rfl, by repeat (first | exact Drawn0.refl _ | apply Drawn0.step)⟩
theorem impl_piece.calls (A0 : Option Addr) (c0 : Nat) (l0 : List Int) (a1 : Int) (a2 : Int) (r1 : List Int) (r2 : Bool) (w : World) (hr0 : Kd.C (Kd.int .u8) w A0 l0.length l0) (hc0 : l0.length ≤ c0) (h : impl_piece.f l0 a1 a2 = some (r1, r2)) :
    Calls Tryd.prog 83 #[.slice A0 l0.length c0, .int .i64 a1, .int .i64 a2] w fun e w' => ∃ (A : Option Addr) (c : Nat), e = .returned (.tuple #[.slice A r1.length c, .bool r2]) ∧
      (∀ W, Kd.C (Kd.int .u8) W A0 l0.length l0 → Kd.C (Kd.int .u8) W A r1.length r1) ∧ r1.length ≤ c ∧ Drawn0 w w' := by
  unfold impl_piece.f at h
  by_cases ok : 0 ≤ a1 ∧ a1 ≤ (l0.length : Int) ∧ 0 ≤ a2 ∧ a2 ≤ (l0.length : Int) - a1
  · rw [if_pos ok] at h
    simp only [Option.some.injEq, Prod.mk.injEq] at h
    obtain ⟨rfl, rfl⟩ := h
    exact piece_yes A0 c0 l0 a1 a2 w hr0 hc0 ok.1 ok.2.1 ok.2.2.1 ok.2.2.2
  · rw [if_neg ok] at h
    simp only [Option.some.injEq, Prod.mk.injEq] at h
    obtain ⟨rfl, rfl⟩ := h
    refine (piece_no A0 c0 l0 a1 a2 w hr0 hc0 ok).mono ?_
    rintro e w' ⟨rfl, hd⟩
    exact ⟨none, 0, rfl, fun W _ => Kd.C_nil _ _, Nat.le_refl _, hd⟩
end Go.Proofs.YtiglmmofapcefaaDoor.Q
end
section
namespace Go.Proofs.YtiglmmofapcefaaDoor.Q
open Go.RowKit Go.Proofs.YtiglmmofapcefaaDoorW.PrintWords Go.Proofs.YtiglmmofapcefaaDoorW.PrintLast Go.Proofs.YtiglmmofapcefaaDoorW.PrintMore
attribute [local go_sem] max2_int min2_int max_two min_two max_three min_three max_four min_four
set_option linter.unusedVariables false
set_option linter.unusedSimpArgs false
def impl_GetBcd.l0 : Nat → Int → Int → List Int → Bool → List Int → List Int → Int → Int → Option (ByteArray × Int × Bool)
 | 0, _, _, _, _, _, _, _, _ => none
 | k + 1, x1, x2, x9, x10, x11, x27, x28, x29 => if x29 < x28 then (if 0 ≤ x29 then (if x29 < (x27.length : Int) then ((some (([(48 + ((rd x27 x29) / 16)) % 256, (48 + (Go.bits .and .u8 (rd x27 x29) 15)) % 256] : List Int) : List Int)).bind fun y203 => (if x11.length + y203.length < 140737488355328 then (impl_GetBcd.l0 k x1 x2 x9 x10 (x11 ++ y203) x27 x28 (wrap64 (x29 + 1))) else (none))) else (none)) else (none)) else (if x10 = true then ((impl_Digits.f k (strOfNums x11)).bind fun t209 => (if t209 = true then (if (Int.tmod x2 2) = 1 then (if 0 < (x11.length : Int) then (if (rd x11 0) = 48 then (if 0 ≤ (wrap64 ((x11.length : Int) - x2)) then (if (wrap64 ((x11.length : Int) - x2)) ≤ (x11.length : Int) then (some (strOfNums (x11.drop ((wrap64 ((x11.length : Int) - x2)) : Int).toNat), wrap64 (x1 + (x9.length : Int)), true)) else (none)) else (none)) else (some ((⟨#[]⟩ : ByteArray), 0, false))) else (none)) else (if 0 ≤ (wrap64 ((x11.length : Int) - x2)) then (if (wrap64 ((x11.length : Int) - x2)) ≤ (x11.length : Int) then (some (strOfNums (x11.drop ((wrap64 ((x11.length : Int) - x2)) : Int).toNat), wrap64 (x1 + (x9.length : Int)), true)) else (none)) else (none))) else (some ((⟨#[]⟩ : ByteArray), 0, false)))) else (some ((⟨#[]⟩ : ByteArray), 0, false)))
def impl_GetBcd.f (k : Nat) (l0 : List Int) (a1 : Int) (a2 : Int) : Option (ByteArray × Int × Bool) := (impl_within.f a2 1 38).bind fun t194 => (if t194 = true then ((impl_piece.f l0 a1 (wrap64 (Int.tdiv (wrap64 (a2 + 1)) 2))).bind fun bt195 => (impl_GetBcd.l0 k a1 a2 bt195.1 bt195.2 (([] : List Int)) bt195.1 (bt195.1.length : Int) 0)) else (some ((⟨#[]⟩ : ByteArray), 0, false)))
set_option maxHeartbeats 8000000 in
set_option maxRecDepth 100000 in
theorem impl_GetBcd.calls (k : Nat) (A0 : Option Addr) (c0 : Nat) (l0 : List Int) (a1 : Int) (a2 : Int) (r1 : ByteArray) (r2 : Int) (r3 : Bool) (w : World) (hr0 : Kd.C (Kd.int .u8) w A0 l0.length l0) (hc0 : l0.length ≤ c0) (h : impl_GetBcd.f k l0 a1 a2 = some (r1, r2, r3)) :
  Calls Tryd.prog 52 #[.slice A0 l0.length c0, .int .i64 a1, .int .i64 a2] w fun e w' => e = .returned (.tuple #[.string r1, .int .i64 r2, .bool r3]) ∧ Below w.heap.size w w' := by
 have HR0 := Aside0.mk hr0
 have HC0 := Aside0.mk hc0
 clear hr0 hc0
 have HB := Aside0.mk (Below.refl w.heap.size w)
 have H : ((impl_within.f a2 1 38).bind fun t194 => (if t194 = true then ((impl_piece.f l0 a1 (wrap64 (Int.tdiv (wrap64 (a2 + 1)) 2))).bind fun bt195 => (impl_GetBcd.l0 k a1 a2 bt195.1 bt195.2 (([] : List Int)) bt195.1 (bt195.1.length : Int) 0)) else (some ((⟨#[]⟩ : ByteArray), 0, false)))) = some (r1, r2, r3) := h
 clear h
 replace H := Option.bind_eq_some_iff.mp H
 obtain ⟨t194, A40, H⟩ := H
 replace H : (if t194 = true then ((impl_piece.f l0 a1 (wrap64 (Int.tdiv (wrap64 (a2 + 1)) 2))).bind fun bt195 => (impl_GetBcd.l0 k a1 a2 bt195.1 bt195.2 (([] : List Int)) bt195.1 (bt195.1.length : Int) 0)) else (some ((⟨#[]⟩ : ByteArray), 0, false))) = some (r1, r2, r3) := H
 have A4 := Aside0.mk A40
 clear A40
 by_cases c5 : t194 = true
 ·subst c5
  have H1 : ((impl_piece.f l0 a1 (wrap64 (Int.tdiv (wrap64 (a2 + 1)) 2))).bind fun bt195 => (impl_GetBcd.l0 k a1 a2 bt195.1 bt195.2 (([] : List Int)) bt195.1 (bt195.1.length : Int) 0)) = some (r1, r2, r3) := by rw [if_pos rfl] at H; exact H
  clear H
  have H := H1
  clear H1
  replace H := Option.bind_eq_some_iff.mp H
  obtain ⟨⟨t195, t196⟩, A60, H⟩ := H
  replace H : (impl_GetBcd.l0 k a1 a2 t195 t196 (([] : List Int)) t195 (t195.length : Int) 0) = some (r1, r2, r3) := H
  have A6 := Aside0.mk A60
  clear A60
  obtain ⟨y199, hy199⟩ : ∃ y_ : List Int, y_ = (([] : List Int)) := ⟨_, rfl⟩
  replace H : (impl_GetBcd.l0 k a1 a2 t195 t196 y199 t195 (t195.length : Int) 0) = some (r1, r2, r3) := by first | (rw [hy199]; with_reducible exact H) | (have H2_ := (Option.bind_some _ _).symm.trans H; rw [hy199]; with_reducible exact H2_) | (have H2_ := (Option.bind_some _ _).symm.trans H; with_reducible exact H2_) | with_reducible exact H | (rw [hy199]; exact H) | exact H
  have Ny199 := Aside0.mk hy199
  clear hy199
  have H' := Aside0.mk H
  clear H
  go_enter Tryd.func52, Tryd.ntmps52
  go_wp2_with (first | ((with_reducible refine gate_callee (f := 67) rfl ?_); refine goesM_ (some 15) rfl rfl Tryd.func67 (by kernel_rfl) rfl #[.int .i64 a2, .int .i64 1, .int .i64 38] rfl ?_; (with_reducible refine (impl_within.calls a2 1 38 true _ A4.out).mono ?_); rintro e w' ⟨rfl, ⟨nd, rfl⟩⟩; refine ⟨_, rfl, ?_⟩) | ((with_reducible refine gate_callee (f := 83) rfl ?_); refine goesM_ (some 23) rfl rfl Tryd.func83 (by kernel_rfl) rfl #[.slice A0 l0.length c0, .int .i64 a1, .int .i64 (wrap64 (Int.tdiv (wrap64 (a2 + 1)) 2))] rfl ?_; (with_reducible refine (impl_piece.calls _ _ l0 a1 (wrap64 (Int.tdiv (wrap64 (a2 + 1)) 2)) t195 t196 _ ?side1 ?side2 A6.out).mono ?_); (case side1 => repeat (first | exact HR0.out | (with_reducible refine Kd.C_alloc ?_ _) | (with_reducible refine Kd.C_drewN ?_ _) | (with_reducible refine Kd.C_drew ?_))); (case side2 => exact HC0.out); rintro e w' ⟨A90195, c90195, rfl, hr90195_, hc90195_, ⟨nd, rfl⟩⟩; refine ⟨_, rfl, ?_⟩; have HR90195 := Aside0.mk (hr90195_ _ HR0.out); have HC90195 := Aside0.mk hc90195_; clear hr90195_ hc90195_) | ((with_reducible refine gate_dst (N := 26) rfl ?_); refine Kd.R_lit (Kd.int .u8) _ 5 ?hg (N := 26) ?hd (xs := ([] : List Int)) (inner := []) (ok := fun _ => True) (okp := fun _ => True) ?hr ?hp (fun _ hk => hk) trivial (Below.refl _ _) (Nat.le_refl _) (by simp) ?_; (case hd => rfl); (case hg => rfl); (case hr => first | (go_simp; done) | (go_simp; rfl)); (case hp => exact (Reps.none _ _)); intro v200 w7 ho8 hb hg_ hnew_; clear hg_ hnew_; (first | rw [← Ny199.out] at ho8 | (simp only [Int.reduceToNat] at ho8; rw [← Ny199.out] at ho8)); have n0_ := Aside0.mk (Kd.R_lower ho8 (below_size bB)); have n1_ := Aside0.mk (below_step bB hb); clear HB; have HO201 := n0_; have HB := n1_; clear n0_ n1_; clear hb ho8))
  go_loopg [11, 29] k (fun kq v11 v29 w' => ∃ (x11_1 : List Int) (x29_1 : Int), v29 = .int .i64 x29_1 ∧ Aside0 (impl_GetBcd.l0 kq a1 a2 t195 t196 x11_1 t195 (t195.length : Int) x29_1 = some (r1, r2, r3)) ∧ Aside0 (kq ≤ k) ∧ Aside0 (Kd.R (Kd.int .u8) 5 w' w.heap.size (fun _ => True) v11 x11_1) ∧ Aside0 (Below w.heap.size w w'))
  case atStart => exact ⟨(y199), (0), (by first | rfl | (simp; done) | (simp [*]; done) | (simp [i64_w, IntKind.wrap_u8, e256_]; done) | (simp; generalize ByteArray.toList _ = zz_; cases zz_ <;> rfl)), H', ⟨Nat.le_refl _⟩, ⟨rA HO201.out⟩, ⟨bB⟩⟩
  case round =>
   clear H'
   try clear p2
   try clear c5
   try clear c6
   try clear p6
   try clear c8
   obtain ⟨x11_1, x29_1, rfl, HA, HK1, HO_11, HB⟩ := hrel
   cases gk with
   | zero => exact absurd HA.out (by simp [impl_GetBcd.l0])
   | succ k1 =>
    have H := HA.out
    clear HA
    simp only [impl_GetBcd.l0] at H
    by_cases c9 : x29_1 < (t195.length : Int)
    ·rw [if_pos c9] at H
     have c9b0 : decide (x29_1 < (t195.length : Int)) = true := decide_eq_true c9
     clear c9
     by_cases c10 : 0 ≤ x29_1
     ·rw [if_pos c10] at H
      have c10b0 : decide (0 ≤ x29_1) = true := decide_eq_true c10
      clear c10
      by_cases c11 : x29_1 < (t195.length : Int)
      ·rw [if_pos c11] at H
       have c11b0 : decide (x29_1 < (t195.length : Int)) = true := decide_eq_true c11
       clear c11
       obtain ⟨y203, hy203⟩ : ∃ y_ : List Int, y_ = (([(48 + ((rd t195 x29_1) / 16)) % 256, (48 + (Go.bits .and .u8 (rd t195 x29_1) 15)) % 256] : List Int)) := ⟨_, rfl⟩
       replace H : (if x11_1.length + y203.length < 140737488355328 then (impl_GetBcd.l0 k1 a1 a2 t195 t196 (x11_1 ++ y203) t195 (t195.length : Int) (wrap64 (x29_1 + 1))) else (none)) = some (r1, r2, r3) := by first | (rw [hy203]; with_reducible exact H) | (have H2_ := (Option.bind_some _ _).symm.trans H; rw [hy203]; with_reducible exact H2_) | (have H2_ := (Option.bind_some _ _).symm.trans H; with_reducible exact H2_) | with_reducible exact H | (rw [hy203]; exact H) | exact H
       have Ny203 := Aside0.mk hy203
       clear hy203
       by_cases c12 : x11_1.length + y203.length < 140737488355328
       ·rw [if_pos c12] at H
        have LMc12 := Aside0.mk c12
        clear c12
        obtain ⟨y206, hy206⟩ : ∃ y_ : List Int, y_ = (x11_1 ++ y203) := ⟨_, rfl⟩
        replace H : (impl_GetBcd.l0 k1 a1 a2 t195 t196 y206 t195 (t195.length : Int) (wrap64 (x29_1 + 1))) = some (r1, r2, r3) := by first | (rw [hy206]; with_reducible exact H) | (have H2_ := (Option.bind_some _ _).symm.trans H; rw [hy206]; with_reducible exact H2_) | (have H2_ := (Option.bind_some _ _).symm.trans H; with_reducible exact H2_) | with_reducible exact H | (rw [hy206]; exact H) | exact H
        have Ny206 := Aside0.mk hy206
        clear hy206
        have H' := Aside0.mk H
        clear H
        have p202 : 0 ≤ (x29_1 : Int) := of_decide_eq_true (by first | (with_reducible assumption) | assumption)
        have q202 : x29_1 < (t195.length : Int) := of_decide_eq_true (by first | (with_reducible assumption) | assumption)
        obtain ⟨ad202, e202, hx202_0⟩ := Kd.at_int HR90195.out x29_1 p202 q202
        cases e202
        replace hx202_0 := (HB.out.cell (World.block_lt_of_cell? w _ hx202_0)).trans hx202_0
        replace p202 := eq_true p202
        replace q202 := eq_true q202
        go_wp2_with (first | ((with_reducible refine gate_dst (N := 40) rfl ?_); refine Kd.R_lit (Kd.int .u8) _ 5 ?hg (N := 40) ?hd (xs := ([(48 + ((rd t195 x29_1) / 16)) % 256, (48 + (Go.bits .and .u8 (rd t195 x29_1) 15)) % 256] : List Int)) (inner := [.int .u8 ((48 + ((rd t195 x29_1) / 16)) % 256), .int .u8 ((48 + (Go.bits .and .u8 (rd t195 x29_1) 15)) % 256)]) (ok := fun _ => True) (okp := fun _ => True) ?hr ?hp (fun _ hk => hk) trivial (Below.refl _ _) (Nat.le_refl _) (by simp) ?_; (case hd => rfl); (case hg => rfl); (case hr => first | (go_simp; done) | (go_simp; rfl)); (case hp => exact (Reps.one (show Kd.M (Kd.int .u8) _ _ _ ((48 + ((rd t195 x29_1) / 16)) % 256) [.int .u8 ((48 + ((rd t195 x29_1) / 16)) % 256)] from rfl) (Reps.one (show Kd.M (Kd.int .u8) _ _ _ ((48 + (Go.bits .and .u8 (rd t195 x29_1) 15)) % 256) [.int .u8 ((48 + (Go.bits .and .u8 (rd t195 x29_1) 15)) % 256)] from rfl) (Reps.none _ _)))); intro v204 w13 ho14 hb hg_ hnew_; clear hg_ hnew_; (first | rw [← Ny203.out] at ho14 | (simp only [Int.reduceToNat] at ho14; rw [← Ny203.out] at ho14)); have n0_ := Aside0.mk (Kd.R_elder' (rA HO_11.out) (Kd.R_base ho14) hb); have n1_ := Aside0.mk (Kd.R_lower (Kd.R_new' ho14 (Kd.R_lt (rA HO_11.out))) (below_size bB)); have n2_ := Aside0.mk (below_step bB hb); clear HO_11; clear HB; have HO_11 := n0_; have HO205 := n1_; have HB := n2_; clear n0_ n1_ n2_; clear hb ho14; obtain ⟨Ao16, co16, eo16⟩ := Kd.R_slice HO205.out; subst eo16) | ((with_reducible refine gate_builtin (b := .append) (xs := #[.tmp 33, .tmp 40]) rfl ?_); at_builtin; refine Kd.R_append_rows (Kd.int .u8) (w0 := w) w.heap.size rfl (.tmp 33) (.tmp 40) 29 5 (.int .u8 0) 1 rfl Tryd.underlying29 info5 rfl (by decide) (by omega) u11 x11_1 y203 _ _ _ (fun k_ => some k_ ≠ (.slice Ao16 y203.length co16 : Value).ownBlock) (fun _ => False) rfl rfl ?aO ?aR (fun _ _ h => h) (fun _ h => h.elim) ?aF ?aB ?aS ?aL ?_; (case aR => repeat (first | exact (Kd.R_reads' HO205.out).2.2 | (with_reducible refine Kd.C_alloc ?_ _) | (with_reducible refine Kd.C_drewN ?_ _) | (with_reducible refine Kd.C_drew ?_))); (case aB => exact bB); (case aF => exact (fun k_ hk => Kd.fresh' (Kd.R_lt (rA HO205.out)) k_ hk)); (case aO => exact (by (with_reducible repeat (first | apply Kd.R_alloc | apply Kd.R_drewN | apply Kd.R_drew)); exact Kd.R_mono HO_11.out (fun _ hk => hk.2))); (case aS => exact (below_size bB)); (case aL => have := LMc12.out; omega); intro v207 w15 ho hb hg hat; rw [← Ny206.out] at ho; have n0_ := Aside0.mk (Kd.R_after (ok := (fun _ => True)) (rA HO205.out) hg hat); have n1_ := Aside0.mk (hb); have n2_ := Aside0.mk (ho); clear HO205; clear HB; clear HO_11; have HO205 := n0_; have HB := n1_; have HO208 := n2_; clear n0_ n1_ n2_; clear ho hb hg hat))
        go_roundg k1
        case measure => have := HK1.out; omega
        case rel => exact ⟨(y206), (wrap64 (x29_1 + 1)), (by first | rfl | (simp; done) | (simp [*]; done) | (simp [i64_w, IntKind.wrap_u8, e256_]; done) | (simp; generalize ByteArray.toList _ = zz_; cases zz_ <;> rfl)), H', ⟨by have := HK1.out; omega⟩, ⟨by (with_reducible repeat (first | apply Kd.R_alloc | apply Kd.R_drewN | apply Kd.R_drew)); exact Kd.R_mono HO208.out (fun _ hk => trivial)⟩, ⟨bB⟩⟩
       ·rw [if_neg c12] at H
        exact absurd H (by simp)
      ·rw [if_neg c11] at H
       exact absurd H (by simp)
     ·rw [if_neg c10] at H
      exact absurd H (by simp)
    ·rw [if_neg c9] at H
     have c9b0 : decide (x29_1 < (t195.length : Int)) = false := decide_eq_false c9
     clear c9
     by_cases c17 : t196 = true
     ·subst c17
      have H1 : ((impl_Digits.f k1 (strOfNums x11_1)).bind fun t209 => (if t209 = true then (if (Int.tmod a2 2) = 1 then (if 0 < (x11_1.length : Int) then (if (rd x11_1 0) = 48 then (if 0 ≤ (wrap64 ((x11_1.length : Int) - a2)) then (if (wrap64 ((x11_1.length : Int) - a2)) ≤ (x11_1.length : Int) then (some (strOfNums (x11_1.drop ((wrap64 ((x11_1.length : Int) - a2)) : Int).toNat), wrap64 (a1 + (t195.length : Int)), true)) else (none)) else (none)) else (some ((⟨#[]⟩ : ByteArray), 0, false))) else (none)) else (if 0 ≤ (wrap64 ((x11_1.length : Int) - a2)) then (if (wrap64 ((x11_1.length : Int) - a2)) ≤ (x11_1.length : Int) then (some (strOfNums (x11_1.drop ((wrap64 ((x11_1.length : Int) - a2)) : Int).toNat), wrap64 (a1 + (t195.length : Int)), true)) else (none)) else (none))) else (some ((⟨#[]⟩ : ByteArray), 0, false)))) = some (r1, r2, r3) := by rw [if_pos rfl] at H; exact H
      clear H
      have H := H1
      clear H1
      replace H := Option.bind_eq_some_iff.mp H
      obtain ⟨t209, A180, H⟩ := H
      replace H : (if t209 = true then (if (Int.tmod a2 2) = 1 then (if 0 < (x11_1.length : Int) then (if (rd x11_1 0) = 48 then (if 0 ≤ (wrap64 ((x11_1.length : Int) - a2)) then (if (wrap64 ((x11_1.length : Int) - a2)) ≤ (x11_1.length : Int) then (some (strOfNums (x11_1.drop ((wrap64 ((x11_1.length : Int) - a2)) : Int).toNat), wrap64 (a1 + (t195.length : Int)), true)) else (none)) else (none)) else (some ((⟨#[]⟩ : ByteArray), 0, false))) else (none)) else (if 0 ≤ (wrap64 ((x11_1.length : Int) - a2)) then (if (wrap64 ((x11_1.length : Int) - a2)) ≤ (x11_1.length : Int) then (some (strOfNums (x11_1.drop ((wrap64 ((x11_1.length : Int) - a2)) : Int).toNat), wrap64 (a1 + (t195.length : Int)), true)) else (none)) else (none))) else (some ((⟨#[]⟩ : ByteArray), 0, false))) = some (r1, r2, r3) := H
      have A18 := Aside0.mk A180
      clear A180
      by_cases c19 : t209 = true
      ·subst c19
       have H1 : (if (Int.tmod a2 2) = 1 then (if 0 < (x11_1.length : Int) then (if (rd x11_1 0) = 48 then (if 0 ≤ (wrap64 ((x11_1.length : Int) - a2)) then (if (wrap64 ((x11_1.length : Int) - a2)) ≤ (x11_1.length : Int) then (some (strOfNums (x11_1.drop ((wrap64 ((x11_1.length : Int) - a2)) : Int).toNat), wrap64 (a1 + (t195.length : Int)), true)) else (none)) else (none)) else (some ((⟨#[]⟩ : ByteArray), 0, false))) else (none)) else (if 0 ≤ (wrap64 ((x11_1.length : Int) - a2)) then (if (wrap64 ((x11_1.length : Int) - a2)) ≤ (x11_1.length : Int) then (some (strOfNums (x11_1.drop ((wrap64 ((x11_1.length : Int) - a2)) : Int).toNat), wrap64 (a1 + (t195.length : Int)), true)) else (none)) else (none))) = some (r1, r2, r3) := by rw [if_pos rfl] at H; exact H
       clear H
       have H := H1
       clear H1
       by_cases c20 : (Int.tmod a2 2) = 1
       ·rw [if_pos c20] at H
        have c20b0 : ((Int.tmod a2 2) == 1) = true := beq_iff_eq.mpr c20
        have c20b1 : ((Int.tmod a2 2) != 1) = false := bne_eq_false_iff_eq.mpr c20
        clear c20
        by_cases c21 : 0 < (x11_1.length : Int)
        ·rw [if_pos c21] at H
         have c21b0 : decide (0 < (x11_1.length : Int)) = true := decide_eq_true c21
         have c21b1 : decide (0 < x11_1.length) = true := decide_eq_true (by omega)
         clear c21
         by_cases c22 : (rd x11_1 0) = 48
         ·rw [if_pos c22] at H
          have c22b0 : ((rd x11_1 0) == 48) = true := beq_iff_eq.mpr c22
          have c22b1 : ((rd x11_1 0) != 48) = false := bne_eq_false_iff_eq.mpr c22
          clear c22
          obtain ⟨ji23, hji23⟩ : ∃ j_ : Int, (wrap64 ((x11_1.length : Int) - a2)) = j_ := ⟨_, rfl⟩
          replace H : (if 0 ≤ (ji23) then (if (ji23) ≤ (x11_1.length : Int) then (some (strOfNums (x11_1.drop ((ji23) : Int).toNat), wrap64 (a1 + (t195.length : Int)), true)) else (none)) else (none)) = some (r1, r2, r3) := by first | (rw [hji23] at H; exact H) | (simp only [hji23] at H ⊢; exact H)
          (try rw [hji23] at A18)
          have hji23w : (IntKind.i64.wrap ((x11_1.length : Int) - a2)) = ji23 := (i64_w _).trans hji23
          by_cases c24 : 0 ≤ (ji23)
          ·rw [if_pos c24] at H
           have c24b0 := eq_true c24
           have c24b1 : decide (0 ≤ (ji23)) = true := decide_eq_true c24
           clear c24
           by_cases c25 : (ji23) ≤ (x11_1.length : Int)
           ·rw [if_pos c25] at H
            have c25b0 := eq_true c25
            have c25b1 : decide ((ji23) ≤ (x11_1.length : Int)) = true := decide_eq_true c25
            clear c25
            obtain ⟨y211, hy211⟩ : ∃ y_ : List Int, y_ = (x11_1.drop ((ji23) : Int).toNat) := ⟨_, rfl⟩
            replace H : (some (strOfNums y211, wrap64 (a1 + (t195.length : Int)), true)) = some (r1, r2, r3) := by first | (rw [hy211]; with_reducible exact H) | (have H2_ := (Option.bind_some _ _).symm.trans H; rw [hy211]; with_reducible exact H2_) | (have H2_ := (Option.bind_some _ _).symm.trans H; with_reducible exact H2_) | with_reducible exact H | (rw [hy211]; exact H) | exact H
            have Ny211 := Aside0.mk hy211
            clear hy211
            simp only [Option.some.injEq, Prod.mk.injEq] at H
            obtain ⟨rfl, rfl, rfl⟩ := H
            have hcv26 := own_string (P := Tryd.prog) Tryd.underlying29 Tryd.underlying5 Tryd.underlying9 (Kd.own_of_R HO_11.out)
            go_wp2_with (first | (go_at_call 70; (with_reducible refine (impl_Digits.calls k1 (strOfNums x11_1) true _ A18.out).mono ?_); rintro e w' ⟨rfl, ⟨nd, rfl⟩⟩; obtain ⟨Ao27, co27, eo27⟩ := Kd.R_slice HO_11.out; subst eo27; have p210 : 0 ≤ (0 : Int) := (by omega); have q210 : 0 < (x11_1.length : Int) := of_decide_eq_true (by first | (with_reducible assumption) | assumption); obtain ⟨ad210, e210, hx210_0⟩ := Kd.at_int (Kd.R_reads' HO_11.out).2.2 0 p210 q210; cases e210; have qi210 : (0 < x11_1.length) = True := eq_true (by omega); (try rw [show ((0 : Int)).toNat = 0 from rfl] at hx210_0); (try rw [Addr.add_zero'] at hx210_0); replace p210 := eq_true p210; replace q210 := eq_true q210; have q28 : ((ji23) : Int) ≤ ((x11_1.length : Int) : Int) := of_decide_eq_true (by first | (with_reducible assumption) | assumption); obtain ⟨i028, hi028, _, hsz28, _⟩ := info_parts info5; have hroom28 : x11_1.length ≤ co27 := (Kd.R_reads' HO_11.out).2.1; have hC28 : Kd.C (Kd.int .u8) _ (some ad210) x11_1.length x11_1 := (Kd.R_reads' HO_11.out).2.2; have q028 : (0 : Int) ≤ ((ji23) : Int) := of_decide_eq_true (by first | (with_reducible assumption) | assumption); have hcut28 := cut_from (P := Tryd.prog) 29 5 .i64 Tryd.underlying29 hi028 1 hsz28 (some ad210) x11_1.length co27 (ji23) q028 q28; have hr28 := Kd.C_drop (m := ((ji23) : Int).toNat) (c := co27) hC28 (by omega) hroom28; obtain ⟨A28, hA28⟩ : ∃ A1, A1 = (if co27 = ((ji23) : Int).toNat then (some ad210) else ((some ad210) : Option Addr).map (·.add (((ji23) : Int).toNat * 1))) := ⟨_, rfl⟩; obtain ⟨c28, hc28⟩ : ∃ c1, c1 = co27 - ((ji23) : Int).toNat := ⟨_, rfl⟩; have hy28 : y211.length = x11_1.length - ((ji23) : Int).toNat := (by rw [Ny211.out, List.length_drop] <;> omega); rw [show (x11_1).drop ((ji23) : Int).toNat = y211 from Ny211.out.symm] at hr28; replace hr28 : Kd.C (Kd.int .u8) _ A28 y211.length y211 := (by rw [hA28]; exact hr28); rw [← hy28, ← hA28, ← hc28] at hcut28; have HR214 := Aside0.mk hr28; have HC214 := Aside0.mk (show y211.length ≤ c28 from by rw [hy28, hc28]; exact Nat.sub_le_sub_right hroom28 _); clear hr28 hC28 hroom28 hi028 hsz28 hc28; have KY28 := Aside0.mk hy28; have KA28 := Aside0.mk hA28; clear hy28 hA28; have KL28 := Aside0.mk (show ((ji23) : Int).toNat ≤ x11_1.length from by omega); replace q28 := eq_true q28; have hcv29 := Kd.C_string (P := Tryd.prog) (A := A28) (c := c28) Tryd.underlying29 Tryd.underlying5 Tryd.underlying9 (by repeat (first | (with_reducible exact HR214.out) | (with_reducible refine Kd.C_alloc ?_ _) | (with_reducible refine Kd.C_drewN ?_ _) | (with_reducible refine Kd.C_drew ?_) | exact HR214.out)); (try (have hcvd30 := fun (nq_ : Nat) => Kd.C_string (P := Tryd.prog) (A := A28) (c := c28) Tryd.underlying29 Tryd.underlying5 Tryd.underlying9 (Kd.C_drewN HR214.out nq_)))))
            go_ret3
            exact ⟨by first | rfl | (simp [errW_none, errW_some] <;> rfl) | (simp only [← hji23]; first | rfl | (simp [errW_none, errW_some] <;> rfl) | (simp [i64_w, IntKind.wrap_u8] <;> rfl)) | (simp [*, errW_none, errW_some] <;> rfl), bB⟩
           ·rw [if_neg c25] at H
            exact absurd H (by simp)
          ·rw [if_neg c24] at H
           exact absurd H (by simp)
         ·rw [if_neg c22] at H
          have c22b0 : ((rd x11_1 0) == 48) = false := beq_eq_false_iff_ne.mpr c22
          have c22b1 : ((rd x11_1 0) != 48) = true := bne_iff_ne.mpr c22
          simp only [Option.some.injEq, Prod.mk.injEq] at H
          obtain ⟨rfl, rfl, rfl⟩ := H
          have hcv31 := own_string (P := Tryd.prog) Tryd.underlying29 Tryd.underlying5 Tryd.underlying9 (Kd.own_of_R HO_11.out)
          go_wp2_with (first | (go_at_call 70; (with_reducible refine (impl_Digits.calls k1 (strOfNums x11_1) true _ A18.out).mono ?_); rintro e w' ⟨rfl, ⟨nd, rfl⟩⟩; obtain ⟨Ao32, co32, eo32⟩ := Kd.R_slice HO_11.out; subst eo32; have p210 : 0 ≤ (0 : Int) := (by omega); have q210 : 0 < (x11_1.length : Int) := of_decide_eq_true (by first | (with_reducible assumption) | assumption); obtain ⟨ad210, e210, hx210_0⟩ := Kd.at_int (Kd.R_reads' HO_11.out).2.2 0 p210 q210; cases e210; have qi210 : (0 < x11_1.length) = True := eq_true (by omega); (try rw [show ((0 : Int)).toNat = 0 from rfl] at hx210_0); (try rw [Addr.add_zero'] at hx210_0); replace p210 := eq_true p210; replace q210 := eq_true q210))
          go_ret3
          exact ⟨by first | rfl | (simp [errW_none, errW_some] <;> rfl) | (simp [*, errW_none, errW_some] <;> rfl), bB⟩
        ·rw [if_neg c21] at H
         exact absurd H (by simp)
       ·rw [if_neg c20] at H
        have c20b0 : ((Int.tmod a2 2) == 1) = false := beq_eq_false_iff_ne.mpr c20
        have c20b1 : ((Int.tmod a2 2) != 1) = true := bne_iff_ne.mpr c20
        obtain ⟨ji33, hji33⟩ : ∃ j_ : Int, (wrap64 ((x11_1.length : Int) - a2)) = j_ := ⟨_, rfl⟩
        replace H : (if 0 ≤ (ji33) then (if (ji33) ≤ (x11_1.length : Int) then (some (strOfNums (x11_1.drop ((ji33) : Int).toNat), wrap64 (a1 + (t195.length : Int)), true)) else (none)) else (none)) = some (r1, r2, r3) := by first | (rw [hji33] at H; exact H) | (simp only [hji33] at H ⊢; exact H)
        (try rw [hji33] at A18)
        have hji33w : (IntKind.i64.wrap ((x11_1.length : Int) - a2)) = ji33 := (i64_w _).trans hji33
        by_cases c34 : 0 ≤ (ji33)
        ·rw [if_pos c34] at H
         have c34b0 := eq_true c34
         have c34b1 : decide (0 ≤ (ji33)) = true := decide_eq_true c34
         clear c34
         by_cases c35 : (ji33) ≤ (x11_1.length : Int)
         ·rw [if_pos c35] at H
          have c35b0 := eq_true c35
          have c35b1 : decide ((ji33) ≤ (x11_1.length : Int)) = true := decide_eq_true c35
          clear c35
          obtain ⟨y215, hy215⟩ : ∃ y_ : List Int, y_ = (x11_1.drop ((ji33) : Int).toNat) := ⟨_, rfl⟩
          replace H : (some (strOfNums y215, wrap64 (a1 + (t195.length : Int)), true)) = some (r1, r2, r3) := by first | (rw [hy215]; with_reducible exact H) | (have H2_ := (Option.bind_some _ _).symm.trans H; rw [hy215]; with_reducible exact H2_) | (have H2_ := (Option.bind_some _ _).symm.trans H; with_reducible exact H2_) | with_reducible exact H | (rw [hy215]; exact H) | exact H
          have Ny215 := Aside0.mk hy215
          clear hy215
          simp only [Option.some.injEq, Prod.mk.injEq] at H
          obtain ⟨rfl, rfl, rfl⟩ := H
          have hcv36 := own_string (P := Tryd.prog) Tryd.underlying29 Tryd.underlying5 Tryd.underlying9 (Kd.own_of_R HO_11.out)
          go_wp2_with (first | (go_at_call 70; (with_reducible refine (impl_Digits.calls k1 (strOfNums x11_1) true _ A18.out).mono ?_); rintro e w' ⟨rfl, ⟨nd, rfl⟩⟩; obtain ⟨Ao37, co37, eo37⟩ := Kd.R_slice HO_11.out; subst eo37; have q38 : ((ji33) : Int) ≤ ((x11_1.length : Int) : Int) := of_decide_eq_true (by first | (with_reducible assumption) | assumption); obtain ⟨i038, hi038, _, hsz38, _⟩ := info_parts info5; have hroom38 : x11_1.length ≤ co37 := (Kd.R_reads' HO_11.out).2.1; have hC38 : Kd.C (Kd.int .u8) _ Ao37 x11_1.length x11_1 := (Kd.R_reads' HO_11.out).2.2; have q038 : (0 : Int) ≤ ((ji33) : Int) := of_decide_eq_true (by first | (with_reducible assumption) | assumption); have hcut38 := cut_from (P := Tryd.prog) 29 5 .i64 Tryd.underlying29 hi038 1 hsz38 Ao37 x11_1.length co37 (ji33) q038 q38; have hr38 := Kd.C_drop (m := ((ji33) : Int).toNat) (c := co37) hC38 (by omega) hroom38; obtain ⟨A38, hA38⟩ : ∃ A1, A1 = (if co37 = ((ji33) : Int).toNat then Ao37 else (Ao37 : Option Addr).map (·.add (((ji33) : Int).toNat * 1))) := ⟨_, rfl⟩; obtain ⟨c38, hc38⟩ : ∃ c1, c1 = co37 - ((ji33) : Int).toNat := ⟨_, rfl⟩; have hy38 : y215.length = x11_1.length - ((ji33) : Int).toNat := (by rw [Ny215.out, List.length_drop] <;> omega); rw [show (x11_1).drop ((ji33) : Int).toNat = y215 from Ny215.out.symm] at hr38; replace hr38 : Kd.C (Kd.int .u8) _ A38 y215.length y215 := (by rw [hA38]; exact hr38); rw [← hy38, ← hA38, ← hc38] at hcut38; have HR218 := Aside0.mk hr38; have HC218 := Aside0.mk (show y215.length ≤ c38 from by rw [hy38, hc38]; exact Nat.sub_le_sub_right hroom38 _); clear hr38 hC38 hroom38 hi038 hsz38 hc38; have KY38 := Aside0.mk hy38; have KA38 := Aside0.mk hA38; clear hy38 hA38; have KL38 := Aside0.mk (show ((ji33) : Int).toNat ≤ x11_1.length from by omega); replace q38 := eq_true q38; have hcv39 := Kd.C_string (P := Tryd.prog) (A := A38) (c := c38) Tryd.underlying29 Tryd.underlying5 Tryd.underlying9 (by repeat (first | (with_reducible exact HR218.out) | (with_reducible refine Kd.C_alloc ?_ _) | (with_reducible refine Kd.C_drewN ?_ _) | (with_reducible refine Kd.C_drew ?_) | exact HR218.out)); (try (have hcvd40 := fun (nq_ : Nat) => Kd.C_string (P := Tryd.prog) (A := A38) (c := c38) Tryd.underlying29 Tryd.underlying5 Tryd.underlying9 (Kd.C_drewN HR218.out nq_)))))
          go_ret3
          exact ⟨by first | rfl | (simp [errW_none, errW_some] <;> rfl) | (simp only [← hji33]; first | rfl | (simp [errW_none, errW_some] <;> rfl) | (simp [i64_w, IntKind.wrap_u8] <;> rfl)) | (simp [*, errW_none, errW_some] <;> rfl), bB⟩
         ·rw [if_neg c35] at H
          exact absurd H (by simp)
        ·rw [if_neg c34] at H
         exact absurd H (by simp)
      ·replace c19 := Bool.eq_false_iff.mpr c19
       subst c19
       have H1 : (some ((⟨#[]⟩ : ByteArray), 0, false)) = some (r1, r2, r3) := by rw [if_neg (show ¬ (false = true) by decide)] at H; exact H
       clear H
       have H := H1
       clear H1
       simp only [Option.some.injEq, Prod.mk.injEq] at H
       obtain ⟨rfl, rfl, rfl⟩ := H
       have hcv41 := own_string (P := Tryd.prog) Tryd.underlying29 Tryd.underlying5 Tryd.underlying9 (Kd.own_of_R HO_11.out)
       go_wp2_with (first | (go_at_call 70; (with_reducible refine (impl_Digits.calls k1 (strOfNums x11_1) false _ A18.out).mono ?_); rintro e w' ⟨rfl, ⟨nd, rfl⟩⟩))
       go_ret3
       exact ⟨by first | rfl | (simp [errW_none, errW_some] <;> rfl) | (simp [*, errW_none, errW_some] <;> rfl), bB⟩
     ·replace c17 := Bool.eq_false_iff.mpr c17
      subst c17
      have H1 : (some ((⟨#[]⟩ : ByteArray), 0, false)) = some (r1, r2, r3) := by rw [if_neg (show ¬ (false = true) by decide)] at H; exact H
      clear H
      have H := H1
      clear H1
      simp only [Option.some.injEq, Prod.mk.injEq] at H
      obtain ⟨rfl, rfl, rfl⟩ := H
      go_wp2
      go_ret3
      exact ⟨by first | rfl | (simp [errW_none, errW_some] <;> rfl) | (simp [*, errW_none, errW_some] <;> rfl), bB⟩
 ·replace c5 := Bool.eq_false_iff.mpr c5
  subst c5
  have H1 : (some ((⟨#[]⟩ : ByteArray), 0, false)) = some (r1, r2, r3) := by rw [if_neg (show ¬ (false = true) by decide)] at H; exact H
  clear H
  have H := H1
  clear H1
  simp only [Option.some.injEq, Prod.mk.injEq] at H
  obtain ⟨rfl, rfl, rfl⟩ := H
  go_enter Tryd.func52, Tryd.ntmps52
  go_wp2_with (first | ((with_reducible refine gate_callee (f := 67) rfl ?_); refine goesM_ (some 15) rfl rfl Tryd.func67 (by kernel_rfl) rfl #[.int .i64 a2, .int .i64 1, .int .i64 38] rfl ?_; (with_reducible refine (impl_within.calls a2 1 38 false _ A4.out).mono ?_); rintro e w' ⟨rfl, ⟨nd, rfl⟩⟩; refine ⟨_, rfl, ?_⟩))
  go_ret3
  exact ⟨by first | rfl | (simp [errW_none, errW_some] <;> rfl) | (simp [*, errW_none, errW_some] <;> rfl), bB⟩
end Go.Proofs.YtiglmmofapcefaaDoor.Q
end
section
namespace Go.Proofs
open Go.Shelf
def Tryd.lays172_ren : Go.Shelf.Ren := ⟨fun | 172 => 71 | 244 => 113 | 245 => 114 | 247 => 129 | 279 => 130 | 280 => 131 | 281 => 132 | 282 => 133 | 287 => 141 | 316 => 142 | 171 => 66 | 205 => 143 | 321 => 149 | 322 => 150 | 243 => 106 | 246 => 123 | 283 => 135 | 284 => 136 | 285 => 137 | 286 => 138 | 129 => 145 | 317 => 144 | 318 => 146 | 319 => 147 | 320 => 148 | 337 => 151 | 338 => 152 | n => n, fun | 9 => 9 | 3 => 3 | 75 => 74 | 76 => 75 | 4 => 4 | 5 => 5 | 167 => 129 | 37 => 29 | 0 => 0 | 85 => 130 | 2 => 2 | 168 => 132 | 53 => 125 | 175 => 143 | 46 => 94 | 210 => 147 | 127 => 128 | 145 => 156 | 143 => 154 | 21 => 21 | 171 => 135 | 173 => 138 | 212 => 150 | 51 => 122 | 20 => 20 | 213 => 151 | 232 => 158 | 233 => 159 | 80 => 112 | n => n, fun | 15 => 0 | 16 => 1 | 17 => 3 | 18 => 4 | 19 => 5 | n => n⟩
theorem Tryd.lays172 : Go.Proofs.Lays.n172 Tryd.prog Tryd.lays172_ren := {
  mixed := by kernel_rfl
  f129 := Tryd.func145.trans (congrArg some (by kernel_rfl))
  f171 := Tryd.func66.trans (congrArg some (by kernel_rfl))
  f172 := Tryd.func71.trans (congrArg some (by kernel_rfl))
  f205 := Tryd.func143.trans (congrArg some (by kernel_rfl))
  f243 := Tryd.func106.trans (congrArg some (by kernel_rfl))
  f244 := Tryd.func113.trans (congrArg some (by kernel_rfl))
  f245 := Tryd.func114.trans (congrArg some (by kernel_rfl))
  f246 := Tryd.func123.trans (congrArg some (by kernel_rfl))
  f247 := Tryd.func129.trans (congrArg some (by kernel_rfl))
  f279 := Tryd.func130.trans (congrArg some (by kernel_rfl))
  f280 := Tryd.func131.trans (congrArg some (by kernel_rfl))
  f281 := Tryd.func132.trans (congrArg some (by kernel_rfl))
  f282 := Tryd.func133.trans (congrArg some (by kernel_rfl))
  f283 := Tryd.func135.trans (congrArg some (by kernel_rfl))
  f284 := Tryd.func136.trans (congrArg some (by kernel_rfl))
  f285 := Tryd.func137.trans (congrArg some (by kernel_rfl))
  f286 := Tryd.func138.trans (congrArg some (by kernel_rfl))
  f287 := Tryd.func141.trans (congrArg some (by kernel_rfl))
  f316 := Tryd.func142.trans (congrArg some (by kernel_rfl))
  f317 := Tryd.func144.trans (congrArg some (by kernel_rfl))
  f318 := Tryd.func146.trans (congrArg some (by kernel_rfl))
  f319 := Tryd.func147.trans (congrArg some (by kernel_rfl))
  f320 := Tryd.func148.trans (congrArg some (by kernel_rfl))
  f321 := Tryd.func149.trans (congrArg some (by kernel_rfl))
  f322 := Tryd.func150.trans (congrArg some (by kernel_rfl))
  f337 := Tryd.func151.trans (congrArg some (by kernel_rfl))
  f338 := Tryd.func152.trans (congrArg some (by kernel_rfl))
  t0 := Tryd.underlying0
  a0 := Tryd.isAgg0
  z0 := Tryd.sizeOf0
  v0 := Tryd.zeroValue0
  t2 := Tryd.underlying2
  a2 := Tryd.isAgg2
  z2 := Tryd.sizeOf2
  v2 := Tryd.zeroValue2
  t3 := Tryd.underlying3
  a3 := Tryd.isAgg3
  z3 := Tryd.sizeOf3
  v3 := Tryd.zeroValue3
  t4 := Tryd.underlying4
  a4 := Tryd.isAgg4
  z4 := Tryd.sizeOf4
  v4 := Tryd.zeroValue4
  t5 := Tryd.underlying5
  a5 := Tryd.isAgg5
  z5 := Tryd.sizeOf5
  v5 := Tryd.zeroValue5
  t9 := Tryd.underlying9
  a9 := Tryd.isAgg9
  z9 := Tryd.sizeOf9
  v9 := Tryd.zeroValue9
  t20 := Tryd.underlying20
  a20 := Tryd.isAgg20
  z20 := Tryd.sizeOf20
  v20 := Tryd.zeroValue20
  t21 := Tryd.underlying21
  a21 := Tryd.isAgg21
  z21 := Tryd.sizeOf21
  v21 := Tryd.zeroValue21
  t37 := Tryd.underlying29
  a37 := Tryd.isAgg29
  z37 := Tryd.sizeOf29
  v37 := Tryd.zeroValue29
  t46 := Tryd.underlying94
  a46 := Tryd.isAgg94
  z46 := Tryd.sizeOf94
  v46 := Tryd.zeroValue94
  t51 := Tryd.underlying122
  a51 := Tryd.isAgg122
  z51 := Tryd.sizeOf122
  v51 := Tryd.zeroValue122
  t53 := Tryd.underlying125
  a53 := Tryd.isAgg125
  z53 := Tryd.sizeOf125
  v53 := Tryd.zeroValue125
  t75 := Tryd.underlying74
  a75 := Tryd.isAgg74
  z75 := Tryd.sizeOf74
  v75 := Tryd.zeroValue74
  t76 := Tryd.underlying75
  a76 := Tryd.isAgg75
  z76 := Tryd.sizeOf75
  v76 := Tryd.zeroValue75
  t85 := Tryd.underlying130
  a85 := Tryd.isAgg130
  z85 := Tryd.sizeOf130
  v85 := Tryd.zeroValue130
  t127 := Tryd.underlying128
  a127 := Tryd.isAgg128
  z127 := Tryd.sizeOf128
  v127 := Tryd.zeroValue128
  t143 := Tryd.underlying154
  a143 := Tryd.isAgg154
  z143 := Tryd.sizeOf154
  v143 := Tryd.zeroValue154
  t145 := Tryd.underlying156
  a145 := Tryd.isAgg156
  z145 := Tryd.sizeOf156
  v145 := Tryd.zeroValue156
  t167 := Tryd.underlying129
  a167 := Tryd.isAgg129
  z167 := Tryd.sizeOf129
  v167 := Tryd.zeroValue129
  t168 := Tryd.underlying132
  a168 := Tryd.isAgg132
  z168 := Tryd.sizeOf132
  v168 := Tryd.zeroValue132
  t171 := Tryd.underlying135
  a171 := Tryd.isAgg135
  z171 := Tryd.sizeOf135
  v171 := Tryd.zeroValue135
  t173 := Tryd.underlying138
  a173 := Tryd.isAgg138
  z173 := Tryd.sizeOf138
  v173 := Tryd.zeroValue138
  t175 := Tryd.underlying143
  a175 := Tryd.isAgg143
  z175 := Tryd.sizeOf143
  v175 := Tryd.zeroValue143
  t210 := Tryd.underlying147
  a210 := Tryd.isAgg147
  z210 := Tryd.sizeOf147
  v210 := Tryd.zeroValue147
  t212 := Tryd.underlying150
  a212 := Tryd.isAgg150
  z212 := Tryd.sizeOf150
  v212 := Tryd.zeroValue150
  t213 := Tryd.underlying151
  a213 := Tryd.isAgg151
  z213 := Tryd.sizeOf151
  t232 := Tryd.underlying158
  a232 := Tryd.isAgg158
  z232 := Tryd.sizeOf158
  v232 := Tryd.zeroValue158
  t233 := Tryd.underlying159
  a233 := Tryd.isAgg159
  z233 := Tryd.sizeOf159
  v233 := Tryd.zeroValue159
  g15 := by kernel_rfl
  g16 := by kernel_rfl
  g17 := by kernel_rfl
  g18 := by kernel_rfl
  g19 := by kernel_rfl }
open Go.RowKit in
theorem Tryd.strconv_Atoi (s : ByteArray) (n : Int) (hl : s.size ≤ 18) (h : Lib.atoi s.data.toList = some n) (w : World) :
    Calls Tryd.prog 71 #[.string s] w fun e w' => e = .returned (.tuple #[.int .i64 n, .nilIface]) ∧ ∃ t, w' = Lib.bytesWorld w 5 t := Any.strconv_Atoi Tryd.lays172 s n hl h w
end Go.Proofs
end
section
namespace Go.Proofs.YtiglmmofapcefaaDoor.Q
open Go.RowKit
theorem gPow : Tryd.prog.globalNamed "internal/strconv.uint64pow10" = some 3 := by kernel_rfl
def GLW (w : World) : Prop := Lib.TabIs Tryd.prog w "internal/strconv.uint64pow10" .u64 Lib.pow10Tab
theorem GLW_below {w W : World} (h : GLW w) (b : Below w.heap.size w W) : GLW W := Joins.tab_stays gPow h b (Nat.le_refl _)
end Go.Proofs.YtiglmmofapcefaaDoor.Q
end
section
namespace Go.Proofs.YtiglmmofapcefaaDoor.Q
open Go.RowKit Go.Proofs.YtiglmmofapcefaaDoorW.PrintWords Go.Proofs.YtiglmmofapcefaaDoorW.PrintLast Go.Proofs.YtiglmmofapcefaaDoorW.PrintMore
set_option linter.unusedVariables false
set_option linter.unusedSimpArgs false
theorem w64 {i : Int} (h0 : 0 ≤ i) (h : i ≤ 140737488351232) : wrap64 (i + 1) = i + 1 := by
  unfold wrap64
  omega
theorem drop_bt (s : ByteArray) (n : Nat) (h : n < s.size) : (bytesOf s).drop n = bt s (n : Int) :: (bytesOf s).drop (n + 1) := by
  have hl : n < (bytesOf s).length := by rw [bytesOf_length]; exact h
  rw [List.drop_eq_getElem_cons hl]
  congr 1
  rw [← rd_bytesOf]
  unfold rd
  simp [List.getD, hl]
theorem drop_rd (l : List Int) (n : Nat) (h : n < l.length) : l.drop n = rd l (n : Int) :: l.drop (n + 1) := by
  rw [List.drop_eq_getElem_cons h]
  congr 1
  unfold rd
  simp [List.getD, h]
theorem wf_i64 {a : Int} (h : (Lit.int .i64 a).wf = true) : -9223372036854775808 ≤ a ∧ a ≤ 9223372036854775807 := by
  simp only [Lit.wf, IntKind.min, IntKind.max, IntKind.signed, IntKind.bits, Bool.and_eq_true, decide_eq_true_eq, if_true] at h
  omega
theorem wf_u8 {a : Int} (h : (Lit.int .u8 a).wf = true) : 0 ≤ a ∧ a ≤ 255 := by
  simp [Lit.wf, IntKind.min, IntKind.max, IntKind.signed, IntKind.bits] at h
  omega
theorem w64id {i : Int} (h0 : -9223372036854775808 ≤ i) (h : i ≤ 9223372036854775807) : wrap64 i = i := by
  unfold wrap64
  omega
theorem rd_nat (l : List Int) (n : Nat) (h : n < l.length) : rd l (n : Int) = l[n] := by
  unfold rd
  simp [List.getD, h]
theorem rd_mem (l : List Int) (n : Nat) (h : n < l.length) : rd l (n : Int) ∈ l := by
  rw [rd_nat l n h]
  exact List.getElem_mem h
theorem later {α : Type} {g : Nat → Option α} {r : α} {k0 : Nat} (hm : ∀ k, LeO (g k) (g (k + 1))) (h : g k0 = some r) (k : Nat) (hk : k0 ≤ k) : g k = some r :=
  at_rounds hm hk h
def isDig (c : Int) : Bool := decide (48 ≤ c) && decide (c ≤ 57)
def digs (l : List Int) : Bool := l.all isDig && !l.isEmpty
theorem spec_Digits_l (s : ByteArray) (hs : s.size ≤ 140737488351232) : ∀ (d n k : Nat), n + d = s.size → d < k →
    spec_Digits.l0 k s (n : Int) = some (((bytesOf s).drop n).all isDig && decide (0 < s.size)) := by
  intro d
  induction d with
  | zero =>
    intro n k hd hk
    obtain ⟨k, rfl⟩ : ∃ m, k = m + 1 := ⟨k - 1, by omega⟩
    simp only [spec_Digits.l0]
    rw [if_neg (by omega), List.drop_of_length_le (by rw [bytesOf_length]; omega)]
    simp
  | succ d ih =>
    intro n k hd hk
    obtain ⟨k, rfl⟩ : ∃ m, k = m + 1 := ⟨k - 1, by omega⟩
    simp only [spec_Digits.l0]
    rw [if_pos (by omega), if_pos (by omega), drop_bt s n (by omega), List.all_cons]
    by_cases h1 : bt s (n : Int) < 48
    · rw [if_pos h1]
      have e : isDig (bt s (n : Int)) = false := by unfold isDig; simp; omega
      rw [e]; simp
    · rw [if_neg h1]
      by_cases h2 : bt s (n : Int) > 57
      · rw [if_pos h2]
        have e : isDig (bt s (n : Int)) = false := by unfold isDig; simp; omega
        rw [e]; simp
      · rw [if_neg h2, w64 (by omega) (by omega)]
        have e : isDig (bt s (n : Int)) = true := by unfold isDig; simp; omega
        rw [e, Bool.true_and]
        exact ih (n + 1) k (by omega) (by omega)
theorem digs_eq (s : ByteArray) : ((bytesOf s).all isDig && decide (0 < s.size)) = digs (bytesOf s) := by
  unfold digs
  congr 1
  rw [← bytesOf_length s]
  cases bytesOf s <;> simp
theorem spec_Digits_at (s : ByteArray) (hs : s.size ≤ 140737488351232) (k : Nat) (hk : s.size < k) : spec_Digits.f k s = some (digs (bytesOf s)) := by
  unfold spec_Digits.f
  have h := spec_Digits_l s hs s.size 0 k (by omega) hk
  rw [← digs_eq]
  simpa using h
theorem toList_ne (s : ByteArray) : (s.toList != ([] : List UInt8)) = decide (0 < s.size) := by
  rw [ByteArray.toList_eq, ← data_length s]
  cases s.data.toList <;> simp
theorem impl_Digits_l (s : ByteArray) (hs : s.size ≤ 140737488351232) : ∀ (d n k : Nat), n + d = s.size → d < k →
    impl_Digits.l0 k s (s.size : Int) (n : Int) = some (((bytesOf s).drop n).all isDig && decide (0 < s.size)) := by
  intro d
  induction d with
  | zero =>
    intro n k hd hk
    obtain ⟨k, rfl⟩ : ∃ m, k = m + 1 := ⟨k - 1, by omega⟩
    simp only [impl_Digits.l0]
    rw [if_neg (by omega), List.drop_of_length_le (by rw [bytesOf_length]; omega), toList_ne]
    simp
  | succ d ih =>
    intro n k hd hk
    obtain ⟨k, rfl⟩ : ∃ m, k = m + 1 := ⟨k - 1, by omega⟩
    simp only [impl_Digits.l0]
    rw [if_pos (by omega), if_pos (by omega), if_pos (by omega), drop_bt s n (by omega), List.all_cons]
    by_cases h1 : bt s (n : Int) < 48
    · rw [if_pos h1]
      have e : isDig (bt s (n : Int)) = false := by unfold isDig; simp; omega
      rw [e]; simp
    · rw [if_neg h1]
      by_cases h2 : bt s (n : Int) > 57
      · rw [if_pos h2]
        have e : isDig (bt s (n : Int)) = false := by unfold isDig; simp; omega
        rw [e]; simp
      · rw [if_neg h2, w64 (by omega) (by omega)]
        have e : isDig (bt s (n : Int)) = true := by unfold isDig; simp; omega
        rw [e, Bool.true_and]
        exact ih (n + 1) k (by omega) (by omega)
theorem impl_Digits_at (s : ByteArray) (hs : s.size ≤ 140737488351232) (k : Nat) (hk : s.size < k) : impl_Digits.f k s = some (digs (bytesOf s)) := by
  unfold impl_Digits.f
  have h := impl_Digits_l s hs s.size 0 k (by omega) hk
  rw [← digs_eq]
  simpa using h
def natFrom (a : Nat) : List Int → Nat
  | [] => a
  | c :: t => natFrom (a * 10 + (c - 48).toNat) t
def impl_Narrow.f (a0 : ByteArray) : Option (Int × Bool) :=
  if a0.size ≤ 140737488351232 then some (if digs (bytesOf a0) = true ∧ a0.size ≤ 18 then ((natFrom 0 (bytesOf a0) : Nat), true) else (0, false)) else none
theorem decFrom_digs (l : List UInt8) : ∀ (a : Nat), (l.map fun b => (b.toNat : Int)).all isDig = true → Lib.decFrom a l = some (natFrom a (l.map fun b => (b.toNat : Int))) := by
  induction l with
  | nil => intro a _; rfl
  | cons b t ih =>
    intro a h
    simp only [List.map_cons, List.all_cons, Bool.and_eq_true] at h
    obtain ⟨h1, h2⟩ := h
    unfold isDig at h1
    simp only [Bool.and_eq_true, decide_eq_true_eq] at h1
    have e : Lib.digitVal b = some (b.toNat - 48) := by unfold Lib.digitVal; rw [if_pos (by omega)]
    have e2 : ((b.toNat : Int) - 48).toNat = b.toNat - 48 := by omega
    rw [Lib.decFrom, e, List.map_cons, natFrom, e2]
    exact ih _ h2
theorem atoi_digs (s : ByteArray) (h : digs (bytesOf s) = true) : Lib.atoi s.data.toList = some ((natFrom 0 (bytesOf s) : Nat) : Int) := by
  unfold bytesOf at h ⊢
  generalize s.data.toList = l at h ⊢
  cases l with
  | nil => simp [digs] at h
  | cons b r =>
    have hall : ((b :: r).map fun b => (b.toNat : Int)).all isDig = true := by
      unfold digs at h
      simp only [Bool.and_eq_true] at h
      exact h.1
    have hb : 48 ≤ b.toNat := by
      have := hall
      simp only [List.map_cons, List.all_cons, Bool.and_eq_true] at this
      have h1 := this.1
      unfold isDig at h1
      simp only [Bool.and_eq_true, decide_eq_true_eq] at h1
      omega
    have n1 : (b == 45) = false := by
      apply beq_false_of_ne
      rintro rfl
      exact absurd hb (by decide)
    have n2 : (b == 43) = false := by
      apply beq_false_of_ne
      rintro rfl
      exact absurd hb (by decide)
    unfold Lib.atoi
    simp only [n1, n2, Bool.false_eq_true, if_false]
    unfold Lib.decNat
    rw [if_neg (by simp), decFrom_digs _ 0 hall]
    rfl
set_option maxHeartbeats 4000000 in
set_option maxRecDepth 100000 in
theorem impl_Narrow.calls (a0 : ByteArray) (r1 : Int) (r2 : Bool) (w : World) (hG : GLW w) (h : impl_Narrow.f a0 = some (r1, r2)) :
    Calls Tryd.prog 22 #[.string a0] w fun e w' => e = .returned (.tuple #[.int .i64 r1, .bool r2]) ∧ Below w.heap.size w w' := by
  unfold impl_Narrow.f at h
  by_cases hs : a0.size ≤ 140737488351232
  · rw [if_pos hs] at h
    have hd := impl_Digits_at a0 hs (a0.size + 1) (by omega)
    by_cases q1 : digs (bytesOf a0) = true
    · rw [q1] at hd
      have HD := Aside0.mk hd
      clear hd
      by_cases q2 : a0.size ≤ 18
      · have hat := Aside0.mk (atoi_digs a0 q1)
        rw [if_pos ⟨q1, q2⟩] at h
        simp only [Option.some.injEq, Prod.mk.injEq] at h
        obtain ⟨rfl, rfl⟩ := h
        have d1 : decide (18 < (a0.size : Int)) = false := decide_eq_false (by omega)
        go_enter Tryd.func22, Tryd.ntmps22
        go_wp2_with (first | (go_at_call 70; (with_reducible refine (impl_Digits.calls _ a0 true _ HD.out).mono ?_); rintro e w' ⟨rfl, ⟨nd, rfl⟩⟩) | (go_at_call 71; (with_reducible refine (Tryd.strconv_Atoi a0 _ q2 hat.out _).mono ?_); rintro e w' ⟨rfl, ⟨td, rfl⟩⟩))
        go_ret2
        exact ⟨by first | rfl | (simp; done), (Joins.below_draws _ w nd).trans (Joins.below_bytesWorld _ _ _ _ (Nat.le_refl _))⟩
      · rw [if_neg (fun q => q2 q.2)] at h
        simp only [Option.some.injEq, Prod.mk.injEq] at h
        obtain ⟨rfl, rfl⟩ := h
        have d1 : decide (18 < (a0.size : Int)) = true := decide_eq_true (by omega)
        go_enter Tryd.func22, Tryd.ntmps22
        go_wp2_with (go_at_call 70; (with_reducible refine (impl_Digits.calls _ a0 true _ HD.out).mono ?_); rintro e w' ⟨rfl, ⟨nd, rfl⟩⟩)
        go_ret2
        exact ⟨by first | rfl | (simp; done), Joins.below_draws _ w nd⟩
    · have q1' : digs (bytesOf a0) = false := by simpa using q1
      rw [q1'] at hd
      have HD := Aside0.mk hd
      clear hd
      rw [if_neg (fun q => q1 q.1)] at h
      simp only [Option.some.injEq, Prod.mk.injEq] at h
      obtain ⟨rfl, rfl⟩ := h
      go_enter Tryd.func22, Tryd.ntmps22
      go_wp2_with (go_at_call 70; (with_reducible refine (impl_Digits.calls _ a0 false _ HD.out).mono ?_); rintro e w' ⟨rfl, ⟨nd, rfl⟩⟩)
      go_ret2
      exact ⟨by first | rfl | (simp; done), Joins.below_draws _ w nd⟩
  · rw [if_neg hs] at h
    exact absurd h (by simp)
end Go.Proofs.YtiglmmofapcefaaDoor.Q
end
section
namespace Go.Proofs.YtiglmmofapcefaaDoor.Q
open Go.RowKit Go.Proofs.YtiglmmofapcefaaDoorW.PrintWords Go.Proofs.YtiglmmofapcefaaDoorW.PrintLast Go.Proofs.YtiglmmofapcefaaDoorW.PrintMore
attribute [local go_sem] max2_int min2_int max_two min_two max_three min_three max_four min_four
set_option linter.unusedVariables false
set_option linter.unusedSimpArgs false
def impl_GetLen.f (k : Nat) (l0 : List Int) (a1 : Int) (a2 : Int) : Option (Int × Int × Bool) := (impl_within.f a2 2 3).bind fun t219 => (if t219 = true then ((impl_GetBcd.f k l0 a1 a2).bind fun bt220 => (if bt220.2.2 = true then ((impl_Narrow.f bt220.1).bind fun bt223 => (some (bt223.1, bt220.2.1, true))) else (some (0, 0, false)))) else (some (0, 0, false)))
set_option maxHeartbeats 8000000 in
set_option maxRecDepth 100000 in
theorem impl_GetLen.calls (k : Nat) (A0 : Option Addr) (c0 : Nat) (l0 : List Int) (a1 : Int) (a2 : Int) (r1 : Int) (r2 : Int) (r3 : Bool) (w : World) (hr0 : Kd.C (Kd.int .u8) w A0 l0.length l0) (hc0 : l0.length ≤ c0) (hG : GLW w) (h : impl_GetLen.f k l0 a1 a2 = some (r1, r2, r3)) :
  Calls Tryd.prog 32 #[.slice A0 l0.length c0, .int .i64 a1, .int .i64 a2] w fun e w' => e = .returned (.tuple #[.int .i64 r1, .int .i64 r2, .bool r3]) ∧ Below w.heap.size w w' := by
 have HR0 := Aside0.mk hr0
 have HC0 := Aside0.mk hc0
 clear hr0 hc0
 have HB := Aside0.mk (Below.refl w.heap.size w)
 have HG := Aside0.mk hG
 clear hG
 have H : ((impl_within.f a2 2 3).bind fun t219 => (if t219 = true then ((impl_GetBcd.f k l0 a1 a2).bind fun bt220 => (if bt220.2.2 = true then ((impl_Narrow.f bt220.1).bind fun bt223 => (some (bt223.1, bt220.2.1, true))) else (some (0, 0, false)))) else (some (0, 0, false)))) = some (r1, r2, r3) := h
 clear h
 replace H := Option.bind_eq_some_iff.mp H
 obtain ⟨t219, A40, H⟩ := H
 replace H : (if t219 = true then ((impl_GetBcd.f k l0 a1 a2).bind fun bt220 => (if bt220.2.2 = true then ((impl_Narrow.f bt220.1).bind fun bt223 => (some (bt223.1, bt220.2.1, true))) else (some (0, 0, false)))) else (some (0, 0, false))) = some (r1, r2, r3) := H
 have A4 := Aside0.mk A40
 clear A40
 by_cases c5 : t219 = true
 ·subst c5
  have H1 : ((impl_GetBcd.f k l0 a1 a2).bind fun bt220 => (if bt220.2.2 = true then ((impl_Narrow.f bt220.1).bind fun bt223 => (some (bt223.1, bt220.2.1, true))) else (some (0, 0, false)))) = some (r1, r2, r3) := by rw [if_pos rfl] at H; exact H
  clear H
  have H := H1
  clear H1
  replace H := Option.bind_eq_some_iff.mp H
  obtain ⟨⟨t220, t221, t222⟩, A60, H⟩ := H
  replace H : (if t222 = true then ((impl_Narrow.f t220).bind fun bt223 => (some (bt223.1, t221, true))) else (some (0, 0, false))) = some (r1, r2, r3) := H
  have A6 := Aside0.mk A60
  clear A60
  by_cases c7 : t222 = true
  ·subst c7
   have H1 : ((impl_Narrow.f t220).bind fun bt223 => (some (bt223.1, t221, true))) = some (r1, r2, r3) := by rw [if_pos rfl] at H; exact H
   clear H
   have H := H1
   clear H1
   replace H := Option.bind_eq_some_iff.mp H
   obtain ⟨⟨t223, t224⟩, A80, H⟩ := H
   replace H : (some (t223, t221, true)) = some (r1, r2, r3) := H
   have A8 := Aside0.mk A80
   clear A80
   simp only [Option.some.injEq, Prod.mk.injEq] at H
   obtain ⟨rfl, rfl, rfl⟩ := H
   go_enter Tryd.func32, Tryd.ntmps32
   go_wp2_with (first | ((with_reducible refine gate_callee (f := 67) rfl ?_); refine goesM_ (some 15) rfl rfl Tryd.func67 (by kernel_rfl) rfl #[.int .i64 a2, .int .i64 2, .int .i64 3] rfl ?_; (with_reducible refine (impl_within.calls a2 2 3 true _ A4.out).mono ?_); rintro e w' ⟨rfl, ⟨nd, rfl⟩⟩; refine ⟨_, rfl, ?_⟩) | ((with_reducible refine gate_callee (f := 52) rfl ?_); refine goesM_ (some 21) rfl rfl Tryd.func52 (by kernel_rfl) rfl #[.slice A0 l0.length c0, .int .i64 a1, .int .i64 a2] rfl ?_; (with_reducible refine (impl_GetBcd.calls k _ _ l0 a1 a2 t220 t221 true _ ?side1 ?side2 A6.out).mono ?_); (case side1 => repeat (first | exact HR0.out | (with_reducible refine Kd.C_alloc ?_ _) | (with_reducible refine Kd.C_drewN ?_ _) | (with_reducible refine Kd.C_drew ?_))); (case side2 => exact HC0.out); rintro e w9 ⟨rfl, hb⟩; refine ⟨_, rfl, ?_⟩; have n0_ := Aside0.mk (below_step bB hb); clear HB; have HB := n0_; clear n0_; (try clear hb); (try clear hb2); (try clear hk); (try clear hi)) | ((with_reducible refine gate_callee (f := 22) rfl ?_); refine goesM_ (some 29) rfl rfl Tryd.func22 (by kernel_rfl) rfl #[.string t220] rfl ?_; (with_reducible refine (impl_Narrow.calls t220 t223 t224 _ ?side1 A8.out).mono ?_); (case side1 => exact GLW_below HG.out bB); rintro e w10 ⟨rfl, hb⟩; refine ⟨_, rfl, ?_⟩; have n0_ := Aside0.mk (below_step bB hb); clear HB; have HB := n0_; clear n0_; (try clear hb); (try clear hb2); (try clear hk); (try clear hi)))
   go_ret3
   exact ⟨by first | rfl | (simp [errW_none, errW_some] <;> rfl) | (simp [*, errW_none, errW_some] <;> rfl), bB⟩
  ·replace c7 := Bool.eq_false_iff.mpr c7
   subst c7
   have H1 : (some (0, 0, false)) = some (r1, r2, r3) := by rw [if_neg (show ¬ (false = true) by decide)] at H; exact H
   clear H
   have H := H1
   clear H1
   simp only [Option.some.injEq, Prod.mk.injEq] at H
   obtain ⟨rfl, rfl, rfl⟩ := H
   go_enter Tryd.func32, Tryd.ntmps32
   go_wp2_with (first | ((with_reducible refine gate_callee (f := 67) rfl ?_); refine goesM_ (some 15) rfl rfl Tryd.func67 (by kernel_rfl) rfl #[.int .i64 a2, .int .i64 2, .int .i64 3] rfl ?_; (with_reducible refine (impl_within.calls a2 2 3 true _ A4.out).mono ?_); rintro e w' ⟨rfl, ⟨nd, rfl⟩⟩; refine ⟨_, rfl, ?_⟩) | ((with_reducible refine gate_callee (f := 52) rfl ?_); refine goesM_ (some 21) rfl rfl Tryd.func52 (by kernel_rfl) rfl #[.slice A0 l0.length c0, .int .i64 a1, .int .i64 a2] rfl ?_; (with_reducible refine (impl_GetBcd.calls k _ _ l0 a1 a2 t220 t221 false _ ?side1 ?side2 A6.out).mono ?_); (case side1 => repeat (first | exact HR0.out | (with_reducible refine Kd.C_alloc ?_ _) | (with_reducible refine Kd.C_drewN ?_ _) | (with_reducible refine Kd.C_drew ?_))); (case side2 => exact HC0.out); rintro e w11 ⟨rfl, hb⟩; refine ⟨_, rfl, ?_⟩; have n0_ := Aside0.mk (below_step bB hb); clear HB; have HB := n0_; clear n0_; (try clear hb); (try clear hb2); (try clear hk); (try clear hi)))
   go_ret3
   exact ⟨by first | rfl | (simp [errW_none, errW_some] <;> rfl) | (simp [*, errW_none, errW_some] <;> rfl), bB⟩
 ·replace c5 := Bool.eq_false_iff.mpr c5
  subst c5
  have H1 : (some (0, 0, false)) = some (r1, r2, r3) := by rw [if_neg (show ¬ (false = true) by decide)] at H; exact H
  clear H
  have H := H1
  clear H1
  simp only [Option.some.injEq, Prod.mk.injEq] at H
  obtain ⟨rfl, rfl, rfl⟩ := H
  go_enter Tryd.func32, Tryd.ntmps32
  go_wp2_with (first | ((with_reducible refine gate_callee (f := 67) rfl ?_); refine goesM_ (some 15) rfl rfl Tryd.func67 (by kernel_rfl) rfl #[.int .i64 a2, .int .i64 2, .int .i64 3] rfl ?_; (with_reducible refine (impl_within.calls a2 2 3 false _ A4.out).mono ?_); rintro e w' ⟨rfl, ⟨nd, rfl⟩⟩; refine ⟨_, rfl, ?_⟩))
  go_ret3
  exact ⟨by first | rfl | (simp [errW_none, errW_some] <;> rfl) | (simp [*, errW_none, errW_some] <;> rfl), bB⟩
attribute [local go_sem] max2_int min2_int max_two min_two max_three min_three max_four min_four
set_option linter.unusedVariables false
set_option linter.unusedSimpArgs false
def laws_FnExactGetLen.j0 : Nat → List Int → List Int → Bool → Option (Bool)
 | 0, _, _, _ => none
 | k + 1, x0, x10, x48 => if x48 = true then (some false) else ((laws_toByteS.f k x0).bind fun t237 => ((laws_eqByteS.f k x10 t237).bind fun t240 => (if t240 = true then (some true) else (some false))))
def laws_FnExactGetLen.f (k : Nat) (l0 : List Int) (a1 : Int) (a2 : Int) : Option (Bool) := if (l0.length : Int) > 1048576 then (some true) else ((laws_toByteS.f k l0).bind fun t225 => ((spec_GetLen.f k t225 a1 a2).bind fun bt228 => ((laws_toByteS.f k l0).bind fun t231 => ((impl_GetLen.f k t231 a1 a2).bind fun bt234 => (if bt234.1 = bt228.1 then (if bt234.2.1 = bt228.2.1 then (laws_FnExactGetLen.j0 k l0 t231 (bt234.2.2 != bt228.2.2)) else (laws_FnExactGetLen.j0 k l0 t231 true)) else (laws_FnExactGetLen.j0 k l0 t231 true))))))
set_option maxHeartbeats 8000000 in
set_option maxRecDepth 100000 in
theorem laws_FnExactGetLen.calls (k : Nat) (A0 : Option Addr) (c0 : Nat) (l0 : List Int) (a1 : Int) (a2 : Int) (r : Bool) (w : World) (hr0 : Kd.C (Kd.int .u8) w A0 l0.length l0) (hc0 : l0.length ≤ c0) (hG : GLW w) (hr_ : r = true) (h : laws_FnExactGetLen.f k l0 a1 a2 = some r) :
  Calls Tryd.prog 8 #[.slice A0 l0.length c0, .int .i64 a1, .int .i64 a2] w fun e w' => e = .returned (.bool r) ∧ Below w.heap.size w w' := by
 have HR0 := Aside0.mk hr0
 have HC0 := Aside0.mk hc0
 clear hr0 hc0
 have HB := Aside0.mk (Below.refl w.heap.size w)
 have HG := Aside0.mk hG
 clear hG
 have H : (if (l0.length : Int) > 1048576 then (some true) else ((laws_toByteS.f k l0).bind fun t225 => ((spec_GetLen.f k t225 a1 a2).bind fun bt228 => ((laws_toByteS.f k l0).bind fun t231 => ((impl_GetLen.f k t231 a1 a2).bind fun bt234 => (if bt234.1 = bt228.1 then (if bt234.2.1 = bt228.2.1 then (laws_FnExactGetLen.j0 k l0 t231 (bt234.2.2 != bt228.2.2)) else (laws_FnExactGetLen.j0 k l0 t231 true)) else (laws_FnExactGetLen.j0 k l0 t231 true))))))) = some r := h
 clear h
 by_cases c4 : (l0.length : Int) > 1048576
 ·rw [if_pos c4] at H
  have c4b0 : decide (1048576 < (l0.length : Int)) = true := decide_eq_true c4
  have c4b1 : decide (1048576 < l0.length) = true := decide_eq_true (by omega)
  clear c4
  obtain rfl := Option.some.inj H
  go_enter Tryd.func8, Tryd.ntmps8
  go_wp2
  go_ret
  exact ⟨by first | rfl | (simp [errW_none, errW_some] <;> rfl) | (simp [*, errW_none, errW_some] <;> rfl), bB⟩
 ·rw [if_neg c4] at H
  have c4b0 : decide (1048576 < (l0.length : Int)) = false := decide_eq_false c4
  have c4b1 : decide (1048576 < l0.length) = false := decide_eq_false (by omega)
  clear c4
  replace H := Option.bind_eq_some_iff.mp H
  obtain ⟨t225, A50, H⟩ := H
  replace H : ((spec_GetLen.f k t225 a1 a2).bind fun bt228 => ((laws_toByteS.f k l0).bind fun t231 => ((impl_GetLen.f k t231 a1 a2).bind fun bt234 => (if bt234.1 = bt228.1 then (if bt234.2.1 = bt228.2.1 then (laws_FnExactGetLen.j0 k l0 t231 (bt234.2.2 != bt228.2.2)) else (laws_FnExactGetLen.j0 k l0 t231 true)) else (laws_FnExactGetLen.j0 k l0 t231 true))))) = some r := H
  have A5 := Aside0.mk A50
  clear A50
  replace H := Option.bind_eq_some_iff.mp H
  obtain ⟨⟨t228, t229, t230⟩, A60, H⟩ := H
  replace H : ((laws_toByteS.f k l0).bind fun t231 => ((impl_GetLen.f k t231 a1 a2).bind fun bt234 => (if bt234.1 = t228 then (if bt234.2.1 = t229 then (laws_FnExactGetLen.j0 k l0 t231 (bt234.2.2 != t230)) else (laws_FnExactGetLen.j0 k l0 t231 true)) else (laws_FnExactGetLen.j0 k l0 t231 true)))) = some r := H
  have A6 := Aside0.mk A60
  clear A60
  replace H := Option.bind_eq_some_iff.mp H
  obtain ⟨t231, A70, H⟩ := H
  replace H : ((impl_GetLen.f k t231 a1 a2).bind fun bt234 => (if bt234.1 = t228 then (if bt234.2.1 = t229 then (laws_FnExactGetLen.j0 k l0 t231 (bt234.2.2 != t230)) else (laws_FnExactGetLen.j0 k l0 t231 true)) else (laws_FnExactGetLen.j0 k l0 t231 true))) = some r := H
  have A7 := Aside0.mk A70
  clear A70
  replace H := Option.bind_eq_some_iff.mp H
  obtain ⟨⟨t234, t235, t236⟩, A80, H⟩ := H
  replace H : (if t234 = t228 then (if t235 = t229 then (laws_FnExactGetLen.j0 k l0 t231 (t236 != t230)) else (laws_FnExactGetLen.j0 k l0 t231 true)) else (laws_FnExactGetLen.j0 k l0 t231 true)) = some r := H
  have A8 := Aside0.mk A80
  clear A80
  have HC9 := Aside0.mk H
  clear H
  go_enter Tryd.func8, Tryd.ntmps8
  go_upto_region 6 with (first | ((with_reducible refine gate_callee (f := 31) rfl ?_); refine goesM_ (some 19) rfl rfl Tryd.func31 (by kernel_rfl) rfl #[.slice A0 l0.length c0] rfl ?_; (with_reducible refine (laws_toByteS.calls k _ _ l0 t225 _ ?side1 ?side2 A5.out).mono ?_); (case side1 => repeat (first | exact HR0.out | (with_reducible refine Kd.C_alloc ?_ _) | (with_reducible refine Kd.C_drewN ?_ _) | (with_reducible refine Kd.C_drew ?_))); (case side2 => exact HC0.out); rintro e w10 ⟨v226, rfl, ho0, hb⟩; refine ⟨_, rfl, ?_⟩; have n0_ := Aside0.mk (Kd.R_lower ho0 (below_size bB)); have n1_ := Aside0.mk (below_step bB hb); clear HB; have HO227 := n0_; have HB := n1_; clear n0_ n1_; (try clear hb); (try clear hb2); (try clear hk); (try clear hi); (try clear ho0); obtain ⟨Ao11, co11, eo11⟩ := Kd.R_slice HO227.out; subst eo11) | ((with_reducible refine gate_callee (f := 30) rfl ?_); refine goesM_ (some 22) rfl rfl Tryd.func30 (by kernel_rfl) rfl #[.slice Ao11 t225.length co11, .int .i64 a1, .int .i64 a2] rfl ?_; (with_reducible refine (spec_GetLen.calls k _ _ t225 a1 a2 t228 t229 t230 _ ?side1 ?side2 A6.out).mono ?_); (case side1 => repeat (first | exact (Kd.R_reads' HO227.out).2.2 | (with_reducible refine Kd.C_alloc ?_ _) | (with_reducible refine Kd.C_drewN ?_ _) | (with_reducible refine Kd.C_drew ?_))); (case side2 => exact (Kd.R_reads' HO227.out).2.1); rintro e w12 ⟨rfl, hb⟩; refine ⟨_, rfl, ?_⟩; have n0_ := Aside0.mk (Kd.R_below (rA HO227.out) hb); have n1_ := Aside0.mk (below_step bB hb); clear HO227; clear HB; have HO227 := n0_; have HB := n1_; clear n0_ n1_; (try clear hb); (try clear hb2); (try clear hk); (try clear hi)) | ((with_reducible refine gate_callee (f := 31) rfl ?_); refine goesM_ (some 27) rfl rfl Tryd.func31 (by kernel_rfl) rfl #[.slice A0 l0.length c0] rfl ?_; (with_reducible refine (laws_toByteS.calls k _ _ l0 t231 _ ?side1 ?side2 A7.out).mono ?_); (case side1 => repeat (first | exact (Kd.C_below HR0.out HB.out) | (with_reducible refine Kd.C_alloc ?_ _) | (with_reducible refine Kd.C_drewN ?_ _) | (with_reducible refine Kd.C_drew ?_))); (case side2 => exact HC0.out); rintro e w13 ⟨v232, rfl, ho0, hb⟩; refine ⟨_, rfl, ?_⟩; have n0_ := Aside0.mk (Kd.R_elder' (rA HO227.out) (Kd.R_base ho0) hb); have n1_ := Aside0.mk (Kd.R_lower (Kd.R_new' ho0 (Kd.R_lt (rA HO227.out))) (below_size bB)); have n2_ := Aside0.mk (below_step bB hb); clear HO227; clear HB; have HO227 := n0_; have HO233 := n1_; have HB := n2_; clear n0_ n1_ n2_; (try clear hb); (try clear hb2); (try clear hk); (try clear hi); (try clear ho0); obtain ⟨Ao14, co14, eo14⟩ := Kd.R_slice HO233.out; subst eo14) | ((with_reducible refine gate_callee (f := 32) rfl ?_); refine goesM_ (some 32) rfl rfl Tryd.func32 (by kernel_rfl) rfl #[.slice Ao14 t231.length co14, .int .i64 a1, .int .i64 a2] rfl ?_; (with_reducible refine (impl_GetLen.calls k _ _ t231 a1 a2 t234 t235 t236 _ ?side1 ?side2 ?side3 A8.out).mono ?_); (case side1 => repeat (first | exact (Kd.R_reads' HO233.out).2.2 | (with_reducible refine Kd.C_alloc ?_ _) | (with_reducible refine Kd.C_drewN ?_ _) | (with_reducible refine Kd.C_drew ?_))); (case side2 => exact (Kd.R_reads' HO233.out).2.1); (case side3 => exact GLW_below HG.out bB); rintro e w15 ⟨rfl, hb⟩; refine ⟨_, rfl, ?_⟩; have n0_ := Aside0.mk (Kd.R_below (rA HO227.out) hb); have n1_ := Aside0.mk (Kd.R_below (rA HO233.out) hb); have n2_ := Aside0.mk (below_step bB hb); clear HO227; clear HO233; clear HB; have HO227 := n0_; have HO233 := n1_; have HB := n2_; clear n0_ n1_ n2_; (try clear hb); (try clear hb2); (try clear hk); (try clear hi)))
  (try simp only [Act.put, List.setIfInBounds_toArray, List.set_cons_zero, List.set_cons_succ])
  go_cut [48] (fun v48 wc => ∃ (kq : Nat) (x48_8 : Bool), v48 = .bool x48_8 ∧ Aside0 (laws_FnExactGetLen.j0 kq l0 t231 x48_8 = some r) ∧ Aside0 (kq ≤ k) ∧ Aside0 (Kd.R (Kd.int .u8) 5 wc w.heap.size (fun _ => True) (.slice Ao14 t231.length co14) t231) ∧ Aside0 (Below w.heap.size w wc))
  case first =>
   have H := HC9.out
   clear HC9
   by_cases c16 : t234 = t228
   ·rw [if_pos c16] at H
    have c16b0 : (t234 == t228) = true := beq_iff_eq.mpr c16
    have c16b1 : (t234 != t228) = false := bne_eq_false_iff_eq.mpr c16
    clear c16
    (first | rw [c16b0] | (simp only [i64_w, i32_w]; rw [c16b0]) | rw [c16b1] | (simp only [c16b1]) | skip)
    by_cases c17 : t235 = t229
    ·rw [if_pos c17] at H
     have c17b0 : (t235 == t229) = true := beq_iff_eq.mpr c17
     have c17b1 : (t235 != t229) = false := bne_eq_false_iff_eq.mpr c17
     clear c17
     have H' := Aside0.mk H
     clear H
     go_wp2
     go_meet
     case rel => exact ⟨_, ((t236 != t230)), (by first | rfl | (simp; done) | (simp [*]; done) | (simp [i64_w, IntKind.wrap_u8, e256_]; done) | (simp; generalize ByteArray.toList _ = zz_; cases zz_ <;> rfl)), H', ⟨by first | omega | exact Nat.le_refl _⟩, ⟨by (with_reducible repeat (first | apply Kd.R_alloc | apply Kd.R_drewN | apply Kd.R_drew)); exact Kd.R_mono HO233.out (fun _ hk => trivial)⟩, ⟨bB⟩⟩
    ·rw [if_neg c17] at H
     have c17b0 : (t235 == t229) = false := beq_eq_false_iff_ne.mpr c17
     have c17b1 : (t235 != t229) = true := bne_iff_ne.mpr c17
     have H' := Aside0.mk H
     clear H
     go_wp2
     go_meet
     case rel => exact ⟨_, (true), (by first | rfl | (simp; done) | (simp [*]; done) | (simp [i64_w, IntKind.wrap_u8, e256_]; done) | (simp; generalize ByteArray.toList _ = zz_; cases zz_ <;> rfl)), H', ⟨by first | omega | exact Nat.le_refl _⟩, ⟨by (with_reducible repeat (first | apply Kd.R_alloc | apply Kd.R_drewN | apply Kd.R_drew)); exact Kd.R_mono HO233.out (fun _ hk => trivial)⟩, ⟨bB⟩⟩
   ·rw [if_neg c16] at H
    have c16b0 : (t234 == t228) = false := beq_eq_false_iff_ne.mpr c16
    have c16b1 : (t234 != t228) = true := bne_iff_ne.mpr c16
    (first | rw [c16b0] | (simp only [i64_w, i32_w]; rw [c16b0]) | rw [c16b1] | (simp only [c16b1]) | skip)
    have H' := Aside0.mk H
    clear H
    go_wp2
    go_meet
    case rel => exact ⟨_, (true), (by first | rfl | (simp; done) | (simp [*]; done) | (simp [i64_w, IntKind.wrap_u8, e256_]; done) | (simp; generalize ByteArray.toList _ = zz_; cases zz_ <;> rfl)), H', ⟨by first | omega | exact Nat.le_refl _⟩, ⟨by (with_reducible repeat (first | apply Kd.R_alloc | apply Kd.R_drewN | apply Kd.R_drew)); exact Kd.R_mono HO233.out (fun _ hk => trivial)⟩, ⟨bB⟩⟩
  case rest =>
   clear HC9
   try clear c1
   try clear p2
   try clear c3
   try clear c4
   try clear c4b0
   try clear c4b1
   try clear p6
   try clear c8
   try clear c16
   try clear c16b0
   try clear c16b1
   try clear c17
   try clear c17b0
   try clear c17b1
   obtain ⟨kq, x48_8, rfl, HA, HJ8, HO_10, HB⟩ := hcut
   cases kq with
   | zero => exact absurd HA.out (by simp [laws_FnExactGetLen.j0])
   | succ kj8 =>
    have H := HA.out
    clear HA
    simp only [laws_FnExactGetLen.j0] at H
    by_cases c18 : x48_8 = true
    ·subst c18
     have H1 : (some false) = some r := by rw [if_pos rfl] at H; exact H
     clear H
     have H := H1
     clear H1
     obtain rfl := Option.some.inj H
     exact absurd hr_ (by simp)
    ·replace c18 := Bool.eq_false_iff.mpr c18
     subst c18
     have H1 : ((laws_toByteS.f kj8 l0).bind fun t237 => ((laws_eqByteS.f kj8 t231 t237).bind fun t240 => (if t240 = true then (some true) else (some false)))) = some r := by rw [if_neg (show ¬ (false = true) by decide)] at H; exact H
     clear H
     have H := H1
     clear H1
     replace H := Option.bind_eq_some_iff.mp H
     obtain ⟨t237, A190, H⟩ := H
     replace H : ((laws_eqByteS.f kj8 t231 t237).bind fun t240 => (if t240 = true then (some true) else (some false))) = some r := H
     have A19 := Aside0.mk A190
     clear A190
     replace H := Option.bind_eq_some_iff.mp H
     obtain ⟨t240, A200, H⟩ := H
     replace H : (if t240 = true then (some true) else (some false)) = some r := H
     have A20 := Aside0.mk A200
     clear A200
     by_cases c21 : t240 = true
     ·subst c21
      have H1 : (some true) = some r := by rw [if_pos rfl] at H; exact H
      clear H
      have H := H1
      clear H1
      obtain rfl := Option.some.inj H
      go_wp2_with (first | ((with_reducible refine gate_callee (f := 31) rfl ?_); refine goesM_ (some 51) rfl rfl Tryd.func31 (by kernel_rfl) rfl #[.slice A0 l0.length c0] rfl ?_; (with_reducible refine (laws_toByteS.calls kj8 _ _ l0 t237 _ ?side1 ?side2 A19.out).mono ?_); (case side1 => repeat (first | exact (Kd.C_below HR0.out HB.out) | (with_reducible refine Kd.C_alloc ?_ _) | (with_reducible refine Kd.C_drewN ?_ _) | (with_reducible refine Kd.C_drew ?_))); (case side2 => exact HC0.out); rintro e w22 ⟨v238, rfl, ho0, hb⟩; refine ⟨_, rfl, ?_⟩; have n0_ := Aside0.mk (Kd.R_elder' (rA HO_10.out) (Kd.R_base ho0) hb); have n1_ := Aside0.mk (Kd.R_lower (Kd.R_new' ho0 (Kd.R_lt (rA HO_10.out))) (below_size bB)); have n2_ := Aside0.mk (below_step bB hb); clear HO_10; clear HB; have HO_10 := n0_; have HO239 := n1_; have HB := n2_; clear n0_ n1_ n2_; (try clear hb); (try clear hb2); (try clear hk); (try clear hi); (try clear ho0); obtain ⟨Ao23, co23, eo23⟩ := Kd.R_slice HO239.out; subst eo23) | ((with_reducible refine gate_callee (f := 27) rfl ?_); refine goesM_ (some 52) rfl rfl Tryd.func27 (by kernel_rfl) rfl #[.slice Ao14 t231.length co14, .slice Ao23 t237.length co23] rfl ?_; (with_reducible refine (laws_eqByteS.calls kj8 _ _ t231 _ _ t237 true _ ?side1 ?side2 ?side3 ?side4 A20.out).mono ?_); (case side1 => repeat (first | exact (Kd.R_reads' HO_10.out).2.2 | (with_reducible refine Kd.C_alloc ?_ _) | (with_reducible refine Kd.C_drewN ?_ _) | (with_reducible refine Kd.C_drew ?_))); (case side2 => exact (Kd.R_reads' HO_10.out).2.1); (case side3 => repeat (first | exact (Kd.R_reads' HO239.out).2.2 | (with_reducible refine Kd.C_alloc ?_ _) | (with_reducible refine Kd.C_drewN ?_ _) | (with_reducible refine Kd.C_drew ?_))); (case side4 => exact (Kd.R_reads' HO239.out).2.1); rintro e w' ⟨rfl, ⟨nd, rfl⟩⟩; refine ⟨_, rfl, ?_⟩))
      go_ret
      exact ⟨by first | rfl | (simp [errW_none, errW_some] <;> rfl) | (simp [*, errW_none, errW_some] <;> rfl), bB⟩
     ·replace c21 := Bool.eq_false_iff.mpr c21
      subst c21
      have H1 : (some false) = some r := by rw [if_neg (show ¬ (false = true) by decide)] at H; exact H
      clear H
      have H := H1
      clear H1
      obtain rfl := Option.some.inj H
      exact absurd hr_ (by simp)
end Go.Proofs.YtiglmmofapcefaaDoor.Q
end
section
namespace Go.Proofs.YtiglmmofapcefaaDoor.Q
open Go.RowKit Go.Proofs.YtiglmmofapcefaaDoorW.PrintWords Go.Proofs.YtiglmmofapcefaaDoorW.PrintLast Go.Proofs.YtiglmmofapcefaaDoorW.PrintMore
set_option linter.unusedVariables false
set_option linter.unusedSimpArgs false
theorem toNat_cast (n : Nat) : ((n : Int) : Int).toNat = n := by simp
theorem take_set_succ (y l : List Int) (n : Nat) (hn : n < l.length) (hy : y.length = l.length) (h : y.take n = l.take n) :
    (y.set n (rd l (n : Int))).take (n + 1) = l.take (n + 1) := by
  rw [List.take_succ_eq_append_getElem (by simpa [hy] using hn), List.take_succ_eq_append_getElem hn, rd_nat l n hn]
  simp [List.take_set_of_le, h]
def isByte (c : Int) : Prop := 0 ≤ c ∧ c ≤ 255
theorem bytesOf_range (s : ByteArray) : ∀ c ∈ bytesOf s, isByte c := by
  intro c hc
  unfold bytesOf at hc
  obtain ⟨b, _, rfl⟩ := List.mem_map.1 hc
  have := b.toNat_lt
  exact ⟨by omega, by omega⟩
theorem bytesOf_inj {s t : ByteArray} (h : bytesOf s = bytesOf t) : s = t := by
  have e : s.data.toList = t.data.toList := by
    unfold bytesOf at h
    have := congrArg (List.map fun n : Int => UInt8.ofNat n.toNat) h
    simpa [List.map_map, Function.comp_def] using this
  cases s; cases t
  congr 1
  exact Array.toList_inj.1 e
theorem bytesOf_strOfNums (l : List Int) (h : ∀ c ∈ l, isByte c) : bytesOf (strOfNums l) = l := by
  unfold bytesOf
  rw [strOfNums_data, List.map_map]
  have : ∀ c ∈ l, ((fun b : UInt8 => (b.toNat : Int)) ∘ fun n : Int => UInt8.ofNat n.toNat) c = c := by
    intro c hc
    obtain ⟨h0, h1⟩ := h c hc
    have e : (UInt8.ofNat c.toNat).toNat = c.toNat := by simp [UInt8.toNat_ofNat']; omega
    simp only [Function.comp, e]
    omega
  rw [List.map_congr_left this]
  simp
theorem strOfNums_bytesOf (s : ByteArray) : strOfNums (bytesOf s) = s := bytesOf_inj (bytesOf_strOfNums _ (bytesOf_range s))
theorem strOfNums_append (a b : List Int) : strOfNums (a ++ b) = strOfNums a ++ strOfNums b := by
  have e : (strOfNums (a ++ b)).data.toList = (strOfNums a ++ strOfNums b).data.toList := by
    rw [strOfNums_data, ByteArray.toList_data_append, strOfNums_data, strOfNums_data, List.map_append]
  revert e
  generalize strOfNums (a ++ b) = x
  generalize strOfNums a ++ strOfNums b = y
  intro e
  cases x; cases y
  congr 1
  exact Array.toList_inj.1 e
theorem size_eq (s : ByteArray) : s.size = (bytesOf s).length := (bytesOf_length s).symm
theorem bytesOf_extract (s : ByteArray) (a b : Nat) : bytesOf (s.extract a b) = ((bytesOf s).take b).drop a := by
  unfold bytesOf
  rw [ByteArray.data_extract, Array.toList_extract, List.extract_eq_take_drop, List.map_take, List.map_drop, List.drop_take]
theorem bt_eq (s : ByteArray) (i : Int) : bt s i = rd (bytesOf s) i := (rd_bytesOf s i).symm
theorem dig_range' {c : Int} (h : isDig c = true) : 48 ≤ c ∧ c ≤ 57 := by
  unfold isDig at h
  simpa using h
theorem all_rd' (l : List Int) (p : Int → Bool) (h : l.all p = true) (n : Nat) (hn : n < l.length) : p (rd l (n : Int)) = true := by
  rw [List.all_eq_true] at h
  exact h _ (rd_mem l n hn)
theorem digs_and (l : List Int) (h : digs l = true) : l.all isDig = true ∧ 0 < l.length := by
  unfold digs at h
  cases l with
  | nil => simp at h
  | cons a t => simpa using h
def narrow (l : List Int) : Int × Bool := if digs l = true ∧ l.length ≤ 18 then ((natFrom 0 l : Nat), true) else (0, false)
theorem spec_Narrow_l (s : ByteArray) (hs : s.size ≤ 18) (hd : (bytesOf s).all isDig = true) : ∀ (d n k a : Nat), n + d = s.size → a < 10 ^ n → d < k →
    spec_Narrow.l0 k s (a : Int) (n : Int) = some (((natFrom a ((bytesOf s).drop n) : Nat) : Int), true) := by
  intro d
  induction d with
  | zero =>
    intro n k a hn ha hk
    obtain ⟨k, rfl⟩ : ∃ m, k = m + 1 := ⟨k - 1, by omega⟩
    have c1 : ¬ (n : Int) < (s.size : Int) := by omega
    simp only [spec_Narrow.l0, if_neg c1]
    rw [List.drop_of_length_le (by rw [bytesOf_length]; omega)]
    rfl
  | succ d ih =>
    intro n k a hn ha hk
    obtain ⟨k, rfl⟩ : ∃ m, k = m + 1 := ⟨k - 1, by omega⟩
    have c1 : (n : Int) < (s.size : Int) := by omega
    have c2 : 0 ≤ (n : Int) := by omega
    obtain ⟨b0, b1⟩ := dig_range' (all_rd' _ _ hd n (by rw [bytesOf_length]; omega))
    have hp : 10 ^ (n + 1) = 10 ^ n * 10 := Nat.pow_succ 10 n
    have hq : 10 ^ n ≤ 10 ^ 17 := Nat.pow_le_pow_right (by omega) (by omega)
    have hq2 : (10 : Nat) ^ 17 = 100000000000000000 := by decide
    rw [drop_bt s n (by omega), natFrom, bt_eq]
    simp only [spec_Narrow.l0, if_pos c1, if_pos c2, bt_eq]
    generalize rd (bytesOf s) (n : Int) = c at b0 b1
    have ih' := ih (n + 1) k (a * 10 + (c - 48).toNat) (by omega) (by rw [hp]; omega) (by omega)
    have e2 : wrap64 ((n : Int) + 1) = ((n + 1 : Nat) : Int) := by rw [w64 c2 (by omega)]; omega
    have e1 : wrap64 (wrap64 (wrap64 ((a : Int) * 10) + wrap64 c) - 48) = ((a * 10 + (c - 48).toNat : Nat) : Int) := by
      clear e2 ih'
      have q1 : wrap64 ((a : Int) * 10) = (a : Int) * 10 := w64id (by omega) (by omega)
      rw [q1]
      clear q1
      have q2 : wrap64 c = c := w64id (by omega) (by omega)
      rw [q2]
      clear q2
      have q3 : wrap64 ((a : Int) * 10 + c) = (a : Int) * 10 + c := w64id (by omega) (by omega)
      rw [q3]
      clear q3
      rw [w64id (by omega) (by omega)]
      omega
    rw [e1, e2]
    exact ih'
theorem spec_Narrow_at (s : ByteArray) (hs : s.size ≤ 140737488351232) (k : Nat) (hk : s.size + 30 < k) : spec_Narrow.f k s = some (narrow (bytesOf s)) := by
  obtain ⟨k, rfl⟩ : ∃ m, k = m + 1 := ⟨k - 1, by omega⟩
  unfold spec_Narrow.f narrow
  rw [spec_Digits_at s hs _ (by omega), Option.bind_some, bytesOf_length]
  by_cases h : digs (bytesOf s) = true
  · rw [if_pos h]
    by_cases h2 : s.size ≤ 18
    · have e : decide ((s.size : Int) > 18) = false := decide_eq_false (by omega)
      rw [e, if_pos ⟨h, h2⟩, spec_Narrow.j0, if_neg (by simp)]
      exact spec_Narrow_l s h2 (digs_and _ h).1 s.size 0 k 0 (by omega) (by simp) (by omega)
    · have e : decide ((s.size : Int) > 18) = true := decide_eq_true (by omega)
      rw [e, if_neg (fun q => h2 q.2), spec_Narrow.j0, if_pos rfl]
  · rw [if_neg h, if_neg (fun q => h q.1), spec_Narrow.j0, if_pos rfl]
theorem impl_Narrow_at (s : ByteArray) (hs : s.size ≤ 140737488351232) : impl_Narrow.f s = some (narrow (bytesOf s)) := by
  unfold impl_Narrow.f narrow
  rw [if_pos hs, bytesOf_length]
def ubcd : List Int → List Int
  | [] => []
  | c :: t => (48 + c / 16) :: (48 + c % 16) :: ubcd t
theorem ubcd_append (a b : List Int) : ubcd (a ++ b) = ubcd a ++ ubcd b := by
  induction a with
  | nil => rfl
  | cons c t ih => simp [ubcd, ih]
theorem ubcd_length (a : List Int) : (ubcd a).length = 2 * a.length := by
  induction a with
  | nil => rfl
  | cons c t ih => simp [ubcd, ih]; omega
theorem ubcd_range (a : List Int) (h : ∀ c ∈ a, isByte c) : ∀ c ∈ ubcd a, isByte c := by
  induction a with
  | nil => intro c hc; simp [ubcd] at hc
  | cons x t ih =>
    intro c hc
    simp only [ubcd, List.mem_cons] at hc
    have hx := h x (by simp)
    unfold isByte at hx
    rcases hc with rfl | rfl | hc
    · unfold isByte; omega
    · unfold isByte; omega
    · exact ih (fun c hc => h c (by simp [hc])) c hc
theorem take_rd (l : List Int) (n : Nat) (h : n < l.length) : l.take (n + 1) = l.take n ++ [rd l (n : Int)] := by
  rw [List.take_succ_eq_append_getElem h, rd_nat l n h]
theorem rd_drop (l : List Int) (a n : Nat) (h : a + n < l.length) : rd (l.drop a) (n : Int) = rd l ((a + n : Nat) : Int) := by
  rw [rd_nat _ _ (by simp; omega), rd_nat _ _ h]
  simp
def cutAt (l : List Int) (a m : Nat) : List Int := (l.drop a).take m
theorem cutAt_take (l : List Int) (a m : Nat) : (l.take (a + m)).drop a = cutAt l a m := by
  unfold cutAt
  rw [List.drop_take]
  congr 1
  omega
theorem cutAt_succ (l : List Int) (a m : Nat) (h : a + m < l.length) : cutAt l a (m + 1) = cutAt l a m ++ [rd l ((a + m : Nat) : Int)] := by
  unfold cutAt
  rw [take_rd _ _ (by simp; omega), rd_drop l a m h]
theorem cutAt_length (l : List Int) (a m : Nat) (h : a + m ≤ l.length) : (cutAt l a m).length = m := by
  unfold cutAt
  simp
  omega
theorem cutAt_mem (l : List Int) (a m : Nat) : ∀ c ∈ cutAt l a m, c ∈ l := by
  intro c hc
  unfold cutAt at hc
  exact List.mem_of_mem_drop (List.mem_of_mem_take hc)
def isBcd (n : Nat) (u : List Int) : Bool := if n % 2 = 1 then decide (rd u 0 = 48) && digs (u.drop 1) else digs u
def inAt (l : List Int) (a1 n : Int) : Bool := decide (1 ≤ n ∧ n ≤ 38 ∧ 0 ≤ a1 ∧ a1 ≤ (l.length : Int) ∧ (n + 1) / 2 ≤ (l.length : Int) - a1)
def getBcd (l : List Int) (a1 n : Int) : List Int × Int × Bool :=
  if inAt l a1 n && isBcd n.toNat (ubcd (cutAt l a1.toNat ((n + 1) / 2).toNat)) then
    ((ubcd (cutAt l a1.toNat ((n + 1) / 2).toNat)).drop (n.toNat % 2), a1 + (n + 1) / 2, true)
  else ([], 0, false)
def asStr (r : List Int × Int × Bool) : ByteArray × Int × Bool := (strOfNums r.1, r.2.1, r.2.2)
theorem strOfNums_nil : strOfNums [] = (⟨#[]⟩ : ByteArray) := bytesOf_inj (by rw [bytesOf_strOfNums _ (by simp)]; rfl)
theorem asStr_none : asStr ([], 0, false) = ((⟨#[]⟩ : ByteArray), 0, false) := by unfold asStr; rw [strOfNums_nil]
theorem ubcd_digs (n m : Nat) (u : List Int) (hm : m = (n + 1) / 2) (hn : 1 ≤ n) (hu : u.length = 2 * m) : isBcd n u = (digs u && (decide (n % 2 = 0) || decide (rd u 0 = 48))) := by
  unfold isBcd
  by_cases h : n % 2 = 1
  · rw [if_pos h]
    have h0 : decide (n % 2 = 0) = false := decide_eq_false (by omega)
    rw [h0, Bool.false_or]
    have hd := drop_rd u 0 (by omega)
    simp only [List.drop_zero, Nat.zero_add] at hd
    have hp : 0 < (u.drop 1).length := by simp; omega
    by_cases h48 : rd u 0 = 48
    · have e1 : digs u = digs (u.drop 1) := by
        unfold digs
        have e2 : u.all isDig = (u.drop 1).all isDig := by
          have h7 : isDig (rd u ((0 : Nat) : Int)) = true := by simpa [h48] using (by decide : isDig 48 = true)
          have h8 : u.all isDig = (rd u ((0 : Nat) : Int) :: u.drop 1).all isDig := congrArg (fun x => List.all x isDig) hd
          rw [h8, List.all_cons, h7, Bool.true_and]
        have e3 : u.isEmpty = false := by cases u with | nil => simp at hu; omega | cons => rfl
        have e4 : (u.drop 1).isEmpty = false := by
          generalize u.drop 1 = v at hp
          cases v with | nil => simp at hp | cons => rfl
        rw [e2, e3, e4]
      simp [h48, e1]
    · simp [h48]
  · rw [if_neg h]
    have h0 : decide (n % 2 = 0) = true := decide_eq_true (by omega)
    rw [h0]
    simp
theorem getBcd_val (l : List Int) (a n m : Nat) (hm : m = (n + 1) / 2) (h1 : 1 ≤ n) (h2 : n ≤ 38) (h3 : a + m ≤ l.length) :
    getBcd l (a : Int) (n : Int) = if isBcd n (ubcd (cutAt l a m)) = true then ((ubcd (cutAt l a m)).drop (n % 2), (a : Int) + (m : Int), true) else ([], 0, false) := by
  have e0 : ((n : Int) + 1) / 2 = (m : Int) := by omega
  have e1 : inAt l (a : Int) (n : Int) = true := by
    unfold inAt
    rw [e0]
    exact decide_eq_true (by omega)
  have e2 : (n : Int).toNat = n := by omega
  have e3 : (a : Int).toNat = a := by omega
  have e4 : (m : Int).toNat = m := by omega
  unfold getBcd
  rw [e1, e0, e2, e3, e4, Bool.true_and]
theorem spec_GetBcd_l (l : List Int) (hl : l.length ≤ 140737488351232) (hb : ∀ c ∈ l, isByte c) (a n m : Nat) (hm : m = (n + 1) / 2) (h1 : 1 ≤ n) (h2 : n ≤ 38) (h3 : a + m ≤ l.length) : ∀ (d i k : Nat), i + d = m → d + 50 < k →
    spec_GetBcd.l0 k l (a : Int) (n : Int) (strOfNums (ubcd (cutAt l a i))) ((a + i : Nat) : Int) = some (asStr (getBcd l (a : Int) (n : Int))) := by
  have e2 : True → wrap64 (Int.tdiv (wrap64 ((n : Int) + 1)) 2) = (m : Int) := by
    intro _
    have q : wrap64 ((n : Int) + 1) = ((n + 1 : Nat) : Int) := by unfold wrap64; omega
    rw [q, Int.tdiv_eq_ediv_of_nonneg (by omega)]
    unfold wrap64
    omega
  have e3 : True → wrap64 ((a : Int) + (m : Int)) = ((a + m : Nat) : Int) := by intro _; unfold wrap64; omega
  intro d
  induction d with
  | zero =>
    intro i k hd hk
    obtain ⟨k, rfl⟩ : ∃ m, k = m + 1 := ⟨k - 1, by omega⟩
    have hi : i = m := by omega
    subst hi
    have c1 : ¬ ((a + i : Nat) : Int) < ((a + i : Nat) : Int) := by omega
    have hr : ∀ c ∈ ubcd (cutAt l a i), isByte c := ubcd_range _ (fun c hc => hb c (cutAt_mem l a i c hc))
    have hz : (ubcd (cutAt l a i)).length = 2 * i := by rw [ubcd_length, cutAt_length l a i h3]
    rw [getBcd_val l a n i hm h1 h2 h3]
    simp only [spec_GetBcd.l0, e2 trivial, e3 trivial, if_neg c1]
    generalize ubcd (cutAt l a i) = u at hr hz
    have hbs : bytesOf (strOfNums u) = u := bytesOf_strOfNums u hr
    have hsz : (strOfNums u).size = u.length := by rw [size_eq, hbs]
    have eend : ((a + i : Nat) : Int) = (a : Int) + (i : Int) := by omega
    by_cases ho : n % 2 = 1
    · have c2 : Int.tmod (n : Int) 2 = 1 := by rw [Int.tmod_eq_emod_of_nonneg (by omega)]; omega
      have c3 : 0 < ((strOfNums u).size : Int) := by omega
      have c4 : 1 ≤ ((strOfNums u).size : Int) := by omega
      rw [if_pos c2, if_pos c3, if_pos c4, bt_eq, hbs]
      unfold isBcd
      rw [if_pos ho, ho]
      by_cases h48 : rd u 0 = 48
      · have e5 : bytesOf ((strOfNums u).extract 1 (strOfNums u).size) = u.drop 1 := by
          rw [bytesOf_extract, hbs, hsz, List.take_length]
        have e6 : (strOfNums u).extract 1 (strOfNums u).size = strOfNums (u.drop 1) := by
          rw [← e5, strOfNums_bytesOf]
        have e7 : ((strOfNums u).extract 1 (strOfNums u).size).size ≤ 40 := by
          rw [size_eq, e5, List.length_drop]; omega
        rw [if_pos h48, spec_Digits_at _ (by omega) k (by omega), Option.bind_some, e5, e6]
        have h48' : decide (rd u 0 = 48) = true := decide_eq_true h48
        rw [h48', Bool.true_and]
        by_cases hg : digs (u.drop 1) = true
        · rw [if_pos hg, if_pos hg, eend]; rfl
        · rw [if_neg hg, if_neg hg, asStr_none]
      · have h48' : decide (rd u 0 = 48) = false := decide_eq_false h48
        rw [if_neg h48, h48', Bool.false_and, if_neg (by simp), asStr_none]
    · have c2 : ¬ Int.tmod (n : Int) 2 = 1 := by rw [Int.tmod_eq_emod_of_nonneg (by omega)]; omega
      have ho' : n % 2 = 0 := by omega
      rw [if_neg c2, spec_Digits_at _ (by omega) k (by omega), Option.bind_some, hbs]
      unfold isBcd
      rw [if_neg ho, ho']
      by_cases hg : digs u = true
      · rw [if_pos hg, if_pos hg, eend]; rfl
      · rw [if_neg hg, if_neg hg, asStr_none]
  | succ d ih =>
    intro i k hd hk
    obtain ⟨k, rfl⟩ : ∃ m, k = m + 1 := ⟨k - 1, by omega⟩
    have c1 : ((a + i : Nat) : Int) < ((a + m : Nat) : Int) := by omega
    have c2 : 0 ≤ ((a + i : Nat) : Int) := by omega
    have c3 : ((a + i : Nat) : Int) < (l.length : Int) := by omega
    have e4 : wrap64 (((a + i : Nat) : Int) + 1) = ((a + (i + 1) : Nat) : Int) := by unfold wrap64; omega
    have h4 : a + i < l.length := by omega
    have hs : strOfNums (ubcd (cutAt l a (i + 1))) = strOfNums (ubcd (cutAt l a i)) ++ strOfNums (ubcd [rd l ((a + i : Nat) : Int)]) := by
      rw [cutAt_succ l a i h4, ubcd_append, strOfNums_append]
    have ih' := ih (i + 1) k (by omega) (by omega)
    rw [hs] at ih'
    clear hs ih
    obtain ⟨b0, b1⟩ := hb _ (rd_mem l (a + i) (by omega))
    have hz : (strOfNums (ubcd (cutAt l a i))).size = 2 * i := by rw [strOfNums_size, ubcd_length, cutAt_length l a i (by omega)]
    simp only [spec_GetBcd.l0, e2 trivial, e3 trivial, e4, if_pos c1, if_pos c2, if_pos c3, Option.bind_some]
    generalize rd l ((a + i : Nat) : Int) = b at b0 b1 ih'
    have q1 : wrap64 b = b := by unfold wrap64; omega
    have q2 : Int.tdiv b 16 = b / 16 := Int.tdiv_eq_ediv_of_nonneg (by omega)
    have q3 : Int.tmod b 16 = b % 16 := Int.tmod_eq_emod_of_nonneg (by omega)
    have q4 : wrap64 (48 + wrap64 (b / 16)) % 256 = 48 + b / 16 := by unfold wrap64; omega
    have q5 : wrap64 (48 + b % 16) % 256 = 48 + b % 16 := by unfold wrap64; omega
    rw [q1, q2, q3, q4, q5]
    have q6 : (strOfNums (ubcd (cutAt l a i))).size + (strOfNums [48 + b / 16, 48 + b % 16]).size ≤ 9223372036854775807 := by
      rw [hz, strOfNums_size]
      simp
      omega
    rw [if_pos q6]
    exact ih'
theorem spec_GetBcd_at (l : List Int) (hl : l.length ≤ 140737488351232) (hb : ∀ c ∈ l, isByte c) (a1 n : Int) (w1 : -9223372036854775808 ≤ a1 ∧ a1 ≤ 9223372036854775807) (w2 : -9223372036854775808 ≤ n ∧ n ≤ 9223372036854775807) (k : Nat) (hk : 100 < k) :
    spec_GetBcd.f k l a1 n = some (asStr (getBcd l a1 n)) := by
  obtain ⟨k, rfl⟩ : ∃ m, k = m + 1 := ⟨k - 1, by omega⟩
  have hno : inAt l a1 n = false → spec_GetBcd.j0 (k + 1) l a1 n true = some (asStr (getBcd l a1 n)) := by
    intro h
    unfold getBcd
    rw [h, Bool.false_and, if_neg (by simp), asStr_none, spec_GetBcd.j0, if_pos rfl]
  unfold spec_GetBcd.f
  by_cases h1 : n < 1
  · rw [if_pos h1]; exact hno (decide_eq_false (by omega))
  by_cases h2 : n > 38
  · rw [if_neg h1, if_pos h2]; exact hno (decide_eq_false (by omega))
  by_cases h3 : a1 < 0
  · rw [if_neg h1, if_neg h2, if_pos h3]; exact hno (decide_eq_false (by omega))
  by_cases h4 : a1 > (l.length : Int)
  · rw [if_neg h1, if_neg h2, if_neg h3, if_pos h4]; exact hno (decide_eq_false (by omega))
  rw [if_neg h1, if_neg h2, if_neg h3, if_neg h4]
  have e0 : wrap64 (n + 1) = n + 1 := by unfold wrap64; omega
  have e1 : Int.tdiv (n + 1) 2 = (n + 1) / 2 := Int.tdiv_eq_ediv_of_nonneg (by omega)
  have e2 : wrap64 ((n + 1) / 2) = (n + 1) / 2 := by unfold wrap64; omega
  have e3 : wrap64 ((l.length : Int) - a1) = (l.length : Int) - a1 := by unfold wrap64; omega
  rw [e0, e1, e2, e3]
  by_cases h5 : (n + 1) / 2 > (l.length : Int) - a1
  · rw [decide_eq_true h5]; exact hno (decide_eq_false (by omega))
  rw [decide_eq_false h5, spec_GetBcd.j0, if_neg (by simp)]
  have h := spec_GetBcd_l l hl hb a1.toNat n.toNat ((n.toNat + 1) / 2) rfl (by omega) (by omega) (by omega) ((n.toNat + 1) / 2) 0 k (by omega) (by omega)
  have ea : ((a1.toNat : Nat) : Int) = a1 := by omega
  have en : ((n.toNat : Nat) : Int) = n := by omega
  have ez : cutAt l a1.toNat 0 = [] := rfl
  rw [ez, Nat.add_zero, ea, en] at h
  have eu : ubcd [] = [] := rfl
  rw [eu, strOfNums_nil] at h
  exact h
theorem impl_piece_at (l : List Int) (a1 m : Int) : impl_piece.f l a1 m = if 0 ≤ a1 ∧ a1 ≤ (l.length : Int) ∧ 0 ≤ m ∧ m ≤ (l.length : Int) - a1 then some (cutAt l a1.toNat m.toNat, true) else some ([], false) := by
  unfold impl_piece.f
  by_cases h : 0 ≤ a1 ∧ a1 ≤ (l.length : Int) ∧ 0 ≤ m ∧ m ≤ (l.length : Int) - a1
  · rw [if_pos h, if_pos h]
    have e : (a1 + m).toNat = a1.toNat + m.toNat := by omega
    rw [e, cutAt_take]
  · rw [if_neg h, if_neg h]
theorem impl_GetBcd_l (l : List Int) (hb : ∀ c ∈ l, isByte c) (hl : l.length ≤ 40) (a1 n : Int) (ok : Bool) (z : List Int) : ∀ (d i k : Nat), i + d = l.length → d < k → ∃ j, k = j + d + 1 ∧ 
    impl_GetBcd.l0 k a1 n z ok (ubcd (l.take i)) l (l.length : Int) (i : Int) = impl_GetBcd.l0 (j + 1) a1 n z ok (ubcd l) l (l.length : Int) (l.length : Int) := by
  intro d
  induction d with
  | zero =>
    intro i k hd hk
    refine ⟨k - 1, by omega, ?_⟩
    have hi : i = l.length := by omega
    subst hi
    have hk' : k - 1 + 1 = k := by omega
    rw [List.take_length, hk']
  | succ d ih =>
    intro i k hd hk
    obtain ⟨k, rfl⟩ : ∃ m, k = m + 1 := ⟨k - 1, by omega⟩
    obtain ⟨j, hj, ih'⟩ := ih (i + 1) k (by omega) (by omega)
    refine ⟨j, by omega, ?_⟩
    rw [← ih', take_rd l i (by omega), ubcd_append]
    have c1 : (i : Int) < (l.length : Int) := by omega
    have c2 : 0 ≤ (i : Int) := by omega
    have e4 : wrap64 ((i : Int) + 1) = ((i + 1 : Nat) : Int) := by unfold wrap64; omega
    obtain ⟨b0, b1⟩ := hb _ (rd_mem l i (by omega))
    have hz : (ubcd (l.take i)).length ≤ 80 := by rw [ubcd_length, List.length_take]; omega
    rw [impl_GetBcd.l0]
    simp only [e4, if_pos c1, if_pos c2, Option.bind_some]
    generalize rd l (i : Int) = b at b0 b1
    have q2 : Go.bits .and .u8 b 15 = b % 16 := u8_and15 b b0 (by omega)
    have q4 : (48 + b / 16) % 256 = 48 + b / 16 := by omega
    have q5 : (48 + b % 16) % 256 = 48 + b % 16 := by omega
    rw [q2, q4, q5]
    have q6 : (ubcd (l.take i)).length + [48 + b / 16, 48 + b % 16].length < 140737488355328 := by
      simp
      omega
    rw [if_pos q6]
    rfl
theorem impl_GetBcd_e (u : List Int) (hr : ∀ c ∈ u, isByte c) (a1 : Int) (n m : Nat) (z v : List Int) (hm : m = (n + 1) / 2) (h1 : 1 ≤ n) (h2 : n ≤ 38) (hz : z.length = m) (hu : u.length = 2 * m) (ha : 0 ≤ a1) (hb : a1 ≤ 140737488351232) (k : Nat) (hk : 50 < k) :
    impl_GetBcd.l0 (k + 1) a1 (n : Int) z true u v (v.length : Int) (v.length : Int) = some (asStr (if isBcd n u = true then (u.drop (n % 2), a1 + (m : Int), true) else ([], 0, false))) := by
  have c1 : ¬ (v.length : Int) < (v.length : Int) := by omega
  have hbs : bytesOf (strOfNums u) = u := bytesOf_strOfNums u hr
  have hsz : (strOfNums u).size = u.length := by rw [size_eq, hbs]
  simp only [impl_GetBcd.l0, if_neg c1, if_true]
  rw [impl_Digits_at _ (by omega) k (by omega), hbs, Option.bind_some, ubcd_digs n m u hm h1 hu]
  by_cases hg : digs u = true
  · have e1 : wrap64 ((u.length : Int) - (n : Int)) = ((n % 2 : Nat) : Int) := by unfold wrap64; omega
    have e2 : wrap64 (a1 + (z.length : Int)) = a1 + (m : Int) := by unfold wrap64; omega
    have e3 : (((n % 2 : Nat) : Int)).toNat = n % 2 := by omega
    have c2 : 0 ≤ ((n % 2 : Nat) : Int) := by omega
    have c3 : ((n % 2 : Nat) : Int) ≤ (u.length : Int) := by omega
    rw [if_pos hg, e1, e2, if_pos c2, if_pos c3, hg, Bool.true_and, e3]
    by_cases ho : n % 2 = 1
    · have c2 : Int.tmod (n : Int) 2 = 1 := by rw [Int.tmod_eq_emod_of_nonneg (by omega)]; omega
      have c3 : 0 < (u.length : Int) := by omega
      have h0 : decide (n % 2 = 0) = false := decide_eq_false (by omega)
      rw [if_pos c2, if_pos c3, h0, Bool.false_or]
      by_cases h48 : rd u 0 = 48
      · rw [if_pos h48, if_pos (decide_eq_true h48)]; rfl
      · rw [if_neg h48, if_neg (by simp [h48]), asStr_none]
    · have c2 : ¬ Int.tmod (n : Int) 2 = 1 := by rw [Int.tmod_eq_emod_of_nonneg (by omega)]; omega
      have h0 : decide (n % 2 = 0) = true := decide_eq_true (by omega)
      rw [if_neg c2, h0, Bool.true_or, if_pos rfl]; rfl
  · rw [if_neg hg]
    have : digs u = false := by simpa using hg
    rw [this, Bool.false_and, if_neg (by simp), asStr_none]
theorem impl_within_at (a b c : Int) : impl_within.f a b c = some (decide (b ≤ a ∧ a ≤ c)) := by
  unfold impl_within.f
  by_cases h : b ≤ a
  · rw [if_pos h]; simp [h]
  · rw [if_neg h]; simp [h]
theorem impl_GetBcd_at (l : List Int) (hl : l.length ≤ 140737488351232) (hb : ∀ c ∈ l, isByte c) (a1 n : Int) (w1 : -9223372036854775808 ≤ a1 ∧ a1 ≤ 9223372036854775807) (w2 : -9223372036854775808 ≤ n ∧ n ≤ 9223372036854775807) (k : Nat) (hk : 200 < k) :
    impl_GetBcd.f k l a1 n = some (asStr (getBcd l a1 n)) := by
  unfold impl_GetBcd.f
  rw [impl_within_at, Option.bind_some]
  by_cases h1 : 1 ≤ n ∧ n ≤ 38
  · rw [if_pos (decide_eq_true h1)]
    have e0 : wrap64 (n + 1) = n + 1 := by unfold wrap64; omega
    have e1 : Int.tdiv (n + 1) 2 = (n + 1) / 2 := Int.tdiv_eq_ediv_of_nonneg (by omega)
    have e2 : wrap64 ((n + 1) / 2) = (n + 1) / 2 := by unfold wrap64; omega
    rw [e0, e1, e2, impl_piece_at]
    by_cases h2 : 0 ≤ a1 ∧ a1 ≤ (l.length : Int) ∧ 0 ≤ (n + 1) / 2 ∧ (n + 1) / 2 ≤ (l.length : Int) - a1
    · rw [if_pos h2, Option.bind_some]
      have hz : (cutAt l a1.toNat ((n + 1) / 2).toNat).length = ((n + 1) / 2).toNat := cutAt_length _ _ _ (by omega)
      have hb' : ∀ c ∈ cutAt l a1.toNat ((n + 1) / 2).toNat, isByte c := fun c hc => hb c (cutAt_mem _ _ _ c hc)
      obtain ⟨j, hj, h⟩ := impl_GetBcd_l (cutAt l a1.toNat ((n + 1) / 2).toNat) hb' (by omega) a1 n true (cutAt l a1.toNat ((n + 1) / 2).toNat) (cutAt l a1.toNat ((n + 1) / 2).toNat).length 0 k (by omega) (by omega)
      have h' : impl_GetBcd.l0 k a1 n (cutAt l a1.toNat ((n + 1) / 2).toNat) true (([] : List Int)) (cutAt l a1.toNat ((n + 1) / 2).toNat) ((cutAt l a1.toNat ((n + 1) / 2).toNat).length : Int) 0 = _ := h
      simp only
      rw [h']
      have en : ((n.toNat : Nat) : Int) = n := by omega
      have h5 := impl_GetBcd_e (ubcd (cutAt l a1.toNat ((n + 1) / 2).toNat)) (ubcd_range _ hb') a1 n.toNat ((n + 1) / 2).toNat (cutAt l a1.toNat ((n + 1) / 2).toNat) (cutAt l a1.toNat ((n + 1) / 2).toNat) (by omega) (by omega) (by omega) hz (by rw [ubcd_length, hz]) h2.1 (by omega) j (by omega)
      rw [en] at h5
      rw [h5]
      unfold getBcd
      have e3 : inAt l a1 n = true := decide_eq_true (by omega)
      have e4 : ((((n + 1) / 2).toNat : Nat) : Int) = (n + 1) / 2 := by omega
      rw [e3, Bool.true_and, e4]
    · rw [if_neg h2, Option.bind_some]
      obtain ⟨k, rfl⟩ : ∃ m, k = m + 1 := ⟨k - 1, by omega⟩
      unfold getBcd
      have e3 : inAt l a1 n = false := decide_eq_false (by omega)
      rw [e3, Bool.false_and, if_neg (by simp), asStr_none]
      simp only
      rw [impl_GetBcd.l0]
      simp
  · rw [if_neg (by simpa using h1)]
    unfold getBcd
    have e3 : inAt l a1 n = false := decide_eq_false (by omega)
    rw [e3, Bool.false_and, if_neg (by simp), asStr_none]
theorem getBcd_ok (l : List Int) (a1 n : Int) (hb : ∀ c ∈ l, isByte c) (h : (getBcd l a1 n).2.2 = true) :
    digs (getBcd l a1 n).1 = true ∧ (getBcd l a1 n).1.length = n.toNat ∧ (∀ c ∈ (getBcd l a1 n).1, isByte c) ∧ (getBcd l a1 n).2.1 = a1 + (n + 1) / 2 ∧ 1 ≤ n ∧ n ≤ 38 ∧ 0 ≤ a1 ∧ a1 + (n + 1) / 2 ≤ (l.length : Int) := by
  unfold getBcd at h ⊢
  by_cases q : (inAt l a1 n && isBcd n.toNat (ubcd (cutAt l a1.toNat ((n + 1) / 2).toNat))) = true
  · rw [if_pos q] at h ⊢
    simp only [Bool.and_eq_true] at q
    obtain ⟨q1, q2⟩ := q
    have q3 := of_decide_eq_true q1
    have hlen : (ubcd (cutAt l a1.toNat ((n + 1) / 2).toNat)).length = 2 * ((n + 1) / 2).toNat := by rw [ubcd_length, cutAt_length _ _ _ (by omega)]
    have hr : ∀ c ∈ ubcd (cutAt l a1.toNat ((n + 1) / 2).toNat), isByte c := ubcd_range _ (fun c hc => hb c (cutAt_mem _ _ _ c hc))
    generalize ubcd (cutAt l a1.toNat ((n + 1) / 2).toNat) = u at q2 hlen hr
    refine ⟨?_, ?_, fun c hc => hr c (List.mem_of_mem_drop hc), rfl, q3.1, q3.2.1, q3.2.2.1, by omega⟩
    · unfold isBcd at q2
      by_cases o : n.toNat % 2 = 1
      · rw [if_pos o] at q2
        simp only [Bool.and_eq_true] at q2
        simp only [o]
        exact q2.2
      · rw [if_neg o] at q2
        have o' : n.toNat % 2 = 0 := by omega
        simp only [o', List.drop_zero]
        exact q2
    · simp only [List.length_drop]
      omega
  · rw [if_neg q] at h
    exact absurd h (by simp)
theorem getBcd_no (l : List Int) (a1 n : Int) (h : (getBcd l a1 n).2.2 = false) : getBcd l a1 n = ([], 0, false) := by
  unfold getBcd at h ⊢
  split
  · rename_i q
    rw [if_pos q] at h
    exact absurd h (by simp)
  · rfl
def getLen (l : List Int) (a1 w : Int) : Int × Int × Bool :=
  if (w = 2 ∨ w = 3) ∧ (getBcd l a1 w).2.2 = true then (((natFrom 0 (getBcd l a1 w).1 : Nat) : Int), (getBcd l a1 w).2.1, true) else (0, 0, false)
theorem spec_GetLen_at (l : List Int) (hl : l.length ≤ 140737488351232) (hb : ∀ c ∈ l, isByte c) (a1 w : Int) (w1 : -9223372036854775808 ≤ a1 ∧ a1 ≤ 9223372036854775807) (k : Nat) (hk : 300 < k) :
    spec_GetLen.f k l a1 w = some (getLen l a1 w) := by
  obtain ⟨k, rfl⟩ : ∃ m, k = m + 1 := ⟨k - 1, by omega⟩
  have hj : (w = 2 ∨ w = 3) → spec_GetLen.j0 (k + 1) l a1 w false = some (getLen l a1 w) := by
    intro h2
    rw [spec_GetLen.j0, if_neg (by simp), spec_GetBcd_at l hl hb a1 w w1 (by omega) k (by omega), Option.bind_some]
    unfold getLen
    cases hr : (getBcd l a1 w).2.2 with
    | true =>
      obtain ⟨p1, p2, p3, _⟩ := getBcd_ok l a1 w hb hr
      have hz : (strOfNums (getBcd l a1 w).1).size ≤ 18 := by rw [strOfNums_size]; omega
      rw [if_pos ⟨h2, rfl⟩]
      unfold asStr
      simp only
      rw [spec_Narrow_at _ (by omega) k (by omega), Option.bind_some, bytesOf_strOfNums _ p3]
      unfold narrow
      rw [if_pos ⟨p1, by omega⟩, hr]
    | false =>
      have e := getBcd_no l a1 w hr
      rw [if_neg (by simp), e, asStr_none]
      simp only
      rw [spec_Narrow_at _ (by decide) k (by have : (⟨#[]⟩ : ByteArray).size = 0 := rfl; omega), Option.bind_some]
      rfl
  unfold spec_GetLen.f
  by_cases h2 : w = 2
  · rw [if_pos h2]; exact hj (Or.inl h2)
  rw [if_neg h2]
  by_cases h3 : w = 3
  · have e : (w != 3) = false := by simp [h3]
    rw [e]; exact hj (Or.inr h3)
  · have e : (w != 3) = true := by simp [h3]
    rw [e, spec_GetLen.j0, if_pos rfl]
    unfold getLen
    rw [if_neg (by omega)]
theorem impl_GetLen_at (l : List Int) (hl : l.length ≤ 140737488351232) (hb : ∀ c ∈ l, isByte c) (a1 w : Int) (w1 : -9223372036854775808 ≤ a1 ∧ a1 ≤ 9223372036854775807) (k : Nat) (hk : 300 < k) :
    impl_GetLen.f k l a1 w = some (getLen l a1 w) := by
  have hin : impl_within.f w 2 3 = some (decide (w = 2 ∨ w = 3)) := by
    unfold impl_within.f
    by_cases h : 2 ≤ w
    · rw [if_pos h]; congr 1; apply decide_eq_decide.2; omega
    · rw [if_neg h]; congr 1; symm; apply decide_eq_false; omega
  unfold impl_GetLen.f getLen
  rw [hin, Option.bind_some]
  by_cases h2 : w = 2 ∨ w = 3
  · rw [if_pos (decide_eq_true h2), impl_GetBcd_at l hl hb a1 w w1 (by omega) k (by omega), Option.bind_some]
    unfold asStr
    simp only
    cases hr : (getBcd l a1 w).2.2 with
    | true =>
      obtain ⟨p1, p2, p3, _⟩ := getBcd_ok l a1 w hb hr
      have hz : (strOfNums (getBcd l a1 w).1).size ≤ 18 := by rw [strOfNums_size]; omega
      rw [if_pos rfl, if_pos ⟨h2, rfl⟩, impl_Narrow_at _ (by omega), Option.bind_some, bytesOf_strOfNums _ p3]
      unfold narrow
      rw [if_pos ⟨p1, by omega⟩]
    | false => rw [if_neg (by simp), if_neg (by simp)]
  · rw [if_neg (by simpa using h2), if_neg (fun q => h2 q.1)]
theorem toByteS_l (l : List Int) (hl : l.length ≤ 10000000) : ∀ (d n k : Nat) (y : List Int), n + d = l.length → y.length = l.length → y.take n = l.take n → d < k →
    laws_toByteS.l0 k l y (n : Int) = some l := by
  intro d
  induction d with
  | zero =>
    intro n k y hd hy ht hk
    obtain ⟨k, rfl⟩ : ∃ m, k = m + 1 := ⟨k - 1, by omega⟩
    have c1 : ¬ (n : Int) < (l.length : Int) := by omega
    simp only [laws_toByteS.l0, if_neg c1]
    have hn : n = l.length := by omega
    rw [hn, List.take_length, List.take_of_length_le (by omega)] at ht
    rw [ht]
  | succ d ih =>
    intro n k y hd hy ht hk
    obtain ⟨k, rfl⟩ : ∃ m, k = m + 1 := ⟨k - 1, by omega⟩
    have c1 : (n : Int) < (l.length : Int) := by omega
    have c2 : 0 ≤ (n : Int) := by omega
    have c3 : (n : Int) < (y.length : Int) := by omega
    simp only [laws_toByteS.l0, if_pos c1, if_pos c2, if_pos c3, w64 c2 (by omega), toNat_cast]
    exact ih (n + 1) k _ (by omega) (by simpa using hy) (take_set_succ y l n (by omega) hy ht) (by omega)
theorem toByteS_at (l : List Int) (hl : l.length ≤ 10000000) (k : Nat) (hk : l.length < k) : laws_toByteS.f k l = some l := by
  unfold laws_toByteS.f
  rw [if_pos (by omega), if_pos (by omega)]
  exact toByteS_l l hl l.length 0 k _ (by omega) (by simp) (by simp) hk
theorem eqByteS_l (l : List Int) (hl : l.length ≤ 1000000000) : ∀ (d n k : Nat), n + d = l.length → d < k → laws_eqByteS.l0 k l l (n : Int) = some true := by
  intro d
  induction d with
  | zero =>
    intro n k hd hk
    obtain ⟨k, rfl⟩ : ∃ m, k = m + 1 := ⟨k - 1, by omega⟩
    have c1 : ¬ (n : Int) < (l.length : Int) := by omega
    simp only [laws_eqByteS.l0, if_neg c1]
  | succ d ih =>
    intro n k hd hk
    obtain ⟨k, rfl⟩ : ∃ m, k = m + 1 := ⟨k - 1, by omega⟩
    have c1 : (n : Int) < (l.length : Int) := by omega
    have c2 : 0 ≤ (n : Int) := by omega
    simp only [laws_eqByteS.l0, if_pos c1, if_pos c2, if_true, w64 c2 (by omega)]
    exact ih (n + 1) k (by omega) (by omega)
theorem eqByteS_self (l : List Int) (hl : l.length ≤ 1000000000) (k : Nat) (hk : l.length < k) : laws_eqByteS.f k l l = some true := by
  unfold laws_eqByteS.f
  rw [if_pos rfl]
  exact eqByteS_l l hl l.length 0 k (by omega) hk
theorem FnExactGetLen : ∀ (l0 : List Int) (a1 a2 : Int), l0.length ≤ maxLen → l0.length * 1 ≤ 140737488351232 → (∀ x ∈ l0, (Lit.int .u8 x).wf = true) → (Lit.int .i64 a1).wf = true → (Lit.int .i64 a2).wf = true → ∃ k, laws_FnExactGetLen.f k l0 a1 a2 = some true := by
  intro l a1 a2 _ _ hw w1 _
  have hb : ∀ c ∈ l, isByte c := fun c hc => wf_u8 (hw c hc)
  by_cases hl : (l.length : Int) > 1048576
  · exact ⟨0, by unfold laws_FnExactGetLen.f; rw [if_pos hl]⟩
  refine ⟨l.length + 400, ?_⟩
  have t1 := toByteS_at l (by omega)
  have t2 := eqByteS_self l (by omega)
  have g1 := spec_GetLen_at l (by omega) hb a1 a2 (wf_i64 w1)
  have g2 := impl_GetLen_at l (by omega) hb a1 a2 (wf_i64 w1)
  unfold laws_FnExactGetLen.f
  rw [if_neg hl]
  simp (disch := omega) only [t1, t2, g1, g2, Option.bind_some, if_true, bne_self_eq_false]
  rw [laws_FnExactGetLen.j0]
  simp (disch := omega) only [t1, t2, Option.bind_some, if_true, Bool.false_eq_true, if_false]
end Go.Proofs.YtiglmmofapcefaaDoor.Q
end
section
/- The start that fits a row that lists the three tables and the two sentinels of strconv, and what the rows' list gives the walks: for rows of tied cards. -/
namespace Go.Proofs.YtiglmmofapcefaaDoor.Laid
open Go.ChangeShapes Go.WideShapes Go.ChangeAt Go.RowKit
def valsOf (d : DataW Unit) : Array Value := match d with
  | .agg l => (l.map fun | .lit (.int k z) => Value.int k z | _ => .bool false).toArray
  | _ => #[]
def put (d : DataW Unit) : Obj → Obj
  | .cells _ t frozen => .cells (valsOf d) t frozen
  | o => o
def point (b : Nat) : Obj → Obj
  | .cells _ t frozen => .cells #[.iface 154 (.pointer (some ⟨b, 0, none⟩))] t frozen
  | o => o
abbrev synS : ByteArray := { data := #[105, 110, 118, 97, 108, 105, 100, 32, 115, 121, 110, 116, 97, 120] }
abbrev rngS : ByteArray := { data := #[118, 97, 108, 117, 101, 32, 111, 117, 116, 32, 111, 102, 32, 114, 97, 110, 103, 101] }
/-- So many blocks has the settled world. -/
noncomputable def low : Nat := (World.holding Tryd.prog default ⟨#[], #[], []⟩).heap.size
/-- The settled world with the three tables laid, and two blocks more for the sentinels. -/
noncomputable def world (os : Os) : World :=
  let w0 := World.holding Tryd.prog os ⟨#[.cells #[.string synS] 156, .cells #[.string rngS] 156], #[], []⟩
  { w0 with heap := ((((w0.heap.modify 3 (put Rows.laid_internal_strconv_uint64pow10)).modify 4 (put Rows.laid_math_bits_deBruijn32tab)).modify 5 (put Rows.laid_math_bits_deBruijn64tab)).modify 0 (point low)).modify 1 (point (low + 1)) }
abbrev list5 : List (String × DataW Unit) := [("math/bits.deBruijn32tab", Rows.laid_math_bits_deBruijn32tab), ("math/bits.deBruijn64tab", Rows.laid_math_bits_deBruijn64tab), ("internal/strconv.uint64pow10", Rows.laid_internal_strconv_uint64pow10), ("strconv.ErrRange", Rows.laid_strconv_ErrRange), ("strconv.ErrSyntax", Rows.laid_strconv_ErrSyntax)]
set_option maxRecDepth 100000 in
theorem met (os : Os) (args : Array Value) : laidMet Tryd.prog list5 ((world os).forCall (fun _ _ => 0) ⟨#[], args, []⟩).memory :=
  laidMet_of_run' 100 (by kernel_rfl) (by kernel_rfl)
theorem gPowType : (Tryd.prog.globals[3]?).map (·.type) = some 150 := by kernel_rfl
theorem gl {W : World} (h : laidMet Tryd.prog list5 W) : Q.GLW W :=
  Lib.tabIs_of_head Q.gPow gPowType Tryd.underlying150 Tryd.underlying125 (by kernel_rfl) (by kernel_rfl) (show laidMet Tryd.prog (("internal/strconv.uint64pow10", Lib.tabData .u64 Lib.pow10Tab) :: _) W from h.tail.tail)
end Go.Proofs.YtiglmmofapcefaaDoor.Laid
end
