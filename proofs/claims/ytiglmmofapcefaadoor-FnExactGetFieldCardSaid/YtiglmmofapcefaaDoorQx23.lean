-- Written by a program of this session (wip/mkprint.py, after the kit's print). Lean checks it.
import Derived.Test.YtiglmmofapcefaaDoorQx0
import Derived.Test.YtiglmmofapcefaaDoorQx2
import Derived.Test.YtiglmmofapcefaaDoorQx13
import Derived.Test.YtiglmmofapcefaaDoorExtPiece
namespace Go.Proofs.YtiglmmofapcefaaDoor.Q
open Go.RowKit Go.Proofs.YtiglmmofapcefaaDoorW.PrintWords Go.Proofs.YtiglmmofapcefaaDoorW.PrintLast Go.Proofs.YtiglmmofapcefaaDoorW.PrintMore
attribute [local go_sem] max2_int min2_int max_two min_two max_three min_three max_four min_four   -- for this text's walks alone
set_option linter.unusedVariables false
set_option linter.unusedSimpArgs false

/-! ### impl_GetBcd: function 52 -/
def impl_GetBcd.l0 : Nat → Int → Int → List Int → Bool → List Int → List Int → Int → Int → Option (ByteArray × Int × Bool)
  | 0, _, _, _, _, _, _, _, _ => none
  | k + 1, x1, x2, x9, x10, x11, x27, x28, x29 => if x29 < x28 then (if 0 ≤ x29 then (if x29 < (x27.length : Int) then ((some (([(48 + ((rd x27 x29) / 16)) % 256, (48 + (Go.bits .and .u8 (rd x27 x29) 15)) % 256] : List Int) : List Int)).bind fun y203 => (if x11.length + y203.length < 140737488355328 then (impl_GetBcd.l0 k x1 x2 x9 x10 (x11 ++ y203) x27 x28 (wrap64 (x29 + 1))) else (none))) else (none)) else (none)) else (if x10 = true then ((impl_Digits.f k (strOfNums x11)).bind fun t209 => (if t209 = true then (if (Int.tmod x2 2) = 1 then (if 0 < (x11.length : Int) then (if (rd x11 0) = 48 then (if 0 ≤ (wrap64 ((x11.length : Int) - x2)) then (if (wrap64 ((x11.length : Int) - x2)) ≤ (x11.length : Int) then (some (strOfNums (x11.drop ((wrap64 ((x11.length : Int) - x2)) : Int).toNat), wrap64 (x1 + (x9.length : Int)), true)) else (none)) else (none)) else (some ((⟨#[]⟩ : ByteArray), 0, false))) else (none)) else (if 0 ≤ (wrap64 ((x11.length : Int) - x2)) then (if (wrap64 ((x11.length : Int) - x2)) ≤ (x11.length : Int) then (some (strOfNums (x11.drop ((wrap64 ((x11.length : Int) - x2)) : Int).toNat), wrap64 (x1 + (x9.length : Int)), true)) else (none)) else (none))) else (some ((⟨#[]⟩ : ByteArray), 0, false)))) else (some ((⟨#[]⟩ : ByteArray), 0, false)))
def impl_GetBcd.f (k : Nat) (l0 : List Int) (a1 : Int) (a2 : Int) : Option (ByteArray × Int × Bool) := (impl_within.f a2 1 38).bind fun t194 => (if t194 = true then ((impl_piece.f l0 a1 (wrap64 (Int.tdiv (wrap64 (a2 + 1)) 2))).bind fun bt195 => (impl_GetBcd.l0 k a1 a2 bt195.1 bt195.2 (([] : List Int)) bt195.1 (bt195.1.length : Int) 0)) else (some ((⟨#[]⟩ : ByteArray), 0, false)))
theorem impl_GetBcd.mono_l : ∀ k, (∀ y0 y1 y2 y3 y4 y5 y6 y7, LeO (impl_GetBcd.l0 k y0 y1 y2 y3 y4 y5 y6 y7) (impl_GetBcd.l0 (k + 1) y0 y1 y2 y3 y4 y5 y6 y7))
  | 0 => fun _ _ _ _ _ _ _ _ r h => by simp [impl_GetBcd.l0] at h
  | k + 1 => by
    have ih0 := impl_GetBcd.mono_l k
    · intro y0 y1 y2 y3 y4 y5 y6 y7
      unfold impl_GetBcd.l0
      repeat' first
      | (with_reducible exact ih0 _ _ _ _ _ _ _ _)
      | (with_reducible exact impl_Digits.mono _ _)
      | (with_reducible exact LeO.refl _)
      | (with_reducible exact LeO.none _)
      | (with_reducible refine LeO.ite ?_ ?_)
      | (with_reducible refine LeO.bind ?_ (fun _ => ?_))
      | exact ih0 _ _ _ _ _ _ _ _
      | exact impl_Digits.mono _ _
      | exact LeO.none _
      | refine LeO.ite ?_ ?_
      | refine LeO.bind ?_ (fun _ => ?_)
theorem impl_GetBcd.mono : ∀ a0 a1 a2 k, LeO (impl_GetBcd.f k a0 a1 a2) (impl_GetBcd.f (k + 1) a0 a1 a2) := by
  intro a0 a1 a2 k
  have ih0 := impl_GetBcd.mono_l k
  unfold impl_GetBcd.f
  repeat' first
      | (with_reducible exact ih0 _ _ _ _ _ _ _ _)
      | (with_reducible exact impl_Digits.mono _ _)
      | (with_reducible exact LeO.refl _)
      | (with_reducible exact LeO.none _)
      | (with_reducible refine LeO.ite ?_ ?_)
      | (with_reducible refine LeO.bind ?_ (fun _ => ?_))
      | exact ih0 _ _ _ _ _ _ _ _
      | exact impl_Digits.mono _ _
      | exact LeO.none _
      | refine LeO.ite ?_ ?_
      | refine LeO.bind ?_ (fun _ => ?_)
set_option maxHeartbeats 8000000 in
set_option maxRecDepth 100000 in
theorem impl_GetBcd.calls (k : Nat) (A0 : Option Addr) (c0 : Nat) (l0 : List Int) (a1 : Int) (a2 : Int) (r1 : ByteArray) (r2 : Int) (r3 : Bool) (w : World) (hr0 : Kd.C (Kd.int .u8) w A0 l0.length l0) (hc0 : l0.length ≤ c0) (h : impl_GetBcd.f k l0 a1 a2 = some (r1, r2, r3)) :
    Calls Tryd.prog 52 #[.slice A0 l0.length c0, .int .i64 a1, .int .i64 a2] w fun e w' => e = .returned (.tuple #[.string r1, .int .i64 r2, .bool r3]) ∧ Below w.heap.size w w' := by
  have HR0 := Aside0.mk hr0
  have HC0 := Aside0.mk hc0
  clear hr0 hc0
  have HB := Aside0.mk (Below.refl w.heap.size w)
  have H : ((impl_within.f a2 1 38).bind fun t194 => (if t194 = true then ((impl_piece.f l0 a1 (wrap64 (Int.tdiv (wrap64 (a2 + 1)) 2))).bind fun bt195 => (impl_GetBcd.l0 k a1 a2 bt195.1 bt195.2 (([] : List Int)) bt195.1 (bt195.1.length : Int) 0)) else (some ((⟨#[]⟩ : ByteArray), 0, false)))) = some (r1, r2, r3) := h
  clear h
  replace H := Option.bind_eq_some_iff.mp H
  obtain ⟨t194, A40, H⟩ := H
  replace H : (if t194 = true then ((impl_piece.f l0 a1 (wrap64 (Int.tdiv (wrap64 (a2 + 1)) 2))).bind fun bt195 => (impl_GetBcd.l0 k a1 a2 bt195.1 bt195.2 (([] : List Int)) bt195.1 (bt195.1.length : Int) 0)) else (some ((⟨#[]⟩ : ByteArray), 0, false))) = some (r1, r2, r3) := H
  have A4 := Aside0.mk A40
  clear A40
  by_cases c5 : t194 = true
  · subst c5
    have H1 : ((impl_piece.f l0 a1 (wrap64 (Int.tdiv (wrap64 (a2 + 1)) 2))).bind fun bt195 => (impl_GetBcd.l0 k a1 a2 bt195.1 bt195.2 (([] : List Int)) bt195.1 (bt195.1.length : Int) 0)) = some (r1, r2, r3) := by rw [if_pos rfl] at H; exact H
    clear H
    have H := H1
    clear H1
    replace H := Option.bind_eq_some_iff.mp H
    obtain ⟨⟨t195, t196⟩, A60, H⟩ := H
    replace H : (impl_GetBcd.l0 k a1 a2 t195 t196 (([] : List Int)) t195 (t195.length : Int) 0) = some (r1, r2, r3) := H
    have A6 := Aside0.mk A60
    clear A60
    obtain ⟨y199, hy199⟩ : ∃ y_ : List Int, y_ = (([] : List Int)) := ⟨_, rfl⟩
    replace H : (impl_GetBcd.l0 k a1 a2 t195 t196 y199 t195 (t195.length : Int) 0) = some (r1, r2, r3) := by first | (rw [hy199]; with_reducible exact H) | (have H2_ := (Option.bind_some _ _).symm.trans H; rw [hy199]; with_reducible exact H2_) | (have H2_ := (Option.bind_some _ _).symm.trans H; with_reducible exact H2_) | with_reducible exact H | (rw [hy199]; exact H) | exact H
    have Ny199 := Aside0.mk hy199
    clear hy199
    have H' := Aside0.mk H
    clear H
    go_enter Tryd.func52, Tryd.ntmps52
    go_wp2_with (first | ((with_reducible refine gate_callee (f := 67) rfl ?_); refine goesL_ (some 15) rfl rfl Tryd.func67 (by kernel_rfl) rfl #[.int .i64 a2, .int .i64 1, .int .i64 38] rfl (by (try simp only [List.map_toArray, List.map_cons, List.map_nil]); first | done | rfl | (simp only [List.length_drop, List.length_take]; rfl)) ?_; (with_reducible refine (impl_within.calls a2 1 38 true _ A4.out).mono ?_); rintro e w' ⟨rfl, ⟨nd, rfl⟩⟩; refine ⟨_, rfl, ?_⟩) | ((with_reducible refine gate_callee (f := 83) rfl ?_); refine goesL_ (some 23) rfl rfl Tryd.func83 (by kernel_rfl) rfl #[.slice A0 l0.length c0, .int .i64 a1, .int .i64 (wrap64 (Int.tdiv (wrap64 (a2 + 1)) 2))] rfl (by (try simp only [List.map_toArray, List.map_cons, List.map_nil]); first | done | rfl | (simp only [List.length_drop, List.length_take]; rfl)) ?_; (with_reducible refine (impl_piece.calls _ _ l0 a1 (wrap64 (Int.tdiv (wrap64 (a2 + 1)) 2)) t195 t196 _ ?side1 ?side2 A6.out).mono ?_); (case side1 => repeat (first | exact HR0.out | (with_reducible refine Kd.C_alloc ?_ _) | (with_reducible refine Kd.C_drewN ?_ _) | (with_reducible refine Kd.C_drew ?_))); (case side2 => exact HC0.out); rintro e w' ⟨A90195, c90195, rfl, hr90195_, hc90195_, ⟨nd, rfl⟩⟩; refine ⟨_, rfl, ?_⟩; have HR90195 := Aside0.mk (hr90195_ _ HR0.out); have HC90195 := Aside0.mk hc90195_; clear hr90195_ hc90195_) | ((with_reducible refine gate_dst (N := 26) rfl ?_); refine Kd.R_lit (Kd.int .u8) _ 5 ?hg (N := 26) ?hd (xs := ([] : List Int)) (inner := []) (ok := fun _ => True) (okp := fun _ => True) ?hr ?hp (fun _ hk => hk) trivial (Below.refl _ _) (Nat.le_refl _) (by simp) ?_; (case hd => rfl); (case hg => rfl); (case hr => first | (go_simp; done) | (go_simp; rfl)); (case hp => exact (Reps.none _ _)); intro v200 w7 ho8 hb hg_ hnew_; clear hg_ hnew_; (first | rw [← Ny199.out] at ho8 | (simp only [Int.reduceToNat] at ho8; rw [← Ny199.out] at ho8)); have n0_ := Aside0.mk (Kd.R_lower ho8 (below_size (by repeat (first | (with_reducible first | exact HB.out | apply below_alloc | apply pw_below_drewN | apply below_drew1) | exact HB.out)))); have n1_ := Aside0.mk (below_step (by repeat (first | (with_reducible first | exact HB.out | apply below_alloc | apply pw_below_drewN | apply below_drew1) | exact HB.out)) hb); clear HB; have HO201 := n0_; have HB := n1_; clear n0_ n1_; clear hb ho8))
    go_loopg [11, 29] k (fun kq v11 v29 w' => ∃ (x11_1 : List Int) (x29_1 : Int), v29 = .int .i64 x29_1 ∧ Aside0 (impl_GetBcd.l0 kq a1 a2 t195 t196 x11_1 t195 (t195.length : Int) x29_1 = some (r1, r2, r3)) ∧ Aside0 (kq ≤ k) ∧ Aside0 (Kd.R (Kd.int .u8) 5 w' w.heap.size (fun _ => True) v11 x11_1) ∧ Aside0 (Below w.heap.size w w'))
    case atStart => exact ⟨(y199), (0), (by first | rfl | (simp; done) | (simp [*]; done) | (have e_ : ∀ x_ : Int, wrap64 (x_ % 256) = x_ % 256 := (fun x_ => (by unfold wrap64; omega)); simp [i64_w, IntKind.wrap_u8, e_]; done) | (simp; generalize ByteArray.toList _ = zz_; cases zz_ <;> rfl)), H', ⟨Nat.le_refl _⟩, ⟨by (with_reducible repeat (first | apply Kd.R_alloc | apply Kd.R_drewN | apply Kd.R_drew)); exact HO201.out⟩, ⟨by repeat (first | (with_reducible first | exact HB.out | apply below_alloc | apply pw_below_drewN | apply below_drew1) | exact HB.out)⟩⟩
    case round =>
      clear H'
      try clear p2
      try clear c5
      try clear c6
      try clear p6
      try clear c8
      obtain ⟨x11_1, x29_1, rfl, HA, HK1, HO_11, HB⟩ := hrel
      cases gk with
      | zero => exact absurd HA.out (by simp [impl_GetBcd.l0])
      | succ k1 =>
        have H := HA.out
        clear HA
        simp only [impl_GetBcd.l0] at H
        by_cases c9 : x29_1 < (t195.length : Int)
        · rw [if_pos c9] at H
          have c9b0 : decide (x29_1 < (t195.length : Int)) = true := decide_eq_true c9
          clear c9
          by_cases c10 : 0 ≤ x29_1
          · rw [if_pos c10] at H
            have c10b0 : decide (0 ≤ x29_1) = true := decide_eq_true c10
            clear c10
            by_cases c11 : x29_1 < (t195.length : Int)
            · rw [if_pos c11] at H
              have c11b0 : decide (x29_1 < (t195.length : Int)) = true := decide_eq_true c11
              clear c11
              obtain ⟨y203, hy203⟩ : ∃ y_ : List Int, y_ = (([(48 + ((rd t195 x29_1) / 16)) % 256, (48 + (Go.bits .and .u8 (rd t195 x29_1) 15)) % 256] : List Int)) := ⟨_, rfl⟩
              replace H : (if x11_1.length + y203.length < 140737488355328 then (impl_GetBcd.l0 k1 a1 a2 t195 t196 (x11_1 ++ y203) t195 (t195.length : Int) (wrap64 (x29_1 + 1))) else (none)) = some (r1, r2, r3) := by first | (rw [hy203]; with_reducible exact H) | (have H2_ := (Option.bind_some _ _).symm.trans H; rw [hy203]; with_reducible exact H2_) | (have H2_ := (Option.bind_some _ _).symm.trans H; with_reducible exact H2_) | with_reducible exact H | (rw [hy203]; exact H) | exact H
              have Ny203 := Aside0.mk hy203
              clear hy203
              by_cases c12 : x11_1.length + y203.length < 140737488355328
              · rw [if_pos c12] at H
                have LMc12 := Aside0.mk c12
                clear c12
                obtain ⟨y206, hy206⟩ : ∃ y_ : List Int, y_ = (x11_1 ++ y203) := ⟨_, rfl⟩
                replace H : (impl_GetBcd.l0 k1 a1 a2 t195 t196 y206 t195 (t195.length : Int) (wrap64 (x29_1 + 1))) = some (r1, r2, r3) := by first | (rw [hy206]; with_reducible exact H) | (have H2_ := (Option.bind_some _ _).symm.trans H; rw [hy206]; with_reducible exact H2_) | (have H2_ := (Option.bind_some _ _).symm.trans H; with_reducible exact H2_) | with_reducible exact H | (rw [hy206]; exact H) | exact H
                have Ny206 := Aside0.mk hy206
                clear hy206
                have H' := Aside0.mk H
                clear H
                have p202 : 0 ≤ (x29_1 : Int) := of_decide_eq_true (by first | (with_reducible assumption) | assumption)
                have q202 : x29_1 < (t195.length : Int) := of_decide_eq_true (by first | (with_reducible assumption) | assumption)
                obtain ⟨ad202, e202, hx202_0⟩ := Kd.at_int HR90195.out x29_1 p202 q202
                cases e202
                replace hx202_0 := (HB.out.cell (World.block_lt_of_cell? w _ hx202_0)).trans hx202_0
                replace p202 := eq_true p202
                replace q202 := eq_true q202
                go_wp2_with (first | ((with_reducible refine gate_dst (N := 40) rfl ?_); refine Kd.R_lit (Kd.int .u8) _ 5 ?hg (N := 40) ?hd (xs := ([(48 + ((rd t195 x29_1) / 16)) % 256, (48 + (Go.bits .and .u8 (rd t195 x29_1) 15)) % 256] : List Int)) (inner := [.int .u8 ((48 + ((rd t195 x29_1) / 16)) % 256), .int .u8 ((48 + (Go.bits .and .u8 (rd t195 x29_1) 15)) % 256)]) (ok := fun _ => True) (okp := fun _ => True) ?hr ?hp (fun _ hk => hk) trivial (Below.refl _ _) (Nat.le_refl _) (by simp) ?_; (case hd => rfl); (case hg => rfl); (case hr => first | (go_simp; done) | (go_simp; rfl)); (case hp => exact (Reps.one (show Kd.M (Kd.int .u8) _ _ _ ((48 + ((rd t195 x29_1) / 16)) % 256) [.int .u8 ((48 + ((rd t195 x29_1) / 16)) % 256)] from rfl) (Reps.one (show Kd.M (Kd.int .u8) _ _ _ ((48 + (Go.bits .and .u8 (rd t195 x29_1) 15)) % 256) [.int .u8 ((48 + (Go.bits .and .u8 (rd t195 x29_1) 15)) % 256)] from rfl) (Reps.none _ _)))); intro v204 w13 ho14 hb hg_ hnew_; clear hg_ hnew_; (first | rw [← Ny203.out] at ho14 | (simp only [Int.reduceToNat] at ho14; rw [← Ny203.out] at ho14)); have n0_ := Aside0.mk (Kd.R_elder' (by (with_reducible repeat (first | apply Kd.R_alloc | apply Kd.R_drewN | apply Kd.R_drew)); exact HO_11.out) (Kd.R_base ho14) hb); have n1_ := Aside0.mk (Kd.R_lower (Kd.R_new' ho14 (Kd.R_lt (by (with_reducible repeat (first | apply Kd.R_alloc | apply Kd.R_drewN | apply Kd.R_drew)); exact HO_11.out))) (below_size (by repeat (first | (with_reducible first | exact HB.out | apply below_alloc | apply pw_below_drewN | apply below_drew1) | exact HB.out)))); have n2_ := Aside0.mk (below_step (by repeat (first | (with_reducible first | exact HB.out | apply below_alloc | apply pw_below_drewN | apply below_drew1) | exact HB.out)) hb); clear HO_11; clear HB; have HO_11 := n0_; have HO205 := n1_; have HB := n2_; clear n0_ n1_ n2_; clear hb ho14; obtain ⟨Ao16, co16, eo16⟩ := Kd.R_slice HO205.out; subst eo16) | ((with_reducible refine gate_builtin (b := .append) (xs := #[.tmp 33, .tmp 40]) rfl ?_); at_builtin; refine Kd.R_append_rows (Kd.int .u8) (w0 := w) w.heap.size rfl (.tmp 33) (.tmp 40) 29 5 (.int .u8 0) 1 rfl Tryd.underlying29 info5 rfl (by decide) (by omega) u11 x11_1 y203 _ _ _ (fun k_ => some k_ ≠ (.slice Ao16 y203.length co16 : Value).ownBlock) (fun _ => False) rfl rfl ?aO ?aR (fun _ _ h => h) (fun _ h => h.elim) ?aF ?aB ?aS ?aL ?_; (case aR => repeat (first | exact (Kd.R_reads' HO205.out).2.2 | (with_reducible refine Kd.C_alloc ?_ _) | (with_reducible refine Kd.C_drewN ?_ _) | (with_reducible refine Kd.C_drew ?_))); (case aB => exact (by repeat (first | (with_reducible first | exact HB.out | apply below_alloc | apply pw_below_drewN | apply below_drew1) | exact HB.out))); (case aF => exact (fun k_ hk => Kd.fresh' (Kd.R_lt (by (with_reducible repeat (first | apply Kd.R_alloc | apply Kd.R_drewN | apply Kd.R_drew)); exact HO205.out)) k_ hk)); (case aO => exact (by (with_reducible repeat (first | apply Kd.R_alloc | apply Kd.R_drewN | apply Kd.R_drew)); exact Kd.R_mono HO_11.out (fun _ hk => hk.2))); (case aS => exact (below_size (by repeat (first | (with_reducible first | exact HB.out | apply below_alloc | apply pw_below_drewN | apply below_drew1) | exact HB.out)))); (case aL => have := LMc12.out; omega); intro v207 w15 ho hb hg hat; rw [← Ny206.out] at ho; have n0_ := Aside0.mk (Kd.R_after (ok := (fun _ => True)) (by (with_reducible repeat (first | apply Kd.R_alloc | apply Kd.R_drewN | apply Kd.R_drew)); exact HO205.out) hg hat); have n1_ := Aside0.mk (hb); have n2_ := Aside0.mk (ho); clear HO205; clear HB; clear HO_11; have HO205 := n0_; have HB := n1_; have HO208 := n2_; clear n0_ n1_ n2_; clear ho hb hg hat))
                go_roundg k1
                case measure => have := HK1.out; omega
                case rel => exact ⟨(y206), (wrap64 (x29_1 + 1)), (by first | rfl | (simp; done) | (simp [*]; done) | (have e_ : ∀ x_ : Int, wrap64 (x_ % 256) = x_ % 256 := (fun x_ => (by unfold wrap64; omega)); simp [i64_w, IntKind.wrap_u8, e_]; done) | (simp; generalize ByteArray.toList _ = zz_; cases zz_ <;> rfl)), H', ⟨by have := HK1.out; omega⟩, ⟨by (with_reducible repeat (first | apply Kd.R_alloc | apply Kd.R_drewN | apply Kd.R_drew)); exact Kd.R_mono HO208.out (fun _ hk => trivial)⟩, ⟨by repeat (first | (with_reducible first | exact HB.out | apply below_alloc | apply pw_below_drewN | apply below_drew1) | exact HB.out)⟩⟩
              · rw [if_neg c12] at H
                exact absurd H (by simp)
            · rw [if_neg c11] at H
              exact absurd H (by simp)
          · rw [if_neg c10] at H
            exact absurd H (by simp)
        · rw [if_neg c9] at H
          have c9b0 : decide (x29_1 < (t195.length : Int)) = false := decide_eq_false c9
          clear c9
          by_cases c17 : t196 = true
          · subst c17
            have H1 : ((impl_Digits.f k1 (strOfNums x11_1)).bind fun t209 => (if t209 = true then (if (Int.tmod a2 2) = 1 then (if 0 < (x11_1.length : Int) then (if (rd x11_1 0) = 48 then (if 0 ≤ (wrap64 ((x11_1.length : Int) - a2)) then (if (wrap64 ((x11_1.length : Int) - a2)) ≤ (x11_1.length : Int) then (some (strOfNums (x11_1.drop ((wrap64 ((x11_1.length : Int) - a2)) : Int).toNat), wrap64 (a1 + (t195.length : Int)), true)) else (none)) else (none)) else (some ((⟨#[]⟩ : ByteArray), 0, false))) else (none)) else (if 0 ≤ (wrap64 ((x11_1.length : Int) - a2)) then (if (wrap64 ((x11_1.length : Int) - a2)) ≤ (x11_1.length : Int) then (some (strOfNums (x11_1.drop ((wrap64 ((x11_1.length : Int) - a2)) : Int).toNat), wrap64 (a1 + (t195.length : Int)), true)) else (none)) else (none))) else (some ((⟨#[]⟩ : ByteArray), 0, false)))) = some (r1, r2, r3) := by rw [if_pos rfl] at H; exact H
            clear H
            have H := H1
            clear H1
            replace H := Option.bind_eq_some_iff.mp H
            obtain ⟨t209, A180, H⟩ := H
            replace H : (if t209 = true then (if (Int.tmod a2 2) = 1 then (if 0 < (x11_1.length : Int) then (if (rd x11_1 0) = 48 then (if 0 ≤ (wrap64 ((x11_1.length : Int) - a2)) then (if (wrap64 ((x11_1.length : Int) - a2)) ≤ (x11_1.length : Int) then (some (strOfNums (x11_1.drop ((wrap64 ((x11_1.length : Int) - a2)) : Int).toNat), wrap64 (a1 + (t195.length : Int)), true)) else (none)) else (none)) else (some ((⟨#[]⟩ : ByteArray), 0, false))) else (none)) else (if 0 ≤ (wrap64 ((x11_1.length : Int) - a2)) then (if (wrap64 ((x11_1.length : Int) - a2)) ≤ (x11_1.length : Int) then (some (strOfNums (x11_1.drop ((wrap64 ((x11_1.length : Int) - a2)) : Int).toNat), wrap64 (a1 + (t195.length : Int)), true)) else (none)) else (none))) else (some ((⟨#[]⟩ : ByteArray), 0, false))) = some (r1, r2, r3) := H
            have A18 := Aside0.mk A180
            clear A180
            by_cases c19 : t209 = true
            · subst c19
              have H1 : (if (Int.tmod a2 2) = 1 then (if 0 < (x11_1.length : Int) then (if (rd x11_1 0) = 48 then (if 0 ≤ (wrap64 ((x11_1.length : Int) - a2)) then (if (wrap64 ((x11_1.length : Int) - a2)) ≤ (x11_1.length : Int) then (some (strOfNums (x11_1.drop ((wrap64 ((x11_1.length : Int) - a2)) : Int).toNat), wrap64 (a1 + (t195.length : Int)), true)) else (none)) else (none)) else (some ((⟨#[]⟩ : ByteArray), 0, false))) else (none)) else (if 0 ≤ (wrap64 ((x11_1.length : Int) - a2)) then (if (wrap64 ((x11_1.length : Int) - a2)) ≤ (x11_1.length : Int) then (some (strOfNums (x11_1.drop ((wrap64 ((x11_1.length : Int) - a2)) : Int).toNat), wrap64 (a1 + (t195.length : Int)), true)) else (none)) else (none))) = some (r1, r2, r3) := by rw [if_pos rfl] at H; exact H
              clear H
              have H := H1
              clear H1
              by_cases c20 : (Int.tmod a2 2) = 1
              · rw [if_pos c20] at H
                have c20b0 : ((Int.tmod a2 2) == 1) = true := beq_iff_eq.mpr c20
                have c20b1 : ((Int.tmod a2 2) != 1) = false := bne_eq_false_iff_eq.mpr c20
                clear c20
                by_cases c21 : 0 < (x11_1.length : Int)
                · rw [if_pos c21] at H
                  have c21b0 : decide (0 < (x11_1.length : Int)) = true := decide_eq_true c21
                  have c21b1 : decide (0 < x11_1.length) = true := decide_eq_true (by omega)
                  clear c21
                  by_cases c22 : (rd x11_1 0) = 48
                  · rw [if_pos c22] at H
                    have c22b0 : ((rd x11_1 0) == 48) = true := beq_iff_eq.mpr c22
                    have c22b1 : ((rd x11_1 0) != 48) = false := bne_eq_false_iff_eq.mpr c22
                    clear c22
                    obtain ⟨ji23, hji23⟩ : ∃ j_ : Int, (wrap64 ((x11_1.length : Int) - a2)) = j_ := ⟨_, rfl⟩
                    replace H : (if 0 ≤ (ji23) then (if (ji23) ≤ (x11_1.length : Int) then (some (strOfNums (x11_1.drop ((ji23) : Int).toNat), wrap64 (a1 + (t195.length : Int)), true)) else (none)) else (none)) = some (r1, r2, r3) := by first | (rw [hji23] at H; exact H) | (simp only [hji23] at H ⊢; exact H)
                    (try rw [hji23] at A18)
                    have hji23w : (IntKind.i64.wrap ((x11_1.length : Int) - a2)) = ji23 := (i64_w _).trans hji23
                    by_cases c24 : 0 ≤ (ji23)
                    · rw [if_pos c24] at H
                      have c24b0 := eq_true c24
                      have c24b1 : decide (0 ≤ (ji23)) = true := decide_eq_true c24
                      clear c24
                      by_cases c25 : (ji23) ≤ (x11_1.length : Int)
                      · rw [if_pos c25] at H
                        have c25b0 := eq_true c25
                        have c25b1 : decide ((ji23) ≤ (x11_1.length : Int)) = true := decide_eq_true c25
                        clear c25
                        obtain ⟨y211, hy211⟩ : ∃ y_ : List Int, y_ = (x11_1.drop ((ji23) : Int).toNat) := ⟨_, rfl⟩
                        replace H : (some (strOfNums y211, wrap64 (a1 + (t195.length : Int)), true)) = some (r1, r2, r3) := by first | (rw [hy211]; with_reducible exact H) | (have H2_ := (Option.bind_some _ _).symm.trans H; rw [hy211]; with_reducible exact H2_) | (have H2_ := (Option.bind_some _ _).symm.trans H; with_reducible exact H2_) | with_reducible exact H | (rw [hy211]; exact H) | exact H
                        have Ny211 := Aside0.mk hy211
                        clear hy211
                        simp only [Option.some.injEq, Prod.mk.injEq] at H
                        obtain ⟨rfl, rfl, rfl⟩ := H
                        have hcv26 := own_string (P := Tryd.prog) Tryd.underlying29 Tryd.underlying5 Tryd.underlying9 (Kd.own_of_R HO_11.out)
                        go_wp2_with (first | (go_at_call 70; (with_reducible refine (impl_Digits.calls k1 (strOfNums x11_1) true _ A18.out).mono ?_); rintro e w' ⟨rfl, ⟨nd, rfl⟩⟩; obtain ⟨Ao27, co27, eo27⟩ := Kd.R_slice HO_11.out; subst eo27; have p210 : 0 ≤ (0 : Int) := (by omega); have q210 : 0 < (x11_1.length : Int) := of_decide_eq_true (by first | (with_reducible assumption) | assumption); obtain ⟨ad210, e210, hx210_0⟩ := Kd.at_int (Kd.R_reads' HO_11.out).2.2 0 p210 q210; cases e210; have qi210 : (0 < x11_1.length) = True := eq_true (by omega); (try rw [show ((0 : Int)).toNat = 0 from rfl] at hx210_0); (try rw [Addr.add_zero'] at hx210_0); replace p210 := eq_true p210; replace q210 := eq_true q210; have q28 : ((ji23) : Int) ≤ ((x11_1.length : Int) : Int) := of_decide_eq_true (by first | (with_reducible assumption) | assumption); obtain ⟨i028, hi028, _, hsz28, _⟩ := info_parts info5; have hroom28 : x11_1.length ≤ co27 := (Kd.R_reads' HO_11.out).2.1; have hC28 : Kd.C (Kd.int .u8) _ (some ad210) x11_1.length x11_1 := (Kd.R_reads' HO_11.out).2.2; have q028 : (0 : Int) ≤ ((ji23) : Int) := of_decide_eq_true (by first | (with_reducible assumption) | assumption); have hcut28 := cut_from (P := Tryd.prog) 29 5 .i64 Tryd.underlying29 hi028 1 hsz28 (some ad210) x11_1.length co27 (ji23) q028 q28; have hr28 := Kd.C_drop (m := ((ji23) : Int).toNat) (c := co27) hC28 (by omega) hroom28; obtain ⟨A28, hA28⟩ : ∃ A1, A1 = (if co27 = ((ji23) : Int).toNat then (some ad210) else ((some ad210) : Option Addr).map (·.add (((ji23) : Int).toNat * 1))) := ⟨_, rfl⟩; obtain ⟨c28, hc28⟩ : ∃ c1, c1 = co27 - ((ji23) : Int).toNat := ⟨_, rfl⟩; have hy28 : y211.length = x11_1.length - ((ji23) : Int).toNat := (by rw [Ny211.out, List.length_drop] <;> omega); rw [show (x11_1).drop ((ji23) : Int).toNat = y211 from Ny211.out.symm] at hr28; replace hr28 : Kd.C (Kd.int .u8) _ A28 y211.length y211 := (by rw [hA28]; exact hr28); rw [← hy28, ← hA28, ← hc28] at hcut28; have HR214 := Aside0.mk hr28; have HC214 := Aside0.mk (show y211.length ≤ c28 from by rw [hy28, hc28]; exact Nat.sub_le_sub_right hroom28 _); clear hr28 hC28 hroom28 hi028 hsz28 hc28; have KY28 := Aside0.mk hy28; have KA28 := Aside0.mk hA28; clear hy28 hA28; have KL28 := Aside0.mk (show ((ji23) : Int).toNat ≤ x11_1.length from by omega); replace q28 := eq_true q28; have hcv29 := Kd.C_string (P := Tryd.prog) (A := A28) (c := c28) Tryd.underlying29 Tryd.underlying5 Tryd.underlying9 (by repeat (first | (with_reducible exact HR214.out) | (with_reducible refine Kd.C_alloc ?_ _) | (with_reducible refine Kd.C_drewN ?_ _) | (with_reducible refine Kd.C_drew ?_) | exact HR214.out)); (try (have hcvd30 := fun (nq_ : Nat) => Kd.C_string (P := Tryd.prog) (A := A28) (c := c28) Tryd.underlying29 Tryd.underlying5 Tryd.underlying9 (Kd.C_drewN HR214.out nq_)))))
                        go_ret3
                        exact ⟨by first | rfl | (simp [errW_none, errW_some] <;> rfl) | (simp only [← hji23]; first | rfl | (simp [errW_none, errW_some] <;> rfl) | (simp [i64_w, IntKind.wrap_u8] <;> rfl)) | (simp [*, errW_none, errW_some] <;> rfl), by repeat (first | (with_reducible first | exact HB.out | apply below_alloc | apply pw_below_drewN | apply below_drew1) | exact HB.out)⟩
                      · rw [if_neg c25] at H
                        exact absurd H (by simp)
                    · rw [if_neg c24] at H
                      exact absurd H (by simp)
                  · rw [if_neg c22] at H
                    have c22b0 : ((rd x11_1 0) == 48) = false := beq_eq_false_iff_ne.mpr c22
                    have c22b1 : ((rd x11_1 0) != 48) = true := bne_iff_ne.mpr c22
                    simp only [Option.some.injEq, Prod.mk.injEq] at H
                    obtain ⟨rfl, rfl, rfl⟩ := H
                    have hcv31 := own_string (P := Tryd.prog) Tryd.underlying29 Tryd.underlying5 Tryd.underlying9 (Kd.own_of_R HO_11.out)
                    go_wp2_with (first | (go_at_call 70; (with_reducible refine (impl_Digits.calls k1 (strOfNums x11_1) true _ A18.out).mono ?_); rintro e w' ⟨rfl, ⟨nd, rfl⟩⟩; obtain ⟨Ao32, co32, eo32⟩ := Kd.R_slice HO_11.out; subst eo32; have p210 : 0 ≤ (0 : Int) := (by omega); have q210 : 0 < (x11_1.length : Int) := of_decide_eq_true (by first | (with_reducible assumption) | assumption); obtain ⟨ad210, e210, hx210_0⟩ := Kd.at_int (Kd.R_reads' HO_11.out).2.2 0 p210 q210; cases e210; have qi210 : (0 < x11_1.length) = True := eq_true (by omega); (try rw [show ((0 : Int)).toNat = 0 from rfl] at hx210_0); (try rw [Addr.add_zero'] at hx210_0); replace p210 := eq_true p210; replace q210 := eq_true q210))
                    go_ret3
                    exact ⟨by first | rfl | (simp [errW_none, errW_some] <;> rfl) | (simp [*, errW_none, errW_some] <;> rfl), by repeat (first | (with_reducible first | exact HB.out | apply below_alloc | apply pw_below_drewN | apply below_drew1) | exact HB.out)⟩
                · rw [if_neg c21] at H
                  exact absurd H (by simp)
              · rw [if_neg c20] at H
                have c20b0 : ((Int.tmod a2 2) == 1) = false := beq_eq_false_iff_ne.mpr c20
                have c20b1 : ((Int.tmod a2 2) != 1) = true := bne_iff_ne.mpr c20
                obtain ⟨ji33, hji33⟩ : ∃ j_ : Int, (wrap64 ((x11_1.length : Int) - a2)) = j_ := ⟨_, rfl⟩
                replace H : (if 0 ≤ (ji33) then (if (ji33) ≤ (x11_1.length : Int) then (some (strOfNums (x11_1.drop ((ji33) : Int).toNat), wrap64 (a1 + (t195.length : Int)), true)) else (none)) else (none)) = some (r1, r2, r3) := by first | (rw [hji33] at H; exact H) | (simp only [hji33] at H ⊢; exact H)
                (try rw [hji33] at A18)
                have hji33w : (IntKind.i64.wrap ((x11_1.length : Int) - a2)) = ji33 := (i64_w _).trans hji33
                by_cases c34 : 0 ≤ (ji33)
                · rw [if_pos c34] at H
                  have c34b0 := eq_true c34
                  have c34b1 : decide (0 ≤ (ji33)) = true := decide_eq_true c34
                  clear c34
                  by_cases c35 : (ji33) ≤ (x11_1.length : Int)
                  · rw [if_pos c35] at H
                    have c35b0 := eq_true c35
                    have c35b1 : decide ((ji33) ≤ (x11_1.length : Int)) = true := decide_eq_true c35
                    clear c35
                    obtain ⟨y215, hy215⟩ : ∃ y_ : List Int, y_ = (x11_1.drop ((ji33) : Int).toNat) := ⟨_, rfl⟩
                    replace H : (some (strOfNums y215, wrap64 (a1 + (t195.length : Int)), true)) = some (r1, r2, r3) := by first | (rw [hy215]; with_reducible exact H) | (have H2_ := (Option.bind_some _ _).symm.trans H; rw [hy215]; with_reducible exact H2_) | (have H2_ := (Option.bind_some _ _).symm.trans H; with_reducible exact H2_) | with_reducible exact H | (rw [hy215]; exact H) | exact H
                    have Ny215 := Aside0.mk hy215
                    clear hy215
                    simp only [Option.some.injEq, Prod.mk.injEq] at H
                    obtain ⟨rfl, rfl, rfl⟩ := H
                    have hcv36 := own_string (P := Tryd.prog) Tryd.underlying29 Tryd.underlying5 Tryd.underlying9 (Kd.own_of_R HO_11.out)
                    go_wp2_with (first | (go_at_call 70; (with_reducible refine (impl_Digits.calls k1 (strOfNums x11_1) true _ A18.out).mono ?_); rintro e w' ⟨rfl, ⟨nd, rfl⟩⟩; obtain ⟨Ao37, co37, eo37⟩ := Kd.R_slice HO_11.out; subst eo37; have q38 : ((ji33) : Int) ≤ ((x11_1.length : Int) : Int) := of_decide_eq_true (by first | (with_reducible assumption) | assumption); obtain ⟨i038, hi038, _, hsz38, _⟩ := info_parts info5; have hroom38 : x11_1.length ≤ co37 := (Kd.R_reads' HO_11.out).2.1; have hC38 : Kd.C (Kd.int .u8) _ Ao37 x11_1.length x11_1 := (Kd.R_reads' HO_11.out).2.2; have q038 : (0 : Int) ≤ ((ji33) : Int) := of_decide_eq_true (by first | (with_reducible assumption) | assumption); have hcut38 := cut_from (P := Tryd.prog) 29 5 .i64 Tryd.underlying29 hi038 1 hsz38 Ao37 x11_1.length co37 (ji33) q038 q38; have hr38 := Kd.C_drop (m := ((ji33) : Int).toNat) (c := co37) hC38 (by omega) hroom38; obtain ⟨A38, hA38⟩ : ∃ A1, A1 = (if co37 = ((ji33) : Int).toNat then Ao37 else (Ao37 : Option Addr).map (·.add (((ji33) : Int).toNat * 1))) := ⟨_, rfl⟩; obtain ⟨c38, hc38⟩ : ∃ c1, c1 = co37 - ((ji33) : Int).toNat := ⟨_, rfl⟩; have hy38 : y215.length = x11_1.length - ((ji33) : Int).toNat := (by rw [Ny215.out, List.length_drop] <;> omega); rw [show (x11_1).drop ((ji33) : Int).toNat = y215 from Ny215.out.symm] at hr38; replace hr38 : Kd.C (Kd.int .u8) _ A38 y215.length y215 := (by rw [hA38]; exact hr38); rw [← hy38, ← hA38, ← hc38] at hcut38; have HR218 := Aside0.mk hr38; have HC218 := Aside0.mk (show y215.length ≤ c38 from by rw [hy38, hc38]; exact Nat.sub_le_sub_right hroom38 _); clear hr38 hC38 hroom38 hi038 hsz38 hc38; have KY38 := Aside0.mk hy38; have KA38 := Aside0.mk hA38; clear hy38 hA38; have KL38 := Aside0.mk (show ((ji33) : Int).toNat ≤ x11_1.length from by omega); replace q38 := eq_true q38; have hcv39 := Kd.C_string (P := Tryd.prog) (A := A38) (c := c38) Tryd.underlying29 Tryd.underlying5 Tryd.underlying9 (by repeat (first | (with_reducible exact HR218.out) | (with_reducible refine Kd.C_alloc ?_ _) | (with_reducible refine Kd.C_drewN ?_ _) | (with_reducible refine Kd.C_drew ?_) | exact HR218.out)); (try (have hcvd40 := fun (nq_ : Nat) => Kd.C_string (P := Tryd.prog) (A := A38) (c := c38) Tryd.underlying29 Tryd.underlying5 Tryd.underlying9 (Kd.C_drewN HR218.out nq_)))))
                    go_ret3
                    exact ⟨by first | rfl | (simp [errW_none, errW_some] <;> rfl) | (simp only [← hji33]; first | rfl | (simp [errW_none, errW_some] <;> rfl) | (simp [i64_w, IntKind.wrap_u8] <;> rfl)) | (simp [*, errW_none, errW_some] <;> rfl), by repeat (first | (with_reducible first | exact HB.out | apply below_alloc | apply pw_below_drewN | apply below_drew1) | exact HB.out)⟩
                  · rw [if_neg c35] at H
                    exact absurd H (by simp)
                · rw [if_neg c34] at H
                  exact absurd H (by simp)
            · replace c19 := Bool.eq_false_iff.mpr c19
              subst c19
              have H1 : (some ((⟨#[]⟩ : ByteArray), 0, false)) = some (r1, r2, r3) := by rw [if_neg (show ¬ (false = true) by decide)] at H; exact H
              clear H
              have H := H1
              clear H1
              simp only [Option.some.injEq, Prod.mk.injEq] at H
              obtain ⟨rfl, rfl, rfl⟩ := H
              have hcv41 := own_string (P := Tryd.prog) Tryd.underlying29 Tryd.underlying5 Tryd.underlying9 (Kd.own_of_R HO_11.out)
              go_wp2_with (first | (go_at_call 70; (with_reducible refine (impl_Digits.calls k1 (strOfNums x11_1) false _ A18.out).mono ?_); rintro e w' ⟨rfl, ⟨nd, rfl⟩⟩))
              go_ret3
              exact ⟨by first | rfl | (simp [errW_none, errW_some] <;> rfl) | (simp [*, errW_none, errW_some] <;> rfl), by repeat (first | (with_reducible first | exact HB.out | apply below_alloc | apply pw_below_drewN | apply below_drew1) | exact HB.out)⟩
          · replace c17 := Bool.eq_false_iff.mpr c17
            subst c17
            have H1 : (some ((⟨#[]⟩ : ByteArray), 0, false)) = some (r1, r2, r3) := by rw [if_neg (show ¬ (false = true) by decide)] at H; exact H
            clear H
            have H := H1
            clear H1
            simp only [Option.some.injEq, Prod.mk.injEq] at H
            obtain ⟨rfl, rfl, rfl⟩ := H
            go_wp2
            go_ret3
            exact ⟨by first | rfl | (simp [errW_none, errW_some] <;> rfl) | (simp [*, errW_none, errW_some] <;> rfl), by repeat (first | (with_reducible first | exact HB.out | apply below_alloc | apply pw_below_drewN | apply below_drew1) | exact HB.out)⟩
  · replace c5 := Bool.eq_false_iff.mpr c5
    subst c5
    have H1 : (some ((⟨#[]⟩ : ByteArray), 0, false)) = some (r1, r2, r3) := by rw [if_neg (show ¬ (false = true) by decide)] at H; exact H
    clear H
    have H := H1
    clear H1
    simp only [Option.some.injEq, Prod.mk.injEq] at H
    obtain ⟨rfl, rfl, rfl⟩ := H
    go_enter Tryd.func52, Tryd.ntmps52
    go_wp2_with (first | ((with_reducible refine gate_callee (f := 67) rfl ?_); refine goesL_ (some 15) rfl rfl Tryd.func67 (by kernel_rfl) rfl #[.int .i64 a2, .int .i64 1, .int .i64 38] rfl (by (try simp only [List.map_toArray, List.map_cons, List.map_nil]); first | done | rfl | (simp only [List.length_drop, List.length_take]; rfl)) ?_; (with_reducible refine (impl_within.calls a2 1 38 false _ A4.out).mono ?_); rintro e w' ⟨rfl, ⟨nd, rfl⟩⟩; refine ⟨_, rfl, ?_⟩))
    go_ret3
    exact ⟨by first | rfl | (simp [errW_none, errW_some] <;> rfl) | (simp [*, errW_none, errW_some] <;> rfl), by repeat (first | (with_reducible first | exact HB.out | apply below_alloc | apply pw_below_drewN | apply below_drew1) | exact HB.out)⟩

end Go.Proofs.YtiglmmofapcefaaDoor.Q
