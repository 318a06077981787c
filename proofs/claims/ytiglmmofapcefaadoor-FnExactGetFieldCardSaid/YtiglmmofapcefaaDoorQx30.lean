-- Written by a program of this session (wip/mkprint.py, after the kit's print). Lean checks it.
import Derived.Test.YtiglmmofapcefaaDoorQx0
namespace Go.Proofs.YtiglmmofapcefaaDoor.Q
open Go.RowKit Go.Proofs.YtiglmmofapcefaaDoorW.PrintWords Go.Proofs.YtiglmmofapcefaaDoorW.PrintLast Go.Proofs.YtiglmmofapcefaaDoorW.PrintMore
attribute [local go_sem] max2_int min2_int max_two min_two max_three min_three max_four min_four   -- for this text's walks alone
set_option linter.unusedVariables false
set_option linter.unusedSimpArgs false

/-! ### spec_l03Width: function 76 -/
def spec_l03Width.j0 : Nat → Int → Bool → Option (Int)
  | 0, _, _ => none
  | k + 1, x3, x4 => if x4 = true then (some 2) else (if x3 = 5 then (some 3) else (some 0))
def spec_l03Width.f (k : Nat) (a0 : Int) : Option (Int) := if a0 = 3 then (spec_l03Width.j0 k a0 (a0 == 3)) else (spec_l03Width.j0 k a0 (a0 == 4))
theorem spec_l03Width.mono_l : ∀ k, (∀ y0 y1, LeO (spec_l03Width.j0 k y0 y1) (spec_l03Width.j0 (k + 1) y0 y1))
  | 0 => fun _ _ r h => by simp [spec_l03Width.j0] at h
  | k + 1 => by
    have ih0 := spec_l03Width.mono_l k
    · intro y0 y1
      unfold spec_l03Width.j0
      repeat' first
      | (with_reducible exact ih0 _ _)
      | (with_reducible exact LeO.refl _)
      | (with_reducible exact LeO.none _)
      | (with_reducible refine LeO.ite ?_ ?_)
      | (with_reducible refine LeO.bind ?_ (fun _ => ?_))
      | exact ih0 _ _
      | exact LeO.none _
      | refine LeO.ite ?_ ?_
      | refine LeO.bind ?_ (fun _ => ?_)
theorem spec_l03Width.mono : ∀ a0 k, LeO (spec_l03Width.f k a0) (spec_l03Width.f (k + 1) a0) := by
  intro a0 k
  have ih0 := spec_l03Width.mono_l k
  unfold spec_l03Width.f
  repeat' first
      | (with_reducible exact ih0 _ _)
      | (with_reducible exact LeO.refl _)
      | (with_reducible exact LeO.none _)
      | (with_reducible refine LeO.ite ?_ ?_)
      | (with_reducible refine LeO.bind ?_ (fun _ => ?_))
      | exact ih0 _ _
      | exact LeO.none _
      | refine LeO.ite ?_ ?_
      | refine LeO.bind ?_ (fun _ => ?_)
set_option maxHeartbeats 8000000 in
set_option maxRecDepth 100000 in
theorem spec_l03Width.calls (k : Nat) (a0 : Int) (r : Int) (w : World) (h : spec_l03Width.f k a0 = some r) :
    Calls Tryd.prog 76 #[.int .i64 a0] w fun e w' => e = .returned (.int .i64 r) ∧ Drawn0 w w' := by
  have H : (if a0 = 3 then (spec_l03Width.j0 k a0 (a0 == 3)) else (spec_l03Width.j0 k a0 (a0 == 4))) = some r := h
  clear h
  have HC2 := Aside0.mk H
  clear H
  go_enter Tryd.func76, Tryd.ntmps76
  go_upto_if 4 with (fail)
  go_cut [4] (fun v4 wc => ∃ (kq : Nat) (x4_1 : Bool), v4 = .bool x4_1 ∧ Aside0 (spec_l03Width.j0 kq a0 x4_1 = some r) ∧ Aside0 (kq ≤ k) ∧ Drawn0 w wc)
  case first =>
    have H := HC2.out
    clear HC2
    by_cases c3 : a0 = 3
    · rw [if_pos c3] at H
      have c3b0 : (a0 == 3) = true := beq_iff_eq.mpr c3
      have c3b1 : (a0 != 3) = false := bne_eq_false_iff_eq.mpr c3
      clear c3
      (first | rw [c3b0] | (simp only [i64_w, i32_w]; rw [c3b0]) | skip)
      have H' := Aside0.mk H
      clear H
      go_wp2
      go_meet
      case rel => exact ⟨_, ((a0 == 3)), (by first | rfl | (simp; done) | (simp [*]; done) | (have e_ : ∀ x_ : Int, wrap64 (x_ % 256) = x_ % 256 := (fun x_ => (by unfold wrap64; omega)); simp [i64_w, IntKind.wrap_u8, e_]; done) | (simp; generalize ByteArray.toList _ = zz_; cases zz_ <;> rfl)), H', ⟨by first | omega | exact Nat.le_refl _⟩, by repeat (first | exact Drawn0.refl _ | apply Drawn0.step)⟩
    · rw [if_neg c3] at H
      have c3b0 : (a0 == 3) = false := beq_eq_false_iff_ne.mpr c3
      have c3b1 : (a0 != 3) = true := bne_iff_ne.mpr c3
      (first | rw [c3b0] | (simp only [i64_w, i32_w]; rw [c3b0]) | skip)
      have H' := Aside0.mk H
      clear H
      go_wp2
      go_meet
      case rel => exact ⟨_, ((a0 == 4)), (by first | rfl | (simp; done) | (simp [*]; done) | (have e_ : ∀ x_ : Int, wrap64 (x_ % 256) = x_ % 256 := (fun x_ => (by unfold wrap64; omega)); simp [i64_w, IntKind.wrap_u8, e_]; done) | (simp; generalize ByteArray.toList _ = zz_; cases zz_ <;> rfl)), H', ⟨by first | omega | exact Nat.le_refl _⟩, by repeat (first | exact Drawn0.refl _ | apply Drawn0.step)⟩
  case rest =>
    clear HC2
    try clear p2
    try clear c3
    try clear c3b0
    try clear c3b1
    obtain ⟨kq, x4_1, rfl, HA, HJ1, ⟨mc1, rfl⟩⟩ := hcut
    cases kq with
    | zero => exact absurd HA.out (by simp [spec_l03Width.j0])
    | succ kj1 =>
      have H := HA.out
      clear HA
      simp only [spec_l03Width.j0] at H
      by_cases c4 : x4_1 = true
      · subst c4
        have H1 : (some 2) = some r := by rw [if_pos rfl] at H; exact H
        clear H
        have H := H1
        clear H1
        obtain rfl := Option.some.inj H
        go_wp2
        go_ret
        exact ⟨by first | rfl | (simp; done) | (simp [*]; done) | (have e_ : ∀ x_ : Int, wrap64 (x_ % 256) = x_ % 256 := (fun x_ => (by unfold wrap64; omega)); simp [i64_w, IntKind.wrap_u8, e_]; done) | (simp; generalize ByteArray.toList _ = zz_; cases zz_ <;> rfl), by repeat (first | exact Drawn0.refl _ | apply Drawn0.step)⟩
      · replace c4 := Bool.eq_false_iff.mpr c4
        subst c4
        have H1 : (if a0 = 5 then (some 3) else (some 0)) = some r := by rw [if_neg (show ¬ (false = true) by decide)] at H; exact H
        clear H
        have H := H1
        clear H1
        by_cases c5 : a0 = 5
        · rw [if_pos c5] at H
          have c5b0 : (a0 == 5) = true := beq_iff_eq.mpr c5
          have c5b1 : (a0 != 5) = false := bne_eq_false_iff_eq.mpr c5
          clear c5
          obtain rfl := Option.some.inj H
          go_wp2
          go_ret
          exact ⟨by first | rfl | (simp; done) | (simp [*]; done) | (have e_ : ∀ x_ : Int, wrap64 (x_ % 256) = x_ % 256 := (fun x_ => (by unfold wrap64; omega)); simp [i64_w, IntKind.wrap_u8, e_]; done) | (simp; generalize ByteArray.toList _ = zz_; cases zz_ <;> rfl), by repeat (first | exact Drawn0.refl _ | apply Drawn0.step)⟩
        · rw [if_neg c5] at H
          have c5b0 : (a0 == 5) = false := beq_eq_false_iff_ne.mpr c5
          have c5b1 : (a0 != 5) = true := bne_iff_ne.mpr c5
          obtain rfl := Option.some.inj H
          go_wp2
          go_ret
          exact ⟨by first | rfl | (simp; done) | (simp [*]; done) | (have e_ : ∀ x_ : Int, wrap64 (x_ % 256) = x_ % 256 := (fun x_ => (by unfold wrap64; omega)); simp [i64_w, IntKind.wrap_u8, e_]; done) | (simp; generalize ByteArray.toList _ = zz_; cases zz_ <;> rfl), by repeat (first | exact Drawn0.refl _ | apply Drawn0.step)⟩

-- NOT PRINTED: function 33 (spec_PutField)

/-! ### impl_fieldRows: function 105 -/
def impl_fieldRows.f  : Option ((List (S100))) := some (([(⟨2, 3, 19⟩ : S100), (⟨3, 1, 6⟩ : S100), (⟨4, 1, 12⟩ : S100), (⟨7, 1, 10⟩ : S100), (⟨11, 1, 6⟩ : S100), (⟨14, 1, 4⟩ : S100), (⟨37, 2, 12⟩ : S100), (⟨38, 2, 6⟩ : S100), (⟨39, 2, 2⟩ : S100), (⟨41, 2, 8⟩ : S100), (⟨48, 5, 60⟩ : S100), (⟨49, 1, 3⟩ : S100), (⟨54, 5, 60⟩ : S100), (⟨95, 2, 12⟩ : S100), (⟨102, 4, 20⟩ : S100), (⟨103, 4, 20⟩ : S100)] : List (S100)))
set_option maxHeartbeats 8000000 in
set_option maxRecDepth 100000 in
theorem impl_fieldRows.calls  (r : List (S100)) (w : World) (h : impl_fieldRows.f  = some r) :
    Calls Tryd.prog 105 #[] w fun e w' => ∃ v0_ : Value, e = .returned (v0_) ∧ Kd.R k100 100 w' w.heap.size (fun _ => True) v0_ r ∧ Below w.heap.size w w' := by
  have hu100 := Tryd.underlying100
  have HB := Aside0.mk (Below.refl w.heap.size w)
  have H : (some (([(⟨2, 3, 19⟩ : S100), (⟨3, 1, 6⟩ : S100), (⟨4, 1, 12⟩ : S100), (⟨7, 1, 10⟩ : S100), (⟨11, 1, 6⟩ : S100), (⟨14, 1, 4⟩ : S100), (⟨37, 2, 12⟩ : S100), (⟨38, 2, 6⟩ : S100), (⟨39, 2, 2⟩ : S100), (⟨41, 2, 8⟩ : S100), (⟨48, 5, 60⟩ : S100), (⟨49, 1, 3⟩ : S100), (⟨54, 5, 60⟩ : S100), (⟨95, 2, 12⟩ : S100), (⟨102, 4, 20⟩ : S100), (⟨103, 4, 20⟩ : S100)] : List (S100)))) = some r := h
  clear h
  obtain ⟨y273, hy273⟩ : ∃ y_ : List (S100), y_ = (([(⟨2, 3, 19⟩ : S100), (⟨3, 1, 6⟩ : S100), (⟨4, 1, 12⟩ : S100), (⟨7, 1, 10⟩ : S100), (⟨11, 1, 6⟩ : S100), (⟨14, 1, 4⟩ : S100), (⟨37, 2, 12⟩ : S100), (⟨38, 2, 6⟩ : S100), (⟨39, 2, 2⟩ : S100), (⟨41, 2, 8⟩ : S100), (⟨48, 5, 60⟩ : S100), (⟨49, 1, 3⟩ : S100), (⟨54, 5, 60⟩ : S100), (⟨95, 2, 12⟩ : S100), (⟨102, 4, 20⟩ : S100), (⟨103, 4, 20⟩ : S100)] : List (S100))) := ⟨_, rfl⟩
  replace H : (some y273) = some r := by first | (rw [hy273]; with_reducible exact H) | (have H2_ := (Option.bind_some _ _).symm.trans H; rw [hy273]; with_reducible exact H2_) | (have H2_ := (Option.bind_some _ _).symm.trans H; with_reducible exact H2_) | with_reducible exact H | (rw [hy273]; exact H) | exact H
  have Ny273 := Aside0.mk hy273
  clear hy273
  obtain rfl := Option.some.inj H
  go_enter Tryd.func105, Tryd.ntmps105
  go_wp2_with (first | ((with_reducible refine gate_dst (N := 17) rfl ?_); refine Kd.R_lit k100 _ 100 ?hg (N := 17) ?hd (xs := ([(⟨2, 3, 19⟩ : S100), (⟨3, 1, 6⟩ : S100), (⟨4, 1, 12⟩ : S100), (⟨7, 1, 10⟩ : S100), (⟨11, 1, 6⟩ : S100), (⟨14, 1, 4⟩ : S100), (⟨37, 2, 12⟩ : S100), (⟨38, 2, 6⟩ : S100), (⟨39, 2, 2⟩ : S100), (⟨41, 2, 8⟩ : S100), (⟨48, 5, 60⟩ : S100), (⟨49, 1, 3⟩ : S100), (⟨54, 5, 60⟩ : S100), (⟨95, 2, 12⟩ : S100), (⟨102, 4, 20⟩ : S100), (⟨103, 4, 20⟩ : S100)] : List (S100))) (inner := [.int .i64 2, .int .i64 3, .int .i64 19, .int .i64 3, .int .i64 1, .int .i64 6, .int .i64 4, .int .i64 1, .int .i64 12, .int .i64 7, .int .i64 1, .int .i64 10, .int .i64 11, .int .i64 1, .int .i64 6, .int .i64 14, .int .i64 1, .int .i64 4, .int .i64 37, .int .i64 2, .int .i64 12, .int .i64 38, .int .i64 2, .int .i64 6, .int .i64 39, .int .i64 2, .int .i64 2, .int .i64 41, .int .i64 2, .int .i64 8, .int .i64 48, .int .i64 5, .int .i64 60, .int .i64 49, .int .i64 1, .int .i64 3, .int .i64 54, .int .i64 5, .int .i64 60, .int .i64 95, .int .i64 2, .int .i64 12, .int .i64 102, .int .i64 4, .int .i64 20, .int .i64 103, .int .i64 4, .int .i64 20]) (ok := fun _ => True) (okp := fun _ => True) ?hr ?hp (fun _ hk => hk) trivial (Below.refl _ _) (Nat.le_refl _) (by simp) ?_; (case hd => rfl); (case hg => rfl); (case hr => first | (go_simp; done) | (go_simp; rfl)); (case hp => exact (Reps.c3 (show Kd.M k100 _ _ _ (⟨2, 3, 19⟩ : S100) [.int .i64 2, .int .i64 3, .int .i64 19] from (k100_mkM _ _ _ (⟨2, 3, 19⟩ : S100) )) (Reps.c3 (show Kd.M k100 _ _ _ (⟨3, 1, 6⟩ : S100) [.int .i64 3, .int .i64 1, .int .i64 6] from (k100_mkM _ _ _ (⟨3, 1, 6⟩ : S100) )) (Reps.c3 (show Kd.M k100 _ _ _ (⟨4, 1, 12⟩ : S100) [.int .i64 4, .int .i64 1, .int .i64 12] from (k100_mkM _ _ _ (⟨4, 1, 12⟩ : S100) )) (Reps.c3 (show Kd.M k100 _ _ _ (⟨7, 1, 10⟩ : S100) [.int .i64 7, .int .i64 1, .int .i64 10] from (k100_mkM _ _ _ (⟨7, 1, 10⟩ : S100) )) (Reps.c3 (show Kd.M k100 _ _ _ (⟨11, 1, 6⟩ : S100) [.int .i64 11, .int .i64 1, .int .i64 6] from (k100_mkM _ _ _ (⟨11, 1, 6⟩ : S100) )) (Reps.c3 (show Kd.M k100 _ _ _ (⟨14, 1, 4⟩ : S100) [.int .i64 14, .int .i64 1, .int .i64 4] from (k100_mkM _ _ _ (⟨14, 1, 4⟩ : S100) )) (Reps.c3 (show Kd.M k100 _ _ _ (⟨37, 2, 12⟩ : S100) [.int .i64 37, .int .i64 2, .int .i64 12] from (k100_mkM _ _ _ (⟨37, 2, 12⟩ : S100) )) (Reps.c3 (show Kd.M k100 _ _ _ (⟨38, 2, 6⟩ : S100) [.int .i64 38, .int .i64 2, .int .i64 6] from (k100_mkM _ _ _ (⟨38, 2, 6⟩ : S100) )) (Reps.c3 (show Kd.M k100 _ _ _ (⟨39, 2, 2⟩ : S100) [.int .i64 39, .int .i64 2, .int .i64 2] from (k100_mkM _ _ _ (⟨39, 2, 2⟩ : S100) )) (Reps.c3 (show Kd.M k100 _ _ _ (⟨41, 2, 8⟩ : S100) [.int .i64 41, .int .i64 2, .int .i64 8] from (k100_mkM _ _ _ (⟨41, 2, 8⟩ : S100) )) (Reps.c3 (show Kd.M k100 _ _ _ (⟨48, 5, 60⟩ : S100) [.int .i64 48, .int .i64 5, .int .i64 60] from (k100_mkM _ _ _ (⟨48, 5, 60⟩ : S100) )) (Reps.c3 (show Kd.M k100 _ _ _ (⟨49, 1, 3⟩ : S100) [.int .i64 49, .int .i64 1, .int .i64 3] from (k100_mkM _ _ _ (⟨49, 1, 3⟩ : S100) )) (Reps.c3 (show Kd.M k100 _ _ _ (⟨54, 5, 60⟩ : S100) [.int .i64 54, .int .i64 5, .int .i64 60] from (k100_mkM _ _ _ (⟨54, 5, 60⟩ : S100) )) (Reps.c3 (show Kd.M k100 _ _ _ (⟨95, 2, 12⟩ : S100) [.int .i64 95, .int .i64 2, .int .i64 12] from (k100_mkM _ _ _ (⟨95, 2, 12⟩ : S100) )) (Reps.c3 (show Kd.M k100 _ _ _ (⟨102, 4, 20⟩ : S100) [.int .i64 102, .int .i64 4, .int .i64 20] from (k100_mkM _ _ _ (⟨102, 4, 20⟩ : S100) )) (Reps.c3 (show Kd.M k100 _ _ _ (⟨103, 4, 20⟩ : S100) [.int .i64 103, .int .i64 4, .int .i64 20] from (k100_mkM _ _ _ (⟨103, 4, 20⟩ : S100) )) (Reps.none _ _)))))))))))))))))); intro v274 w1 ho2 hb hg_ hnew_; clear hg_ hnew_; (first | rw [← Ny273.out] at ho2 | (simp only [Int.reduceToNat] at ho2; rw [← Ny273.out] at ho2)); have n0_ := Aside0.mk (Kd.R_lower ho2 (below_size (by repeat (first | (with_reducible first | exact HB.out | apply below_alloc | apply pw_below_drewN | apply below_drew1) | exact HB.out)))); have n1_ := Aside0.mk (below_step (by repeat (first | (with_reducible first | exact HB.out | apply below_alloc | apply pw_below_drewN | apply below_drew1) | exact HB.out)) hb); clear HB; have HO275 := n0_; have HB := n1_; clear n0_ n1_; clear hb ho2))
  go_ret
  exact ⟨_, by first | rfl | (simp [errW_none, errW_some] <;> rfl) | (simp [*, errW_none, errW_some] <;> rfl), by (with_reducible repeat (first | apply Kd.R_alloc | apply Kd.R_drewN | apply Kd.R_drew)); exact HO275.out, by repeat (first | (with_reducible first | exact HB.out | apply below_alloc | apply pw_below_drewN | apply below_drew1) | exact HB.out)⟩

end Go.Proofs.YtiglmmofapcefaaDoor.Q
