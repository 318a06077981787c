/- Texts for FnDigits, packed by a program of this session (wip/pack.py), part 3 of 4: the print's words that are used, the printed walks, the plain laws, the row; no condition. -/
import Derived.Test.YtfiieppnpmodoaaDoorMgFnDigits2
import Derived.Test.YtfiieppnpmodoaaDoorRows
import Derived.LaidLaws
import Derived.Stop.LaidErr
import Derived.ChangeMaps5
section
namespace Go.Proofs.YtfiieppnpmodoaaDoor.Q
open Go.RowKit Go.Proofs.YtfiieppnpmodoaaDoorW.PrintWords Go.Proofs.YtfiieppnpmodoaaDoorW.PrintLast Go.Proofs.YtfiieppnpmodoaaDoorW.PrintMore
attribute [local go_sem] max2_int min2_int max_two min_two max_three min_three max_four min_four
set_option linter.unusedVariables false
set_option linter.unusedSimpArgs false
def spec_PutLen.j0 : Nat → Int → Int → Bool → Option (List Int × Bool)
 | 0, _, _, _ => none
 | k + 1, x0, x1, x11 => if x11 = true then (some (([] : List Int), false)) else ((spec_Wide.f k x0 x1).bind fun t290 => ((spec_PutBcd.f k t290).bind fun bt291 => (some (bt291.1, bt291.2))))
def spec_PutLen.f (k : Nat) (a0 : Int) (a1 : Int) : Option (List Int × Bool) := if a1 = 2 then (spec_PutLen.j0 k a0 a1 false) else (spec_PutLen.j0 k a0 a1 (a1 != 3))
theorem spec_PutLen.mono_l : ∀ k, (∀ y0 y1 y2, LeO (spec_PutLen.j0 k y0 y1 y2) (spec_PutLen.j0 (k + 1) y0 y1 y2))
 | 0 => fun _ _ _ r h => by simp [spec_PutLen.j0] at h
 | k + 1 => by
  have ih0 := spec_PutLen.mono_l k
  ·intro y0 y1 y2
   unfold spec_PutLen.j0
   repeat' first
   | (with_reducible exact ih0 _ _ _)
   | (with_reducible exact spec_PutBcd.mono _ _)
   | (with_reducible exact spec_Wide.mono _ _ _)
   | (with_reducible exact LeO.refl _)
   | (with_reducible exact LeO.none _)
   | (with_reducible refine LeO.ite ?_ ?_)
   | (with_reducible refine LeO.bind ?_ (fun _ => ?_))
   | exact ih0 _ _ _
   | exact spec_PutBcd.mono _ _
   | exact spec_Wide.mono _ _ _
   | exact LeO.none _
   | refine LeO.ite ?_ ?_
   | refine LeO.bind ?_ (fun _ => ?_)
theorem spec_PutLen.mono : ∀ a0 a1 k, LeO (spec_PutLen.f k a0 a1) (spec_PutLen.f (k + 1) a0 a1) := by
 intro a0 a1 k
 have ih0 := spec_PutLen.mono_l k
 unfold spec_PutLen.f
 repeat' first
   | (with_reducible exact ih0 _ _ _)
   | (with_reducible exact spec_PutBcd.mono _ _)
   | (with_reducible exact spec_Wide.mono _ _ _)
   | (with_reducible exact LeO.refl _)
   | (with_reducible exact LeO.none _)
   | (with_reducible refine LeO.ite ?_ ?_)
   | (with_reducible refine LeO.bind ?_ (fun _ => ?_))
   | exact ih0 _ _ _
   | exact spec_PutBcd.mono _ _
   | exact spec_Wide.mono _ _ _
   | exact LeO.none _
   | refine LeO.ite ?_ ?_
   | refine LeO.bind ?_ (fun _ => ?_)
set_option maxHeartbeats 8000000 in
set_option maxRecDepth 100000 in
theorem spec_PutLen.calls (k : Nat) (a0 : Int) (a1 : Int) (r1 : List Int) (r2 : Bool) (w : World) (h : spec_PutLen.f k a0 a1 = some (r1, r2)) :
  Calls Tryd.prog 53 #[.int .i64 a0, .int .i64 a1] w fun e w' => ∃ v0_ : Value, e = .returned (.tuple #[v0_, .bool r2]) ∧ Kd.R (Kd.int .u8) 5 w' w.heap.size (fun _ => True) v0_ r1 ∧ Below w.heap.size w w' := by
 have HB := Aside0.mk (Below.refl w.heap.size w)
 have H : (if a1 = 2 then (spec_PutLen.j0 k a0 a1 false) else (spec_PutLen.j0 k a0 a1 (a1 != 3))) = some (r1, r2) := h
 clear h
 have HC3 := Aside0.mk H
 clear H
 go_enter Tryd.func53, Tryd.ntmps53
 go_upto_region 1 with (fail)
 go_cut [11] (fun v11 wc => ∃ (kq : Nat) (x11_2 : Bool), v11 = .bool x11_2 ∧ Aside0 (spec_PutLen.j0 kq a0 a1 x11_2 = some (r1, r2)) ∧ Aside0 (kq ≤ k) ∧ Aside0 (Below w.heap.size w wc))
 case first =>
  have H := HC3.out
  clear HC3
  by_cases c4 : a1 = 2
  ·rw [if_pos c4] at H
   have c4b0 : (a1 == 2) = true := beq_iff_eq.mpr c4
   have c4b1 : (a1 != 2) = false := bne_eq_false_iff_eq.mpr c4
   clear c4
   (first | rw [c4b0] | (simp only [i64_w, i32_w]; rw [c4b0]) | rw [c4b1] | (simp only [c4b1]) | skip)
   have H' := Aside0.mk H
   clear H
   go_wp2
   go_meet
   case rel => exact ⟨_, (false), (by first | rfl | (simp; done) | (simp [*]; done) | (simp [i64_w, IntKind.wrap_u8, e256_]; done) | (simp; generalize ByteArray.toList _ = zz_; cases zz_ <;> rfl)), H', ⟨by first | omega | exact Nat.le_refl _⟩, ⟨by repeat (first | (with_reducible first | exact HB.out | apply below_alloc | apply pw_below_drewN | apply below_drew1) | exact HB.out)⟩⟩
  ·rw [if_neg c4] at H
   have c4b0 : (a1 == 2) = false := beq_eq_false_iff_ne.mpr c4
   have c4b1 : (a1 != 2) = true := bne_iff_ne.mpr c4
   (first | rw [c4b0] | (simp only [i64_w, i32_w]; rw [c4b0]) | rw [c4b1] | (simp only [c4b1]) | skip)
   have H' := Aside0.mk H
   clear H
   go_wp2
   go_meet
   case rel => exact ⟨_, ((a1 != 3)), (by first | rfl | (simp; done) | (simp [*]; done) | (simp [i64_w, IntKind.wrap_u8, e256_]; done) | (simp; generalize ByteArray.toList _ = zz_; cases zz_ <;> rfl)), H', ⟨by first | omega | exact Nat.le_refl _⟩, ⟨by repeat (first | (with_reducible first | exact HB.out | apply below_alloc | apply pw_below_drewN | apply below_drew1) | exact HB.out)⟩⟩
 case rest =>
  clear HC3
  try clear p2
  try clear c4
  try clear c4b0
  try clear c4b1
  obtain ⟨kq, x11_2, rfl, HA, HJ2, HB⟩ := hcut
  cases kq with
  | zero => exact absurd HA.out (by simp [spec_PutLen.j0])
  | succ kj2 =>
   have H := HA.out
   clear HA
   simp only [spec_PutLen.j0] at H
   by_cases c5 : x11_2 = true
   ·subst c5
    have H1 : (some (([] : List Int), false)) = some (r1, r2) := by rw [if_pos rfl] at H; exact H
    clear H
    have H := H1
    clear H1
    simp only [Option.some.injEq, Prod.mk.injEq] at H
    obtain ⟨rfl, rfl⟩ := H
    go_wp2
    go_ret2
    exact ⟨_, by first | rfl | (simp [errW_none, errW_some] <;> rfl) | (simp [*, errW_none, errW_some] <;> rfl), by first | exact Kd.R_nil _ _ _ _ _ | exact Kd.N_nil _ _ _ _ _ | exact Kd.V_nil _ _ _ _ _ | exact Kd.Q_nil _ _ _ _ _ | exact Kd.S_nil _ _ _ _ _, by repeat (first | (with_reducible first | exact HB.out | apply below_alloc | apply pw_below_drewN | apply below_drew1) | exact HB.out)⟩
   ·replace c5 := Bool.eq_false_iff.mpr c5
    subst c5
    have H1 : ((spec_Wide.f kj2 a0 a1).bind fun t290 => ((spec_PutBcd.f kj2 t290).bind fun bt291 => (some (bt291.1, bt291.2)))) = some (r1, r2) := by rw [if_neg (show ¬ (false = true) by decide)] at H; exact H
    clear H
    have H := H1
    clear H1
    replace H := Option.bind_eq_some_iff.mp H
    obtain ⟨t290, A60, H⟩ := H
    replace H : ((spec_PutBcd.f kj2 t290).bind fun bt291 => (some (bt291.1, bt291.2))) = some (r1, r2) := H
    have A6 := Aside0.mk A60
    clear A60
    replace H := Option.bind_eq_some_iff.mp H
    obtain ⟨⟨t291, t292⟩, A70, H⟩ := H
    replace H : (some (t291, t292)) = some (r1, r2) := H
    have A7 := Aside0.mk A70
    clear A70
    simp only [Option.some.injEq, Prod.mk.injEq] at H
    obtain ⟨rfl, rfl⟩ := H
    go_wp2_with (first | ((with_reducible refine gate_callee (f := 84) rfl ?_); refine goesL_ (some 14) rfl rfl Tryd.func84 (by kernel_rfl) rfl #[.int .i64 a0, .int .i64 a1] rfl (by (try simp only [List.map_toArray, List.map_cons, List.map_nil]); first | done | rfl | (simp only [List.length_drop, List.length_take]; rfl)) ?_; (with_reducible refine (spec_Wide.calls kj2 a0 a1 t290 _ A6.out).mono ?_); rintro e w8 ⟨rfl, hb⟩; refine ⟨_, rfl, ?_⟩; have n0_ := Aside0.mk (below_step (by repeat (first | (with_reducible first | exact HB.out | apply below_alloc | apply pw_below_drewN | apply below_drew1) | exact HB.out)) hb); clear HB; have HB := n0_; clear n0_; (try clear hb); (try clear hb2); (try clear hk); (try clear hi)) | ((with_reducible refine gate_callee (f := 54) rfl ?_); refine goesL_ (some 15) rfl rfl Tryd.func54 (by kernel_rfl) rfl #[.string t290] rfl (by (try simp only [List.map_toArray, List.map_cons, List.map_nil]); first | done | rfl | (simp only [List.length_drop, List.length_take]; rfl)) ?_; (with_reducible refine (spec_PutBcd.calls kj2 t290 t291 t292 _ A7.out).mono ?_); rintro e w9 ⟨v293, rfl, ho0, hb⟩; refine ⟨_, rfl, ?_⟩; have n0_ := Aside0.mk (Kd.R_lower ho0 (below_size (by repeat (first | (with_reducible first | exact HB.out | apply below_alloc | apply pw_below_drewN | apply below_drew1) | exact HB.out)))); have n1_ := Aside0.mk (below_step (by repeat (first | (with_reducible first | exact HB.out | apply below_alloc | apply pw_below_drewN | apply below_drew1) | exact HB.out)) hb); clear HB; have HO294 := n0_; have HB := n1_; clear n0_ n1_; (try clear hb); (try clear hb2); (try clear hk); (try clear hi); (try clear ho0)))
    go_ret2
    exact ⟨_, by first | rfl | (simp [errW_none, errW_some] <;> rfl) | (simp [*, errW_none, errW_some] <;> rfl), by (with_reducible repeat (first | apply Kd.R_alloc | apply Kd.R_drewN | apply Kd.R_drew)); exact HO294.out, by repeat (first | (with_reducible first | exact HB.out | apply below_alloc | apply pw_below_drewN | apply below_drew1) | exact HB.out)⟩
def impl_fieldRows.f  : Option ((List (S85))) := some (([(⟨2, 3, 19⟩ : S85), (⟨3, 1, 6⟩ : S85), (⟨4, 1, 12⟩ : S85), (⟨7, 1, 10⟩ : S85), (⟨11, 1, 6⟩ : S85), (⟨14, 1, 4⟩ : S85), (⟨37, 2, 12⟩ : S85), (⟨38, 2, 6⟩ : S85), (⟨39, 2, 2⟩ : S85), (⟨41, 2, 8⟩ : S85), (⟨48, 5, 60⟩ : S85), (⟨49, 1, 3⟩ : S85), (⟨54, 5, 60⟩ : S85), (⟨95, 2, 12⟩ : S85), (⟨102, 4, 20⟩ : S85), (⟨103, 4, 20⟩ : S85)] : List (S85)))
set_option maxHeartbeats 8000000 in
set_option maxRecDepth 100000 in
theorem impl_fieldRows.calls  (r : List (S85)) (w : World) (h : impl_fieldRows.f  = some r) :
  Calls Tryd.prog 69 #[] w fun e w' => ∃ v0_ : Value, e = .returned (v0_) ∧ Kd.R k85 85 w' w.heap.size (fun _ => True) v0_ r ∧ Below w.heap.size w w' := by
 have hu85 := Tryd.underlying85
 have HB := Aside0.mk (Below.refl w.heap.size w)
 have H : (some (([(⟨2, 3, 19⟩ : S85), (⟨3, 1, 6⟩ : S85), (⟨4, 1, 12⟩ : S85), (⟨7, 1, 10⟩ : S85), (⟨11, 1, 6⟩ : S85), (⟨14, 1, 4⟩ : S85), (⟨37, 2, 12⟩ : S85), (⟨38, 2, 6⟩ : S85), (⟨39, 2, 2⟩ : S85), (⟨41, 2, 8⟩ : S85), (⟨48, 5, 60⟩ : S85), (⟨49, 1, 3⟩ : S85), (⟨54, 5, 60⟩ : S85), (⟨95, 2, 12⟩ : S85), (⟨102, 4, 20⟩ : S85), (⟨103, 4, 20⟩ : S85)] : List (S85)))) = some r := h
 clear h
 obtain ⟨y295, hy295⟩ : ∃ y_ : List (S85), y_ = (([(⟨2, 3, 19⟩ : S85), (⟨3, 1, 6⟩ : S85), (⟨4, 1, 12⟩ : S85), (⟨7, 1, 10⟩ : S85), (⟨11, 1, 6⟩ : S85), (⟨14, 1, 4⟩ : S85), (⟨37, 2, 12⟩ : S85), (⟨38, 2, 6⟩ : S85), (⟨39, 2, 2⟩ : S85), (⟨41, 2, 8⟩ : S85), (⟨48, 5, 60⟩ : S85), (⟨49, 1, 3⟩ : S85), (⟨54, 5, 60⟩ : S85), (⟨95, 2, 12⟩ : S85), (⟨102, 4, 20⟩ : S85), (⟨103, 4, 20⟩ : S85)] : List (S85))) := ⟨_, rfl⟩
 replace H : (some y295) = some r := by first | (rw [hy295]; with_reducible exact H) | (have H2_ := (Option.bind_some _ _).symm.trans H; rw [hy295]; with_reducible exact H2_) | (have H2_ := (Option.bind_some _ _).symm.trans H; with_reducible exact H2_) | with_reducible exact H | (rw [hy295]; exact H) | exact H
 have Ny295 := Aside0.mk hy295
 clear hy295
 obtain rfl := Option.some.inj H
 go_enter Tryd.func69, Tryd.ntmps69
 go_wp2_with (first | ((with_reducible refine gate_dst (N := 17) rfl ?_); refine Kd.R_lit k85 _ 85 ?hg (N := 17) ?hd (xs := ([(⟨2, 3, 19⟩ : S85), (⟨3, 1, 6⟩ : S85), (⟨4, 1, 12⟩ : S85), (⟨7, 1, 10⟩ : S85), (⟨11, 1, 6⟩ : S85), (⟨14, 1, 4⟩ : S85), (⟨37, 2, 12⟩ : S85), (⟨38, 2, 6⟩ : S85), (⟨39, 2, 2⟩ : S85), (⟨41, 2, 8⟩ : S85), (⟨48, 5, 60⟩ : S85), (⟨49, 1, 3⟩ : S85), (⟨54, 5, 60⟩ : S85), (⟨95, 2, 12⟩ : S85), (⟨102, 4, 20⟩ : S85), (⟨103, 4, 20⟩ : S85)] : List (S85))) (inner := [.int .i64 2, .int .i64 3, .int .i64 19, .int .i64 3, .int .i64 1, .int .i64 6, .int .i64 4, .int .i64 1, .int .i64 12, .int .i64 7, .int .i64 1, .int .i64 10, .int .i64 11, .int .i64 1, .int .i64 6, .int .i64 14, .int .i64 1, .int .i64 4, .int .i64 37, .int .i64 2, .int .i64 12, .int .i64 38, .int .i64 2, .int .i64 6, .int .i64 39, .int .i64 2, .int .i64 2, .int .i64 41, .int .i64 2, .int .i64 8, .int .i64 48, .int .i64 5, .int .i64 60, .int .i64 49, .int .i64 1, .int .i64 3, .int .i64 54, .int .i64 5, .int .i64 60, .int .i64 95, .int .i64 2, .int .i64 12, .int .i64 102, .int .i64 4, .int .i64 20, .int .i64 103, .int .i64 4, .int .i64 20]) (ok := fun _ => True) (okp := fun _ => True) ?hr ?hp (fun _ hk => hk) trivial (Below.refl _ _) (Nat.le_refl _) (by simp) ?_; (case hd => rfl); (case hg => rfl); (case hr => first | (go_simp; done) | (go_simp; rfl)); (case hp => exact (Reps.c3 (show Kd.M k85 _ _ _ (⟨2, 3, 19⟩ : S85) [.int .i64 2, .int .i64 3, .int .i64 19] from (k85_mkM _ _ _ (⟨2, 3, 19⟩ : S85) )) (Reps.c3 (show Kd.M k85 _ _ _ (⟨3, 1, 6⟩ : S85) [.int .i64 3, .int .i64 1, .int .i64 6] from (k85_mkM _ _ _ (⟨3, 1, 6⟩ : S85) )) (Reps.c3 (show Kd.M k85 _ _ _ (⟨4, 1, 12⟩ : S85) [.int .i64 4, .int .i64 1, .int .i64 12] from (k85_mkM _ _ _ (⟨4, 1, 12⟩ : S85) )) (Reps.c3 (show Kd.M k85 _ _ _ (⟨7, 1, 10⟩ : S85) [.int .i64 7, .int .i64 1, .int .i64 10] from (k85_mkM _ _ _ (⟨7, 1, 10⟩ : S85) )) (Reps.c3 (show Kd.M k85 _ _ _ (⟨11, 1, 6⟩ : S85) [.int .i64 11, .int .i64 1, .int .i64 6] from (k85_mkM _ _ _ (⟨11, 1, 6⟩ : S85) )) (Reps.c3 (show Kd.M k85 _ _ _ (⟨14, 1, 4⟩ : S85) [.int .i64 14, .int .i64 1, .int .i64 4] from (k85_mkM _ _ _ (⟨14, 1, 4⟩ : S85) )) (Reps.c3 (show Kd.M k85 _ _ _ (⟨37, 2, 12⟩ : S85) [.int .i64 37, .int .i64 2, .int .i64 12] from (k85_mkM _ _ _ (⟨37, 2, 12⟩ : S85) )) (Reps.c3 (show Kd.M k85 _ _ _ (⟨38, 2, 6⟩ : S85) [.int .i64 38, .int .i64 2, .int .i64 6] from (k85_mkM _ _ _ (⟨38, 2, 6⟩ : S85) )) (Reps.c3 (show Kd.M k85 _ _ _ (⟨39, 2, 2⟩ : S85) [.int .i64 39, .int .i64 2, .int .i64 2] from (k85_mkM _ _ _ (⟨39, 2, 2⟩ : S85) )) (Reps.c3 (show Kd.M k85 _ _ _ (⟨41, 2, 8⟩ : S85) [.int .i64 41, .int .i64 2, .int .i64 8] from (k85_mkM _ _ _ (⟨41, 2, 8⟩ : S85) )) (Reps.c3 (show Kd.M k85 _ _ _ (⟨48, 5, 60⟩ : S85) [.int .i64 48, .int .i64 5, .int .i64 60] from (k85_mkM _ _ _ (⟨48, 5, 60⟩ : S85) )) (Reps.c3 (show Kd.M k85 _ _ _ (⟨49, 1, 3⟩ : S85) [.int .i64 49, .int .i64 1, .int .i64 3] from (k85_mkM _ _ _ (⟨49, 1, 3⟩ : S85) )) (Reps.c3 (show Kd.M k85 _ _ _ (⟨54, 5, 60⟩ : S85) [.int .i64 54, .int .i64 5, .int .i64 60] from (k85_mkM _ _ _ (⟨54, 5, 60⟩ : S85) )) (Reps.c3 (show Kd.M k85 _ _ _ (⟨95, 2, 12⟩ : S85) [.int .i64 95, .int .i64 2, .int .i64 12] from (k85_mkM _ _ _ (⟨95, 2, 12⟩ : S85) )) (Reps.c3 (show Kd.M k85 _ _ _ (⟨102, 4, 20⟩ : S85) [.int .i64 102, .int .i64 4, .int .i64 20] from (k85_mkM _ _ _ (⟨102, 4, 20⟩ : S85) )) (Reps.c3 (show Kd.M k85 _ _ _ (⟨103, 4, 20⟩ : S85) [.int .i64 103, .int .i64 4, .int .i64 20] from (k85_mkM _ _ _ (⟨103, 4, 20⟩ : S85) )) (Reps.none _ _)))))))))))))))))); intro v296 w1 ho2 hb hg_ hnew_; clear hg_ hnew_; (first | rw [← Ny295.out] at ho2 | (simp only [Int.reduceToNat] at ho2; rw [← Ny295.out] at ho2)); have n0_ := Aside0.mk (Kd.R_lower ho2 (below_size (by repeat (first | (with_reducible first | exact HB.out | apply below_alloc | apply pw_below_drewN | apply below_drew1) | exact HB.out)))); have n1_ := Aside0.mk (below_step (by repeat (first | (with_reducible first | exact HB.out | apply below_alloc | apply pw_below_drewN | apply below_drew1) | exact HB.out)) hb); clear HB; have HO297 := n0_; have HB := n1_; clear n0_ n1_; clear hb ho2))
 go_ret
 exact ⟨_, by first | rfl | (simp [errW_none, errW_some] <;> rfl) | (simp [*, errW_none, errW_some] <;> rfl), by (with_reducible repeat (first | apply Kd.R_alloc | apply Kd.R_drewN | apply Kd.R_drew)); exact HO297.out, by repeat (first | (with_reducible first | exact HB.out | apply below_alloc | apply pw_below_drewN | apply below_drew1) | exact HB.out)⟩
end Go.Proofs.YtfiieppnpmodoaaDoor.Q
end
section
/- Lemmas on what the printed functions compute (putLen); no condition. -/
namespace Go.Proofs.YtfiieppnpmodoaaDoor.Q
open Go.RowKit Go.Proofs.YtfiieppnpmodoaaDoorW.PrintWords Go.Proofs.YtfiieppnpmodoaaDoorW.PrintLast Go.Proofs.YtfiieppnpmodoaaDoorW.PrintMore
set_option linter.unusedVariables false
set_option linter.unusedSimpArgs false

theorem wide_size (n w : Int) : (wide n w).size ≤ 18 := by
  unfold wide
  split
  · rename_i h
    rw [ByteArray.size_append, rep_size]
    omega
  · decide

/-- What PutLen answers. -/
def putLen (n w : Int) : List Int × Bool := if w = 2 ∨ w = 3 then putBcd (bytesOf (wide n w)) else ([], false)

theorem putLen_short (n w : Int) : (putLen n w).1.length ≤ 38 := by
  unfold putLen
  split
  · unfold putBcd
    split
    · rename_i h
      have h2 : (bytesOf (wide n w)).length ≤ 38 := by simp at h; exact h.2
      rw [bcd_length (((bytesOf (wide n w)).length + 1) / 2) _ (evened_length _)]
      omega
    · simp
  · simp

theorem spec_PutLen_at (n w : Int) (h1 : n ≤ 9223372036854775807) (k : Nat) (hk : 100 < k) : spec_PutLen.f k n w = some (putLen n w) := by
  obtain ⟨k, rfl⟩ : ∃ m, k = m + 1 := ⟨k - 1, by omega⟩
  have hs := wide_size n w
  unfold spec_PutLen.f putLen
  have hj : spec_PutLen.j0 (k + 1) n w false = some (putBcd (bytesOf (wide n w))) := by
    rw [spec_PutLen.j0, if_neg (by simp), spec_Wide_at n w h1 k (by omega), Option.bind_some, spec_PutBcd_at _ (by omega) k (by omega), Option.bind_some]
  by_cases h2 : w = 2
  · rw [if_pos h2, if_pos (Or.inl h2), hj]
  rw [if_neg h2]
  by_cases h3 : w = 3
  · have e : (w != 3) = false := by simp [h3]
    rw [e, if_pos (Or.inr h3), hj]
  · have e : (w != 3) = true := by simp [h3]
    rw [e, if_neg (by omega), spec_PutLen.j0, if_pos rfl]

theorem impl_PutLen_at (n w : Int) (h0 : -9223372036854775808 ≤ n) (h1 : n ≤ 9223372036854775807) (k : Nat) (hk : 100 < k) : impl_PutLen.f k n w = some (putLen n w) := by
  have hs := wide_size n w
  have hin : impl_within.f w 2 3 = some (decide (w = 2 ∨ w = 3)) := by
    unfold impl_within.f
    by_cases h : 2 ≤ w
    · rw [if_pos h]; congr 1; apply decide_eq_decide.2; omega
    · rw [if_neg h]; congr 1; symm; apply decide_eq_false; omega
  unfold impl_PutLen.f putLen
  rw [hin, Option.bind_some]
  by_cases h2 : w = 2 ∨ w = 3
  · rw [if_pos (decide_eq_true h2), if_pos h2, impl_Wide_at n w h0 h1, Option.bind_some, impl_PutBcd_at _ (by omega) k (by omega), Option.bind_some]
  · rw [if_neg (by simpa using h2), if_neg h2]
end Go.Proofs.YtfiieppnpmodoaaDoor.Q
end
section
/- Lemmas on what the printed functions compute (narrow); no condition. -/
namespace Go.Proofs.YtfiieppnpmodoaaDoor.Q
open Go.RowKit Go.Proofs.YtfiieppnpmodoaaDoorW.PrintWords Go.Proofs.YtfiieppnpmodoaaDoorW.PrintLast Go.Proofs.YtfiieppnpmodoaaDoorW.PrintMore
set_option linter.unusedVariables false
set_option linter.unusedSimpArgs false

/-- What Narrow answers (impl_Narrow.f). -/
def narrow (l : List Int) : Int × Bool := if digs l = true ∧ l.length ≤ 18 then ((natFrom 0 l : Nat), true) else (0, false)

theorem impl_Narrow_at (s : ByteArray) (hs : s.size ≤ 140737488351232) : impl_Narrow.f s = some (narrow (bytesOf s)) := by
  unfold impl_Narrow.f narrow
  rw [if_pos hs, bytesOf_length]
end Go.Proofs.YtfiieppnpmodoaaDoor.Q
end
section
/- Lemmas on what the printed functions compute (getLen); no condition. -/
namespace Go.Proofs.YtfiieppnpmodoaaDoor.Q
open Go.RowKit Go.Proofs.YtfiieppnpmodoaaDoorW.PrintWords Go.Proofs.YtfiieppnpmodoaaDoorW.PrintLast Go.Proofs.YtfiieppnpmodoaaDoorW.PrintMore
set_option linter.unusedVariables false
set_option linter.unusedSimpArgs false

theorem getBcd_ok (l : List Int) (a1 n : Int) (hb : ∀ c ∈ l, isByte c) (h : (getBcd l a1 n).2.2 = true) :
    digs (getBcd l a1 n).1 = true ∧ (getBcd l a1 n).1.length = n.toNat ∧ (∀ c ∈ (getBcd l a1 n).1, isByte c) ∧ (getBcd l a1 n).2.1 = a1 + (n + 1) / 2 ∧ 1 ≤ n ∧ n ≤ 38 ∧ 0 ≤ a1 ∧ a1 + (n + 1) / 2 ≤ (l.length : Int) := by
  unfold getBcd at h ⊢
  by_cases q : (inAt l a1 n && isBcd n.toNat (ubcd (cutAt l a1.toNat ((n + 1) / 2).toNat))) = true
  · rw [if_pos q] at h ⊢
    simp only [Bool.and_eq_true] at q
    obtain ⟨q1, q2⟩ := q
    have q3 := of_decide_eq_true q1
    have hlen : (ubcd (cutAt l a1.toNat ((n + 1) / 2).toNat)).length = 2 * ((n + 1) / 2).toNat := by rw [ubcd_length, cutAt_length _ _ _ (by omega)]
    have hr : ∀ c ∈ ubcd (cutAt l a1.toNat ((n + 1) / 2).toNat), isByte c := ubcd_range _ (fun c hc => hb c (cutAt_mem _ _ _ c hc))
    generalize ubcd (cutAt l a1.toNat ((n + 1) / 2).toNat) = u at q2 hlen hr
    refine ⟨?_, ?_, fun c hc => hr c (List.mem_of_mem_drop hc), rfl, q3.1, q3.2.1, q3.2.2.1, by omega⟩
    · unfold isBcd at q2
      by_cases o : n.toNat % 2 = 1
      · rw [if_pos o] at q2
        simp only [Bool.and_eq_true] at q2
        simp only [o]
        exact q2.2
      · rw [if_neg o] at q2
        have o' : n.toNat % 2 = 0 := by omega
        simp only [o', List.drop_zero]
        exact q2
    · simp only [List.length_drop]
      omega
  · rw [if_neg q] at h
    exact absurd h (by simp)

theorem getBcd_no (l : List Int) (a1 n : Int) (h : (getBcd l a1 n).2.2 = false) : getBcd l a1 n = ([], 0, false) := by
  unfold getBcd at h ⊢
  split
  · rename_i q
    rw [if_pos q] at h
    exact absurd h (by simp)
  · rfl

/-- What GetLen answers. -/
def getLen (l : List Int) (a1 w : Int) : Int × Int × Bool :=
  if (w = 2 ∨ w = 3) ∧ (getBcd l a1 w).2.2 = true then (((natFrom 0 (getBcd l a1 w).1 : Nat) : Int), (getBcd l a1 w).2.1, true) else (0, 0, false)

theorem impl_GetLen_at (l : List Int) (hl : l.length ≤ 140737488351232) (hb : ∀ c ∈ l, isByte c) (a1 w : Int) (w1 : -9223372036854775808 ≤ a1 ∧ a1 ≤ 9223372036854775807) (k : Nat) (hk : 300 < k) :
    impl_GetLen.f k l a1 w = some (getLen l a1 w) := by
  have hin : impl_within.f w 2 3 = some (decide (w = 2 ∨ w = 3)) := by
    unfold impl_within.f
    by_cases h : 2 ≤ w
    · rw [if_pos h]; congr 1; apply decide_eq_decide.2; omega
    · rw [if_neg h]; congr 1; symm; apply decide_eq_false; omega
  unfold impl_GetLen.f getLen
  rw [hin, Option.bind_some]
  by_cases h2 : w = 2 ∨ w = 3
  · rw [if_pos (decide_eq_true h2), impl_GetBcd_at l hl hb a1 w w1 (by omega) k (by omega), Option.bind_some]
    unfold asStr
    simp only
    cases hr : (getBcd l a1 w).2.2 with
    | true =>
      obtain ⟨p1, p2, p3, _⟩ := getBcd_ok l a1 w hb hr
      have hz : (strOfNums (getBcd l a1 w).1).size ≤ 18 := by rw [strOfNums_size]; omega
      rw [if_pos rfl, if_pos ⟨h2, rfl⟩, impl_Narrow_at _ (by omega), Option.bind_some, bytesOf_strOfNums _ p3]
      unfold narrow
      rw [if_pos ⟨p1, by omega⟩]
    | false => rw [if_neg (by simp), if_neg (by simp)]
  · rw [if_neg (by simpa using h2), if_neg (fun q => h2 q.1)]
end Go.Proofs.YtfiieppnpmodoaaDoor.Q
end
section
/- Lemmas on what the printed functions compute (bcdTrip); no condition. -/
namespace Go.Proofs.YtfiieppnpmodoaaDoor.Q
open Go.RowKit Go.Proofs.YtfiieppnpmodoaaDoorW.PrintWords Go.Proofs.YtfiieppnpmodoaaDoorW.PrintLast Go.Proofs.YtfiieppnpmodoaaDoorW.PrintMore
set_option linter.unusedVariables false
set_option linter.unusedSimpArgs false

theorem bcd_bytes : ∀ (n : Nat) (l : List Int), l.length = 2 * n → l.all isDig = true → ∀ c ∈ bcd l, isByte c
  | 0, l, h, _ => by
    have : l = [] := List.length_eq_zero_iff.1 (by omega)
    rw [this]; intro c hc; simp [bcd] at hc
  | n + 1, [], h, _ => by simp at h
  | n + 1, [a], h, _ => by simp at h; omega
  | n + 1, a :: b :: t, h, hd => by
    simp only [List.all_cons, Bool.and_eq_true] at hd
    have ha := dig_range' hd.1
    have hb := dig_range' hd.2.1
    intro c hc
    rw [bcd] at hc
    rcases List.mem_cons.1 hc with rfl | hc
    · unfold isByte; omega
    · exact bcd_bytes n t (by simp at h; omega) hd.2.2 c hc

theorem ubcd_bcd : ∀ (n : Nat) (l : List Int), l.length = 2 * n → l.all isDig = true → ubcd (bcd l) = l
  | 0, l, h, _ => by
    have : l = [] := List.length_eq_zero_iff.1 (by omega)
    rw [this]; rfl
  | n + 1, [], h, _ => by simp at h
  | n + 1, [a], h, _ => by simp at h; omega
  | n + 1, a :: b :: t, h, hd => by
    simp only [List.all_cons, Bool.and_eq_true] at hd
    have ha := dig_range' hd.1
    have hb := dig_range' hd.2.1
    rw [bcd, ubcd, ubcd_bcd n t (by simp at h; omega) hd.2.2]
    have e1 : 48 + ((a - 48) * 16 + (b - 48)) / 16 = a := by omega
    have e2 : 48 + ((a - 48) * 16 + (b - 48)) % 16 = b := by omega
    rw [e1, e2]

theorem cutAt_all (l : List Int) : cutAt l 0 l.length = l := by unfold cutAt; simp

theorem getBcd_putBcd (L : List Int) (hd : L.all isDig = true) (h1 : 1 ≤ L.length) (h2 : L.length ≤ 38) :
    putBcd L = (bcd (evened L), true) ∧ (bcd (evened L)).length = (L.length + 1) / 2 ∧ (∀ c ∈ bcd (evened L), isByte c) ∧ getBcd (bcd (evened L)) 0 (L.length : Int) = (L, (((L.length + 1) / 2 : Nat) : Int), true) := by
  have he := evened_length L
  have ha := evened_all L hd
  have hl := bcd_length _ _ he
  have hu := ubcd_bcd _ _ he ha
  have hg : digs L = true := by
    unfold digs; rw [hd]; cases L with
    | nil => simp at h1
    | cons => rfl
  have hge : digs (evened L) = true := by
    unfold digs; rw [ha]; cases hE : evened L with
    | nil => rw [hE] at he; simp at he; omega
    | cons => rfl
  refine ⟨by unfold putBcd; rw [hg]; simp [h2], hl, bcd_bytes _ _ he ha, ?_⟩
  unfold getBcd
  have en : (((L.length : Int) + 1) / 2).toNat = (bcd (evened L)).length := by omega
  have ei : inAt (bcd (evened L)) 0 (L.length : Int) = true := by unfold inAt; simp; omega
  rw [en, Int.toNat_zero, cutAt_all, hu, ei, Int.toNat_natCast]
  have eb : isBcd L.length (evened L) = true := by
    rw [ubcd_digs L.length ((L.length + 1) / 2) (evened L) rfl h1 he, hge]
    unfold evened
    by_cases q : L.length % 2 = 1
    · rw [if_pos q]; simp [rd]
    · simp; omega
  have ed : (evened L).drop (L.length % 2) = L := by
    unfold evened
    by_cases q : L.length % 2 = 1
    · rw [if_pos q, q]; rfl
    · rw [if_neg q, show L.length % 2 = 0 by omega]; rfl
  rw [eb, ed]
  simp

theorem wide3 (n : Nat) (h : n < 1000) : bytesOf (wide (n : Int) 3) = [48 + ((n / 100 : Nat) : Int), 48 + ((n / 10 % 10 : Nat) : Int), 48 + ((n % 10 : Nat) : Int)] := by
  have hs : (decS n).size = (decL n).length := decS_size n
  unfold wide
  rw [Int.toNat_natCast]
  by_cases q1 : n < 10
  · have e := decL_small n q1
    rw [e] at hs
    rw [if_pos ⟨by omega, by omega, by omega, by rw [hs]; simp⟩, bytesOf_append, bytesOf_rep, bytesOf_decS, e, hs]
    have : n / 100 = 0 := by omega
    have : n / 10 % 10 = 0 := by omega
    have : n % 10 = n := by omega
    simp_all [List.replicate]
    omega
  · have e := decL_step n q1
    by_cases q2 : n < 100
    · rw [decL_small (n / 10) (by omega)] at e
      rw [e] at hs
      rw [if_pos ⟨by omega, by omega, by omega, by rw [hs]; simp⟩, bytesOf_append, bytesOf_rep, bytesOf_decS, e, hs]
      have : n / 100 = 0 := by omega
      have : n / 10 % 10 = n / 10 := by omega
      simp_all [List.replicate]
      omega
    · rw [decL_step (n / 10) (by omega), decL_small (n / 10 / 10) (by omega)] at e
      rw [e] at hs
      rw [if_pos ⟨by omega, by omega, by omega, by rw [hs]; simp⟩, bytesOf_append, bytesOf_rep, bytesOf_decS, e, hs]
      have : n / 10 / 10 = n / 100 := by omega
      simp_all [List.replicate]

theorem getLen_putLen (n : Int) (h0 : 0 ≤ n) (h1 : n < 1000) : (∀ c ∈ (putLen n 3).1, isByte c) ∧ getLen (putLen n 3).1 0 3 = (n, 2, true) := by
  obtain ⟨m, rfl⟩ := Int.eq_ofNat_of_zero_le h0
  have hw := wide3 m (by omega)
  have hd : (bytesOf (wide (m : Int) 3)).all isDig = true := by
    rw [hw]; unfold isDig; simp; omega
  obtain ⟨p1, p2, p3, p4⟩ := getBcd_putBcd _ hd (by rw [hw]; simp) (by rw [hw]; simp)
  have hp : putLen (m : Int) 3 = (bcd (evened (bytesOf (wide (m : Int) 3))), true) := by
    unfold putLen; rw [if_pos (.inr rfl), p1]
  have hl : ((bytesOf (wide (m : Int) 3)).length : Int) = 3 := by rw [hw]; rfl
  rw [hl] at p4
  rw [hp]
  refine ⟨p3, ?_⟩
  unfold getLen
  rw [p4, if_pos ⟨.inr rfl, rfl⟩, hw]
  simp [natFrom]
  omega
end Go.Proofs.YtfiieppnpmodoaaDoor.Q
end
section
/- Lemmas on what the printed functions compute (getBits); no condition. -/
namespace Go.Proofs.YtfiieppnpmodoaaDoor.Q
open Go.RowKit Go.Proofs.YtfiieppnpmodoaaDoorW.PrintWords Go.Proofs.YtfiieppnpmodoaaDoorW.PrintLast Go.Proofs.YtfiieppnpmodoaaDoorW.PrintMore
set_option linter.unusedVariables false
set_option linter.unusedSimpArgs false

def bitOn (b : Int) (j : Nat) : Bool := decide ((b / 2 ^ (7 - j)) % 2 = 1)

theorem bit_spec (b : Int) (j : Nat) (h0 : 0 ≤ b) (h1 : b ≤ 255) (h2 : j < 8) : (Int.tmod (shr .i64 b (7 - (j : Int))) 2 = 1) ↔ bitOn b j = true := by
  have h : ∀ (j : Fin 8) (b : Fin 256), decide (Int.tmod (shr .i64 ((b.val : Nat) : Int) (7 - ((j.val : Nat) : Int))) 2 = 1) = bitOn ((b.val : Nat) : Int) j.val := by decide +kernel
  have := h ⟨j, h2⟩ ⟨b.toNat, by omega⟩
  have e : ((b.toNat : Nat) : Int) = b := by omega
  simp only [e] at this
  rw [← this]
  simp

theorem bit_impl (b : Int) (j : Nat) (h0 : 0 ≤ b) (h1 : b ≤ 255) (h2 : j < 8) : (Go.bits .and .u8 b (shr .u8 128 (j : Int)) = 0) ↔ bitOn b j = false := by
  have h : ∀ (j : Fin 8) (b : Fin 256), decide (Go.bits .and .u8 ((b.val : Nat) : Int) (shr .u8 128 ((j.val : Nat) : Int)) = 0) = !bitOn ((b.val : Nat) : Int) j.val := by decide +kernel
  have := h ⟨j, h2⟩ ⟨b.toNat, by omega⟩
  have e : ((b.toNat : Nat) : Int) = b := by omega
  simp only [e] at this
  constructor
  · intro q
    rw [decide_eq_true q] at this
    simpa using this.symm
  · intro q
    rw [q] at this
    simpa using this

/-- The numbers of the bits that are set, of the first m. -/
def bitsOf (l : List Int) (m : Nat) : List Int := ((List.range m).filter fun i => bitOn (rd l ((i / 8 : Nat) : Int)) (i % 8)).map fun i => ((i + 1 : Nat) : Int)

theorem bitsOf_succ (l : List Int) (m : Nat) : bitsOf l (m + 1) = bitsOf l m ++ (if bitOn (rd l ((m / 8 : Nat) : Int)) (m % 8) = true then [((m + 1 : Nat) : Int)] else []) := by
  unfold bitsOf
  rw [List.range_succ, List.filter_append, List.map_append]
  congr 1
  by_cases h : bitOn (rd l ((m / 8 : Nat) : Int)) (m % 8) = true
  · rw [if_pos h]; simp only [List.filter, h, List.map]
  · have h' : bitOn (rd l ((m / 8 : Nat) : Int)) (m % 8) = false := by simpa using h
    rw [if_neg h]; simp only [List.filter, h', List.map]

theorem bitsOf_length (l : List Int) (m : Nat) : (bitsOf l m).length ≤ m := by
  unfold bitsOf
  rw [List.length_map]
  have := List.length_filter_le (fun i => bitOn (rd l ((i / 8 : Nat) : Int)) (i % 8)) (List.range m)
  simpa using this

theorem rd_cutAt (l : List Int) (a m n : Nat) (h : n < m) (h2 : a + m ≤ l.length) : rd (cutAt l a m) (n : Int) = rd l ((a + n : Nat) : Int) := by
  rw [rd_nat _ _ (by rw [cutAt_length l a m h2]; exact h), rd_nat _ _ (by omega)]
  unfold cutAt
  simp

def getBits (l : List Int) (a1 : Int) : List Int × Int × Bool :=
  if 0 ≤ a1 ∧ a1 ≤ (l.length : Int) - 8 then (bitsOf (cutAt l a1.toNat 8) 64, a1 + 8, true) else ([], 0, false)

theorem impl_GetBits_l (l : List Int) (h3 : l.length = 8) (hb : ∀ c ∈ l, isByte c) (a1 : Int) (ha : 0 ≤ a1) (ha2 : a1 ≤ 140737488351232) : ∀ (d i k : Nat), i + d = 64 → d < k →
    impl_GetBits.l0 k a1 l (bitsOf l i) ((i + 1 : Nat) : Int) = some (bitsOf l 64, a1 + 8, true) := by
  intro d
  induction d with
  | zero =>
    intro i k hd hk
    obtain ⟨k, rfl⟩ : ∃ m, k = m + 1 := ⟨k - 1, by omega⟩
    have hi : i = 64 := by omega
    subst hi
    have e : wrap64 (a1 + 8) = a1 + 8 := by unfold wrap64; omega
    simp only [impl_GetBits.l0, e]
    rfl
  | succ d ih =>
    intro i k hd hk
    obtain ⟨k, rfl⟩ : ∃ m, k = m + 1 := ⟨k - 1, by omega⟩
    have ih' := ih (i + 1) k (by omega) (by omega)
    have hz := bitsOf_length l i
    have c0 : ((i + 1 : Nat) : Int) ≤ 64 := by omega
    have c1 : 0 ≤ ((i / 8 : Nat) : Int) := by omega
    have c2 : ((i / 8 : Nat) : Int) < (l.length : Int) := by omega
    have c3 : 0 ≤ ((i % 8 : Nat) : Int) := by omega
    have c4 : (bitsOf l i).length < 17592186044416 := by omega
    obtain ⟨b0, b1⟩ := hb _ (rd_mem l (i / 8) (by omega))
    rw [bitsOf_succ] at ih'
    have hbit := Aside0.mk (bit_impl (rd l ((i / 8 : Nat) : Int)) (i % 8) b0 b1 (by omega))
    have e1 : True → wrap64 (((i + 1 : Nat) : Int) - 1) = ((i : Nat) : Int) := by intro _; unfold wrap64; omega
    have e2 : True → Int.tdiv (i : Int) 8 = ((i / 8 : Nat) : Int) := by intro _; rw [Int.tdiv_eq_ediv_of_nonneg (by omega)]; omega
    have e3 : True → Int.tmod (i : Int) 8 = ((i % 8 : Nat) : Int) := by intro _; rw [Int.tmod_eq_emod_of_nonneg (by omega)]; omega
    have e4 : True → wrap64 ((i / 8 : Nat) : Int) = ((i / 8 : Nat) : Int) := fun _ => w64id (by omega) (by omega)
    have e7 : True → wrap64 (((i + 1 : Nat) : Int) + 1) = ((i + 1 + 1 : Nat) : Int) := by intro _; rw [w64id (by omega) (by omega)]; omega
    simp only [impl_GetBits.l0, if_pos c0, e1 trivial, e2 trivial, e3 trivial, e4 trivial, e7 trivial, if_pos c1, if_pos c2, if_pos c3, if_pos c4]
    generalize rd l ((i / 8 : Nat) : Int) = b at hbit ih'
    by_cases h : bitOn b (i % 8) = true
    · rw [if_neg (fun q => by rw [hbit.out.1 q] at h; exact Bool.false_ne_true h)]
      rw [if_pos h] at ih'
      exact ih'
    · rw [if_pos (hbit.out.2 (by simpa using h))]
      rw [if_neg h, List.append_nil] at ih'
      exact ih'

theorem impl_GetBits_at (l : List Int) (hl : l.length ≤ 140737488351232) (hb : ∀ c ∈ l, isByte c) (a1 : Int) (w1 : -9223372036854775808 ≤ a1 ∧ a1 ≤ 9223372036854775807) (k : Nat) (hk : 100 < k) :
    impl_GetBits.f k l a1 = some (getBits l a1) := by
  unfold impl_GetBits.f getBits
  rw [impl_piece_at]
  by_cases h2 : 0 ≤ a1 ∧ a1 ≤ (l.length : Int) - 8
  · rw [if_pos (by omega), if_pos h2, Option.bind_some, if_pos rfl]
    exact impl_GetBits_l (cutAt l a1.toNat 8) (cutAt_length _ _ _ (by omega)) (fun c hc => hb c (cutAt_mem _ _ _ c hc)) a1 h2.1 (by omega) 64 0 k (by omega) (by omega)
  · rw [if_neg (by omega), if_neg h2, Option.bind_some, if_neg (by simp)]
end Go.Proofs.YtfiieppnpmodoaaDoor.Q
end
section
/- Lemmas on what the printed functions compute (hexTextImpl); no condition. -/
namespace Go.Proofs.YtfiieppnpmodoaaDoor.Q
open Go.RowKit Go.Proofs.YtfiieppnpmodoaaDoorW.PrintWords Go.Proofs.YtfiieppnpmodoaaDoorW.PrintLast Go.Proofs.YtfiieppnpmodoaaDoorW.PrintMore
set_option linter.unusedVariables false
set_option linter.unusedSimpArgs false

def hexd (n : Int) : Int := if n < 10 then 48 + n else 87 + n
def hexOf : List Int → List Int
  | [] => []
  | c :: t => hexd (c / 16) :: hexd (c % 16) :: hexOf t

theorem hexOf_append (a b : List Int) : hexOf (a ++ b) = hexOf a ++ hexOf b := by
  induction a with
  | nil => rfl
  | cons c t ih => simp [hexOf, ih]

theorem hexOf_length (a : List Int) : (hexOf a).length = 2 * a.length := by
  induction a with
  | nil => rfl
  | cons c t ih => simp [hexOf, ih]; omega

theorem bt_hex (n : Int) (h0 : 0 ≤ n) (h1 : n < 16) : bt (⟨#[48, 49, 50, 51, 52, 53, 54, 55, 56, 57, 97, 98, 99, 100, 101, 102]⟩ : ByteArray) n = hexd n := by
  have h : ∀ n : Fin 16, bt (⟨#[48, 49, 50, 51, 52, 53, 54, 55, 56, 57, 97, 98, 99, 100, 101, 102]⟩ : ByteArray) (n.val : Int) = hexd (n.val : Int) := by decide +kernel
  have := h ⟨n.toNat, by omega⟩
  have e : ((n.toNat : Nat) : Int) = n := by omega
  simpa [e] using this

theorem take_succ_rd (l : List Int) (n : Nat) (h : n < l.length) : l.take (n + 1) = l.take n ++ [rd l (n : Int)] := by
  rw [List.take_succ_eq_append_getElem h, rd_nat l n h]

theorem impl_HexText_l (l : List Int) (hl : l.length ≤ 10000000) (hb : ∀ c ∈ l, isByte c) : ∀ (d n k : Nat), n + d = l.length → d < k →
    impl_HexText.l0 k (hexOf (l.take n)) l (l.length : Int) (n : Int) = some (strOfNums (hexOf l)) := by
  intro d
  induction d with
  | zero =>
    intro n k hd hk
    obtain ⟨k, rfl⟩ : ∃ m, k = m + 1 := ⟨k - 1, by omega⟩
    have c1 : ¬ (n : Int) < (l.length : Int) := by omega
    simp only [impl_HexText.l0, if_neg c1]
    rw [List.take_of_length_le (by omega)]
  | succ d ih =>
    intro n k hd hk
    obtain ⟨k, rfl⟩ : ∃ m, k = m + 1 := ⟨k - 1, by omega⟩
    have c1 : (n : Int) < (l.length : Int) := by omega
    have c2 : 0 ≤ (n : Int) := by omega
    obtain ⟨b0, b1⟩ := hb _ (rd_mem l n (by omega))
    have ht := take_succ_rd l n (by omega)
    have ih' := ih (n + 1) k (by omega) (by omega)
    rw [ht, hexOf_append] at ih'
    have hz : (hexOf (l.take n)).length ≤ 2 * l.length := by rw [hexOf_length, List.length_take]; omega
    simp only [impl_HexText.l0, if_pos c1, if_pos c2, w64 c2 (by omega)]
    generalize rd l (n : Int) = b at b0 b1 ih'
    have e3 : Go.bits .and .u8 b 15 = b % 16 := u8_and15 b b0 (by omega)
    have q1 : 0 ≤ b / 16 := by omega
    have q2 : b / 16 < 16 := by omega
    have q3 : 0 ≤ b % 16 := by omega
    have q4 : b % 16 < 16 := by omega
    simp only [e3, if_pos q1, if_pos q2, if_pos q3, if_pos q4, Option.bind_some, bt_hex _ q1 q2, bt_hex _ q3 q4]
    have q5 : (hexOf (l.take n)).length + [hexd (b / 16), hexd (b % 16)].length < 140737488355328 := by
      simp
      omega
    rw [if_pos q5]
    exact ih'

theorem impl_HexText_at (l : List Int) (hl : l.length ≤ 10000000) (hb : ∀ c ∈ l, isByte c) (k : Nat) (hk : l.length < k) : impl_HexText.f k l = some (strOfNums (hexOf l)) := by
  unfold impl_HexText.f
  exact impl_HexText_l l hl hb l.length 0 k (by omega) hk
end Go.Proofs.YtfiieppnpmodoaaDoor.Q
end
section
/- Lemmas on what the printed functions compute (hexNum); no condition. -/
namespace Go.Proofs.YtfiieppnpmodoaaDoor.Q
open Go.RowKit Go.Proofs.YtfiieppnpmodoaaDoorW.PrintWords Go.Proofs.YtfiieppnpmodoaaDoorW.PrintLast Go.Proofs.YtfiieppnpmodoaaDoorW.PrintMore
set_option linter.unusedVariables false
set_option linter.unusedSimpArgs false

def hexVal (c : Int) : Int := if 48 ≤ c ∧ c ≤ 57 then c - 48 else if 97 ≤ c ∧ c ≤ 102 then c - 87 else -1

theorem hexVal_range (c : Int) : -1 ≤ hexVal c ∧ hexVal c ≤ 15 := by unfold hexVal; split <;> (try split) <;> omega

theorem index_at (c : Int) (h0 : 0 ≤ c) (h1 : c ≤ 255) : strings_IndexByte.f (⟨#[48, 49, 50, 51, 52, 53, 54, 55, 56, 57, 97, 98, 99, 100, 101, 102]⟩ : ByteArray) c = some (hexVal c) := by
  have h : ∀ n : Fin 256, strings_IndexByte.f (⟨#[48, 49, 50, 51, 52, 53, 54, 55, 56, 57, 97, 98, 99, 100, 101, 102]⟩ : ByteArray) (n.val : Int) = some (hexVal (n.val : Int)) := by decide +kernel
  have := h ⟨c.toNat, by omega⟩
  have e : ((c.toNat : Nat) : Int) = c := by omega
  simpa [e] using this

/-- Two and two digits, from the front; nothing where one of them is none. -/
def unhex : List Int → List Int → List Int × Bool
  | acc, a :: b :: t => if hexVal a < 0 then ([], false) else if hexVal b < 0 then ([], false) else unhex (acc ++ [16 * hexVal a + hexVal b]) t
  | acc, _ => (acc, true)
def textHex (l : List Int) : List Int × Bool := if l.length % 2 = 1 then ([], false) else unhex [] l

theorem hex_drop_two (l : List Int) (n : Nat) (h : n + 1 < l.length) : l.drop n = rd l (n : Int) :: rd l ((n + 1 : Nat) : Int) :: l.drop (n + 2) := by
  rw [drop_rd l n (by omega), drop_rd l (n + 1) (by omega)]

theorem unhex_length : ∀ (n : Nat) (l acc : List Int), l.length ≤ n → (unhex acc l).1.length ≤ acc.length + l.length
  | 0, [], acc, h => by simp [unhex]
  | n, [], acc, h => by simp [unhex]
  | n, [a], acc, h => by simp [unhex]
  | n + 2, a :: b :: t, acc, h => by
    simp only [unhex]
    split
    · simp
    · split
      · simp
      · have := unhex_length n t (acc ++ [16 * hexVal a + hexVal b]) (by simp at h; omega)
        simp at this ⊢
        omega
  | 1, a :: b :: t, acc, h => by simp at h
end Go.Proofs.YtfiieppnpmodoaaDoor.Q
end
section
/- Lemmas on what the printed functions compute (textHexImpl); no condition. -/
namespace Go.Proofs.YtfiieppnpmodoaaDoor.Q
open Go.RowKit Go.Proofs.YtfiieppnpmodoaaDoorW.PrintWords Go.Proofs.YtfiieppnpmodoaaDoorW.PrintLast Go.Proofs.YtfiieppnpmodoaaDoorW.PrintMore
set_option linter.unusedVariables false
set_option linter.unusedSimpArgs false

theorem impl_TextHex_l (s : ByteArray) (hs : s.size ≤ 10000000) : ∀ (d n k : Nat) (x : List Int), n + 2 * d = s.size → x.length + d ≤ 1000000000 → d + 10 < k →
    impl_TextHex.l0 k s x (n : Int) = some (unhex x ((bytesOf s).drop n)) := by
  intro d
  induction d with
  | zero =>
    intro n k x hn hx hk
    obtain ⟨k, rfl⟩ : ∃ m, k = m + 1 := ⟨k - 1, by omega⟩
    have c1 : ¬ (n : Int) < (s.size : Int) := by omega
    simp only [impl_TextHex.l0, if_neg c1]
    rw [List.drop_of_length_le (by rw [bytesOf_length]; omega)]
    simp [unhex]
  | succ d ih =>
    intro n k x hn hx hk
    obtain ⟨k, rfl⟩ : ∃ m, k = m + 1 := ⟨k - 1, by omega⟩
    have hl : (bytesOf s).length = s.size := bytesOf_length s
    obtain ⟨a0, a1⟩ := bytesOf_range s _ (rd_mem _ n (by omega))
    obtain ⟨b0, b1⟩ := bytesOf_range s _ (rd_mem _ (n + 1) (by omega))
    have c1 : (n : Int) < (s.size : Int) := by omega
    have c2 : 0 ≤ (n : Int) := by omega
    have e1 : wrap64 ((n : Int) + 1) = ((n + 1 : Nat) : Int) := by unfold wrap64; omega
    have e2 : wrap64 ((n : Int) + 2) = ((n + 2 : Nat) : Int) := by unfold wrap64; omega
    have c3 : 0 ≤ ((n + 1 : Nat) : Int) := by omega
    have c4 : ((n + 1 : Nat) : Int) < (s.size : Int) := by omega
    have c5 : x.length < 140737488355328 := by omega
    rw [hex_drop_two _ n (by omega)]
    simp only [impl_TextHex.l0, e1, e2, if_pos c1, if_pos c2, if_pos c3, if_pos c4, if_pos c5, bt_eq, unhex]
    generalize rd (bytesOf s) (n : Int) = a at a0 a1
    generalize rd (bytesOf s) ((n + 1 : Nat) : Int) = b at b0 b1
    rw [index_at a a0 a1, index_at b b0 b1]
    simp only [Option.bind_some]
    obtain ⟨p0, p1⟩ := hexVal_range a
    obtain ⟨q0, q1⟩ := hexVal_range b
    by_cases h1 : hexVal a < 0
    · rw [if_pos h1, if_pos h1]
    · rw [if_neg h1, if_neg h1]
      by_cases h2 : hexVal b < 0
      · rw [if_pos h2, if_pos h2]
      · rw [if_neg h2, if_neg h2]
        have e : (wrap64 ((wrap64 (16 * hexVal a)) + hexVal b)) % 256 = 16 * hexVal a + hexVal b := by unfold wrap64; omega
        rw [e]
        exact ih (n + 2) k _ (by omega) (by simp; omega) (by omega)

theorem impl_TextHex_at (s : ByteArray) (hs : s.size ≤ 10000000) (k : Nat) (hk : s.size + 20 ≤ k) : impl_TextHex.f k s = some (textHex (bytesOf s)) := by
  unfold impl_TextHex.f textHex
  rw [bytesOf_length]
  by_cases h : (s.size : Int) % 2 = 1
  · rw [if_pos h, if_pos (by omega)]
  · rw [if_neg h, if_neg (by omega)]
    have hh := impl_TextHex_l s hs (s.size / 2) 0 k [] (by omega) (by simp; omega) (by omega)
    simpa using hh
end Go.Proofs.YtfiieppnpmodoaaDoor.Q
end
section
/- Lemmas on what the printed functions compute (digTrip); no condition. -/
namespace Go.Proofs.YtfiieppnpmodoaaDoor.Q
open Go.RowKit Go.Proofs.YtfiieppnpmodoaaDoorW.PrintWords Go.Proofs.YtfiieppnpmodoaaDoorW.PrintLast Go.Proofs.YtfiieppnpmodoaaDoorW.PrintMore
set_option linter.unusedVariables false
set_option linter.unusedSimpArgs false

theorem l01Big_at (b : List Int) (i h n : Int) (hb : b.length ≤ 10000000) (h0 : 0 ≤ i) (h1 : i ≤ (b.length : Int)) (n0 : 256 < n) : ∃ r i' h', spec_l01Below.f b i h n = some (r, i', h') ∧ 0 ≤ r ∧ r < n := by
  obtain ⟨r, i', h', e, r0, r1, q0, q1⟩ := l01Byte_at b i h hb h0 h1
  obtain ⟨s, i2, h2, e2, s0, s1, q2, q3⟩ := l01Byte_at b i' h' hb q0 q1
  obtain ⟨t, i3, h3, e3, t0, t1, q4, q5⟩ := l01Byte_at b i2 h2 hb q2 q3
  obtain ⟨u, i4, h4, e4, u0, u1, q6, q7⟩ := l01Byte_at b i3 h3 hb q4 q5
  unfold spec_l01Below.f
  rw [if_neg (by omega), if_neg (by omega), e, Option.bind_some]
  simp only
  rw [e2, Option.bind_some]
  simp only
  rw [e3, Option.bind_some]
  simp only
  rw [e4, Option.bind_some, if_neg (by omega)]
  exact ⟨_, _, _, rfl, Int.tmod_nonneg _ (by unfold wrap64; omega), Int.tmod_lt_of_pos _ (by omega)⟩

theorem MakeNum_at (b : List Int) (hb : b.length ≤ 10000000) (k : Nat) (hk : b.length < k) : ∃ r, (∀ j, k ≤ j → spec_MakeNum.f j b 1000 = some r) ∧ 0 ≤ r ∧ r < 1000 := by
  obtain ⟨h, eh⟩ := l01New_at b hb k hk
  obtain ⟨r, i', h', e, r0, r1⟩ := l01Big_at b 0 (wrap64 (h + 777)) 1000 hb (by omega) (by omega) (by omega)
  refine ⟨r, fun j hj => ?_, r0, r1⟩
  have hk1 : spec_MakeNum.f k b 1000 = some r := by
    unfold spec_MakeNum.f
    rw [eh, Option.bind_some]
    simp only
    rw [e, Option.bind_some]
  exact later (g := fun k => spec_MakeNum.f k b 1000) (fun k => spec_MakeNum.mono b 1000 k) hk1 j hj

theorem MakeDigits_l (b : List Int) (hb : b.length ≤ 10000000) : ∀ (d k : Nat) (s : ByteArray) (i h : Int), s.size + d ≤ 1000 → 0 ≤ i → i ≤ (b.length : Int) → (bytesOf s).all isDig = true → d < k →
    ∃ s', spec_MakeDigits.l0 k s (d : Int) b i h = some s' ∧ (bytesOf s').all isDig = true ∧ s'.size = s.size + d := by
  intro d
  induction d with
  | zero =>
    intro k s i h hs h0 h1 hp hk
    obtain ⟨k, rfl⟩ : ∃ m, k = m + 1 := ⟨k - 1, by omega⟩
    rw [spec_MakeDigits.l0, if_neg (by omega)]
    exact ⟨s, rfl, hp, rfl⟩
  | succ d ih =>
    intro k s i h hs h0 h1 hp hk
    obtain ⟨k, rfl⟩ : ∃ m, k = m + 1 := ⟨k - 1, by omega⟩
    obtain ⟨r, i', h', e, r0, r1, q0, q1⟩ := l01Below_at b i h 10 hb h0 h1 (by omega) (by omega)
    have e48 : wrap64 (48 + r) % 256 = 48 + r := by unfold wrap64; omega
    have ed : wrap64 (((d + 1 : Nat) : Int) - 1) = (d : Int) := by unfold wrap64; omega
    rw [spec_MakeDigits.l0, if_pos (by omega), e, Option.bind_some, Option.bind_some]
    simp only
    rw [e48, strOfNums_size, if_pos (by simp; omega), ed]
    obtain ⟨s', es, p1, p2⟩ := ih k (s ++ strOfNums [48 + r]) i' h' (by rw [ByteArray.size_append, strOfNums_size]; simp; omega) q0 q1 (by
      rw [bytesOf_append, List.all_append, hp, bytesOf_strOfNums [48 + r] (fun c hc => by rw [List.mem_singleton.1 hc]; unfold isByte; omega)]
      unfold isDig
      simp; omega) (by omega)
    exact ⟨s', es, p1, by rw [p2, ByteArray.size_append, strOfNums_size]; simp; omega⟩

theorem hexVal_hexd (n : Int) (h0 : 0 ≤ n) (h1 : n < 16) : hexVal (hexd n) = n := by
  unfold hexVal hexd
  split <;> split <;> (try split) <;> omega

theorem unhex_hexOf : ∀ (l acc : List Int), (∀ c ∈ l, isByte c) → unhex acc (hexOf l) = (acc ++ l, true)
  | [], acc, _ => by simp [hexOf, unhex]
  | c :: t, acc, h => by
    have hc : 0 ≤ c ∧ c ≤ 255 := by have := h c List.mem_cons_self; unfold isByte at this; omega
    rw [hexOf, unhex, hexVal_hexd _ (by omega) (by omega), hexVal_hexd _ (by omega) (by omega), if_neg (by omega), if_neg (by omega), unhex_hexOf t _ (fun x hx => h x (List.mem_cons_of_mem _ hx))]
    have : 16 * (c / 16) + c % 16 = c := by omega
    rw [this]; simp

theorem textHex_hexOf (l : List Int) (h : ∀ c ∈ l, isByte c) : textHex (hexOf l) = (l, true) := by
  unfold textHex
  rw [if_neg (by rw [hexOf_length]; omega), unhex_hexOf l [] h]
  rfl

theorem hexOf_bytes : ∀ (l : List Int), (∀ c ∈ l, isByte c) → ∀ x ∈ hexOf l, isByte x
  | [], _ => by intro x hx; simp [hexOf] at hx
  | c :: t, h => by
    have hc : 0 ≤ c ∧ c ≤ 255 := by have := h c List.mem_cons_self; unfold isByte at this; omega
    intro x hx
    rw [hexOf] at hx
    rcases List.mem_cons.1 hx with rfl | hx
    · unfold hexd isByte; split <;> omega
    rcases List.mem_cons.1 hx with rfl | hx
    · unfold hexd isByte; split <;> omega
    exact hexOf_bytes t (fun y hy => h y (List.mem_cons_of_mem _ hy)) x hx

theorem MakeDigits_at (b : List Int) (hb : b.length ≤ 10000000) (k : Nat) (hk : b.length + 100 < k) : ∃ s, (∀ j, k ≤ j → spec_MakeDigits.f j b = some s) ∧ (bytesOf s).all isDig = true ∧ 1 ≤ s.size ∧ s.size ≤ 20 := by
  obtain ⟨h, eh⟩ := l01New_at b hb k (by omega)
  obtain ⟨r, i', h', e, r0, r1, q0, q1⟩ := l01Below_at b 0 h 10 hb (by omega) (by omega) (by omega) (by omega)
  obtain ⟨r2, i2, h2, e2, r20, r21, q20, q21⟩ := l01Below_at b i' h' 17 hb q0 q1 (by omega) (by omega)
  obtain ⟨d, rfl⟩ := Int.eq_ofNat_of_zero_le r20
  have e48 : wrap64 (48 + r) % 256 = 48 + r := by unfold wrap64; omega
  have z1 : (strOfNums [48 + r]).size = 1 := by rw [strOfNums_size]; rfl
  have z2 : (bytesOf (strOfNums [48 + r])).all isDig = true := by
    rw [bytesOf_strOfNums [48 + r] (fun c hc => by rw [List.mem_singleton.1 hc]; unfold isByte; omega)]
    unfold isDig
    simp; omega
  obtain ⟨s, es, p1, p2⟩ := MakeDigits_l b hb d k (strOfNums [48 + r]) i2 h2 (by omega) q20 q21 z2 (by omega)
  refine ⟨s, fun j hj => ?_, p1, by omega, by omega⟩
  have h1 : spec_MakeDigits.f k b = some s := by
    unfold spec_MakeDigits.f
    rw [eh, Option.bind_some]
    simp only
    rw [e, Option.bind_some]
    simp only
    rw [e2, Option.bind_some]
    simp only
    rw [e48]
    exact es
  exact later (g := fun k => spec_MakeDigits.f k b) (fun k => spec_MakeDigits.mono b k) h1 j hj
end Go.Proofs.YtfiieppnpmodoaaDoor.Q
end
section
/- FnDigits of the given program answers true at every slice of bytes; the listed variables hold what the program's text lays. -/
namespace Go.Proofs.YtfiieppnpmodoaaDoor.Q
open Go.RowKit Go.Proofs.YtfiieppnpmodoaaDoorW.PrintWords Go.Proofs.YtfiieppnpmodoaaDoorW.PrintLast Go.Proofs.YtfiieppnpmodoaaDoorW.PrintMore
set_option linter.unusedVariables false
set_option linter.unusedSimpArgs false

theorem bits_all : ∀ d : Fin 64, ((impl_PutBits.f 100 [((d.1 : Nat) : Int) + 1, 1, 64]).bind fun t => (impl_GetBits.f 100 t 0).bind fun r => (laws_has.f 100 r.1 (((d.1 : Nat) : Int) + 1)).bind fun a => (laws_has.f 100 r.1 1).bind fun b => (laws_has.f 100 r.1 64).bind fun c => (laws_rises.f 100 r.1).bind fun e => some (r.2.2 && (r.2.1 == 8) && a && b && c && e)) = some true := by decide +kernel

theorem bits_trip (d : Int) (h0 : 0 ≤ d) (h1 : d < 64) : ∃ t r, (∀ k, 100 ≤ k → impl_PutBits.f k [d + 1, 1, 64] = some t) ∧ (∀ k, 100 ≤ k → impl_GetBits.f k t 0 = some (r, 8, true)) ∧ (∀ k, 100 ≤ k → laws_has.f k r (d + 1) = some true) ∧ (∀ k, 100 ≤ k → laws_has.f k r 1 = some true) ∧ (∀ k, 100 ≤ k → laws_has.f k r 64 = some true) ∧ (∀ k, 100 ≤ k → laws_rises.f k r = some true) := by
  obtain ⟨n, rfl⟩ := Int.eq_ofNat_of_zero_le h0
  have h := bits_all ⟨n, by omega⟩
  obtain ⟨t, e1, h⟩ := Option.bind_eq_some_iff.1 h
  obtain ⟨⟨r, q, o⟩, e2, h⟩ := Option.bind_eq_some_iff.1 h
  obtain ⟨a, e3, h⟩ := Option.bind_eq_some_iff.1 h
  obtain ⟨b, e4, h⟩ := Option.bind_eq_some_iff.1 h
  obtain ⟨c, e5, h⟩ := Option.bind_eq_some_iff.1 h
  obtain ⟨e, e6, h⟩ := Option.bind_eq_some_iff.1 h
  simp only [Option.some.injEq, Bool.and_eq_true, beq_iff_eq] at h
  obtain ⟨⟨⟨⟨⟨rfl, rfl⟩, rfl⟩, rfl⟩, rfl⟩, rfl⟩ := h
  refine ⟨t, r, fun k hk => ?_, fun k hk => ?_, fun k hk => ?_, fun k hk => ?_, fun k hk => ?_, fun k hk => ?_⟩
  · exact later (g := fun k => impl_PutBits.f k _) (fun k => impl_PutBits.mono _ k) e1 k hk
  · exact later (g := fun k => impl_GetBits.f k _ _) (fun k => impl_GetBits.mono _ _ k) e2 k hk
  · exact later (g := fun k => laws_has.f k _ _) (fun k => laws_has.mono _ _ k) e3 k hk
  · exact later (g := fun k => laws_has.f k _ _) (fun k => laws_has.mono _ _ k) e4 k hk
  · exact later (g := fun k => laws_has.f k _ _) (fun k => laws_has.mono _ _ k) e5 k hk
  · exact later (g := fun k => laws_rises.f k _) (fun k => laws_rises.mono _ k) e6 k hk

theorem half_wrap (n m : Nat) (hn : n ≤ 1000) (hm : m = (n + 1) / 2) : ((m : Int) != wrap64 (Int.tdiv (wrap64 ((n : Int) + 1)) 2)) = false := by
  have e1 : wrap64 ((n : Int) + 1) = (n : Int) + 1 := by unfold wrap64; omega
  rw [e1]
  have e2 : Int.tdiv ((n : Int) + 1) 2 = ((n : Int) + 1) / 2 := Int.tdiv_eq_ediv_of_nonneg (by omega)
  rw [e2]
  have e3 : wrap64 (((n : Int) + 1) / 2) = (m : Int) := by unfold wrap64; omega
  rw [e3]
  simp

set_option maxHeartbeats 4000000 in
theorem FnDigits : ∀ (l0 : List Int), l0.length ≤ maxLen → l0.length * 1 ≤ 140737488351232 → (∀ x ∈ l0, (Lit.int .u8 x).wf = true) → ∃ k, laws_FnDigits.f k l0 = some true := by
  intro l _ _ hw
  by_cases hl : (l.length : Int) > 1048576
  · exact ⟨0, by unfold laws_FnDigits.f; rw [if_pos hl]⟩
  obtain ⟨s, hs, hd, s1, s2⟩ := MakeDigits_at l (by omega) (l.length + 500) (by omega)
  obtain ⟨n, hn, n0, n1⟩ := MakeNum_at l (by omega) (l.length + 500) (by omega)
  have hz : (bytesOf s).length = s.size := bytesOf_length s
  obtain ⟨g1, g2, g3, g4⟩ := getBcd_putBcd (bytesOf s) hd (by omega) (by omega)
  obtain ⟨v1, v2⟩ := getLen_putLen n n0 n1
  have et : Int.tmod n 64 = n % 64 := Int.tmod_eq_emod_of_nonneg n0
  obtain ⟨t, r, b1, b2, b3, b4, b5, b6⟩ := bits_trip (n % 64) (by omega) (by omega)
  have ew : wrap64 (Int.tmod n 64 + 1) = n % 64 + 1 := by rw [et]; unfold wrap64; omega
  generalize hx : bcd (evened (bytesOf s)) = x at g1 g2 g3 g4
  have hpl := putLen_short n 3
  obtain ⟨K, hK⟩ : ∃ K, K = l.length + 500 := ⟨_, rfl⟩
  have t1 : impl_PutBcd.f (K + 1) s = some (x, true) := by rw [impl_PutBcd_at s (by omega) (K + 1) (by omega), g1]
  have t2 : impl_GetBcd.f (K + 1) x 0 (s.size : Int) = some (s, (((s.size + 1) / 2 : Nat) : Int), true) := by
    rw [impl_GetBcd_at x (by omega) g3 0 (s.size : Int) (by omega) (by omega) (K + 1) (by omega), ← hz, g4]
    unfold asStr
    simp only
    rw [strOfNums_bytesOf]
  have t3 : impl_PutLen.f K n 3 = some (putLen n 3) := impl_PutLen_at n 3 (by omega) (by omega) K (by omega)
  have t4 : impl_GetLen.f K (putLen n 3).1 0 3 = some (n, 2, true) := by rw [impl_GetLen_at _ (by omega) v1 0 3 (by omega) K (by omega), v2]
  have t5 : impl_HexText.f K x = some (strOfNums (hexOf x)) := impl_HexText_at x (by omega) g3 K (by omega)
  have hzx : (strOfNums (hexOf x)).size = 2 * x.length := by rw [strOfNums_size, hexOf_length]
  have t6 : impl_TextHex.f K (strOfNums (hexOf x)) = some (x, true) := by
    rw [impl_TextHex_at _ (by omega) K (by omega), bytesOf_strOfNums _ (hexOf_bytes x g3), textHex_hexOf x g3]
  have hj : laws_FnDigits.j0 (K + 1) l x false = some true := by
    rw [laws_FnDigits.j0, if_neg (by simp), hn K (by omega), Option.bind_some, t3, Option.bind_some, t4, Option.bind_some, ew, b1 K (by omega), Option.bind_some, b2 K (by omega), Option.bind_some, t5, Option.bind_some, t6, Option.bind_some]
    simp only
    simp only [if_true, b3 K (by omega), b4 K (by omega), b5 K (by omega), b6 K (by omega), Option.bind_some]
    simp
  refine ⟨K + 1, ?_⟩
  have ec := half_wrap s.size x.length (by omega) (by omega)
  unfold laws_FnDigits.f
  rw [if_neg hl, hs (K + 1) (by omega), Option.bind_some, t1, Option.bind_some]
  simp only
  rw [t2, Option.bind_some]
  simp only [if_true]
  rw [if_pos (by omega), ec]
  exact hj
end Go.Proofs.YtfiieppnpmodoaaDoor.Q
end
section
/- The start that fits a row that lists the three tables and the two sentinels of strconv, and what the rows' list gives the walks: for rows of tied cards. -/
namespace Go.Proofs.YtfiieppnpmodoaaDoor.Laid
open Go.ChangeShapes Go.WideShapes Go.ChangeAt Go.RowKit
def valsOf (d : DataW Unit) : Array Value := match d with
  | .agg l => (l.map fun | .lit (.int k z) => Value.int k z | _ => .bool false).toArray
  | _ => #[]
def put (d : DataW Unit) : Obj → Obj
  | .cells _ t frozen => .cells (valsOf d) t frozen
  | o => o
def point (b : Nat) : Obj → Obj
  | .cells _ t frozen => .cells #[.iface 151 (.pointer (some ⟨b, 0, none⟩))] t frozen
  | o => o
abbrev synS : ByteArray := { data := #[105, 110, 118, 97, 108, 105, 100, 32, 115, 121, 110, 116, 97, 120] }
abbrev rngS : ByteArray := { data := #[118, 97, 108, 117, 101, 32, 111, 117, 116, 32, 111, 102, 32, 114, 97, 110, 103, 101] }
/-- So many blocks has the settled world. -/
noncomputable def low : Nat := (World.holding Tryd.prog default ⟨#[], #[], []⟩).heap.size
/-- The settled world with the three tables laid, and two blocks more for the sentinels. -/
noncomputable def world (os : Os) : World :=
  let w0 := World.holding Tryd.prog os ⟨#[.cells #[.string synS] 153, .cells #[.string rngS] 153], #[], []⟩
  { w0 with heap := ((((w0.heap.modify 3 (put Rows.laid_internal_strconv_uint64pow10)).modify 4 (put Rows.laid_math_bits_deBruijn32tab)).modify 5 (put Rows.laid_math_bits_deBruijn64tab)).modify 1 (point low)).modify 2 (point (low + 1)) }
abbrev list5 : List (String × DataW Unit) := [("math/bits.deBruijn32tab", Rows.laid_math_bits_deBruijn32tab), ("math/bits.deBruijn64tab", Rows.laid_math_bits_deBruijn64tab), ("internal/strconv.uint64pow10", Rows.laid_internal_strconv_uint64pow10), ("strconv.ErrRange", Rows.laid_strconv_ErrRange), ("strconv.ErrSyntax", Rows.laid_strconv_ErrSyntax)]
set_option maxRecDepth 100000 in
theorem met (os : Os) (args : Array Value) : laidMet Tryd.prog list5 ((world os).forCall (fun _ _ => 0) ⟨#[], args, []⟩).memory :=
  laidMet_of_run' 100 (by kernel_rfl) (by kernel_rfl)
theorem gPowType : (Tryd.prog.globals[3]?).map (·.type) = some 147 := by kernel_rfl
theorem gl {W : World} (h : laidMet Tryd.prog list5 W) : Q.GLW W :=
  Lib.tabIs_of_head Q.gPow gPowType Tryd.underlying147 Tryd.underlying120 (by kernel_rfl) (by kernel_rfl) (show laidMet Tryd.prog (("internal/strconv.uint64pow10", Lib.tabData .u64 Lib.pow10Tab) :: _) W from h.tail.tail)
end Go.Proofs.YtfiieppnpmodoaaDoor.Laid
end
