/- Texts for FnExactReply, packed by a program of this session (wip/pack.py), part 3 of 5: the print's words that are used, the printed walks, the plain laws, the row; no condition. -/
import Derived.Test.YtnnnglbjipiclaaMgFnExactReply2
import Derived.Shelf.Strings.Builder1
import Derived.Shelf.Strings.Builder2
import Derived.Shelf.Strings.BuilderF
import Derived.Shelf.Strings.BuilderK
import Derived.Shelf.Strings.Builder2Cap
import Derived.Shelf.Strings.Prefix
import Derived.Shelf.Bits.Mul64
import Derived.Shelf.Strings.Repeat
import Derived.Shelf.Strings.BuilderCap
import Derived.Test.YtnnnglbjipiclaaProg
section
namespace Go.Proofs.Ytnnnglbjipiclaa.Q
open Go.RowKit Go.Proofs.YtnnnglbjipiclaaW.PrintWords Go.Proofs.YtnnnglbjipiclaaW.PrintLast Go.Proofs.YtnnnglbjipiclaaW.PrintMore
attribute [local go_sem] max2_int min2_int max_two min_two max_three min_three max_four min_four
set_option linter.unusedVariables false
set_option linter.unusedSimpArgs false
def impl_within.f (a0 : Int) (a1 : Int) (a2 : Int) : Option (Bool) := if a1 ≤ a0 then (some (decide (a0 ≤ a2))) else (some false)
set_option maxHeartbeats 8000000 in
set_option maxRecDepth 100000 in
theorem impl_within.calls (a0 : Int) (a1 : Int) (a2 : Int) (r : Bool) (w : World) (h : impl_within.f a0 a1 a2 = some r) :
  Calls Try.prog 38 #[.int .i64 a0, .int .i64 a1, .int .i64 a2] w fun e w' => e = .returned (.bool r) ∧ Drawn0 w w' := by
 have H : (if a1 ≤ a0 then (some (decide (a0 ≤ a2))) else (some false)) = some r := h
 clear h
 by_cases c4 : a1 ≤ a0
 ·rw [if_pos c4] at H
  have c4b0 : decide (a1 ≤ a0) = true := decide_eq_true c4
  clear c4
  obtain rfl := Option.some.inj H
  go_enter Try.func38, Try.ntmps38
  go_wp2
  go_ret
  exact ⟨by first | rfl | (simp; done) | (simp [*]; done) | (simp [i64_w, IntKind.wrap_u8, e256_]; done) | (simp; generalize ByteArray.toList _ = zz_; cases zz_ <;> rfl), by repeat (first | exact Drawn0.refl _ | apply Drawn0.step)⟩
 ·rw [if_neg c4] at H
  have c4b0 : decide (a1 ≤ a0) = false := decide_eq_false c4
  clear c4
  obtain rfl := Option.some.inj H
  go_enter Try.func38, Try.ntmps38
  go_wp2
  go_ret
  exact ⟨by first | rfl | (simp; done) | (simp [*]; done) | (simp [i64_w, IntKind.wrap_u8, e256_]; done) | (simp; generalize ByteArray.toList _ = zz_; cases zz_ <;> rfl), by repeat (first | exact Drawn0.refl _ | apply Drawn0.step)⟩
def impl_fieldRows.f  : Option ((List (S63))) := some (([(⟨2, 3, 19⟩ : S63), (⟨3, 1, 6⟩ : S63), (⟨4, 1, 12⟩ : S63), (⟨7, 1, 10⟩ : S63), (⟨11, 1, 6⟩ : S63), (⟨14, 1, 4⟩ : S63), (⟨37, 2, 12⟩ : S63), (⟨38, 2, 6⟩ : S63), (⟨39, 2, 2⟩ : S63), (⟨41, 2, 8⟩ : S63), (⟨48, 5, 60⟩ : S63), (⟨49, 1, 3⟩ : S63), (⟨54, 5, 60⟩ : S63), (⟨95, 2, 12⟩ : S63), (⟨102, 4, 20⟩ : S63), (⟨103, 4, 20⟩ : S63)] : List (S63)))
set_option maxHeartbeats 8000000 in
set_option maxRecDepth 100000 in
theorem impl_fieldRows.calls  (r : List (S63)) (w : World) (h : impl_fieldRows.f  = some r) :
  Calls Try.prog 54 #[] w fun e w' => ∃ v0_ : Value, e = .returned (v0_) ∧ Kd.R k63 63 w' w.heap.size (fun _ => True) v0_ r ∧ Below w.heap.size w w' := by
 have hu63 := Try.underlying63
 have HB := Aside0.mk (Below.refl w.heap.size w)
 have H : (some (([(⟨2, 3, 19⟩ : S63), (⟨3, 1, 6⟩ : S63), (⟨4, 1, 12⟩ : S63), (⟨7, 1, 10⟩ : S63), (⟨11, 1, 6⟩ : S63), (⟨14, 1, 4⟩ : S63), (⟨37, 2, 12⟩ : S63), (⟨38, 2, 6⟩ : S63), (⟨39, 2, 2⟩ : S63), (⟨41, 2, 8⟩ : S63), (⟨48, 5, 60⟩ : S63), (⟨49, 1, 3⟩ : S63), (⟨54, 5, 60⟩ : S63), (⟨95, 2, 12⟩ : S63), (⟨102, 4, 20⟩ : S63), (⟨103, 4, 20⟩ : S63)] : List (S63)))) = some r := h
 clear h
 obtain ⟨y198, hy198⟩ : ∃ y_ : List (S63), y_ = (([(⟨2, 3, 19⟩ : S63), (⟨3, 1, 6⟩ : S63), (⟨4, 1, 12⟩ : S63), (⟨7, 1, 10⟩ : S63), (⟨11, 1, 6⟩ : S63), (⟨14, 1, 4⟩ : S63), (⟨37, 2, 12⟩ : S63), (⟨38, 2, 6⟩ : S63), (⟨39, 2, 2⟩ : S63), (⟨41, 2, 8⟩ : S63), (⟨48, 5, 60⟩ : S63), (⟨49, 1, 3⟩ : S63), (⟨54, 5, 60⟩ : S63), (⟨95, 2, 12⟩ : S63), (⟨102, 4, 20⟩ : S63), (⟨103, 4, 20⟩ : S63)] : List (S63))) := ⟨_, rfl⟩
 replace H : (some y198) = some r := by first | (rw [hy198]; with_reducible exact H) | (have H2_ := (Option.bind_some _ _).symm.trans H; rw [hy198]; with_reducible exact H2_) | (have H2_ := (Option.bind_some _ _).symm.trans H; with_reducible exact H2_) | with_reducible exact H | (rw [hy198]; exact H) | exact H
 have Ny198 := Aside0.mk hy198
 clear hy198
 obtain rfl := Option.some.inj H
 go_enter Try.func54, Try.ntmps54
 go_wp2_with (first | ((with_reducible refine gate_dst (N := 17) rfl ?_); refine Kd.R_lit k63 _ 63 ?hg (N := 17) ?hd (xs := ([(⟨2, 3, 19⟩ : S63), (⟨3, 1, 6⟩ : S63), (⟨4, 1, 12⟩ : S63), (⟨7, 1, 10⟩ : S63), (⟨11, 1, 6⟩ : S63), (⟨14, 1, 4⟩ : S63), (⟨37, 2, 12⟩ : S63), (⟨38, 2, 6⟩ : S63), (⟨39, 2, 2⟩ : S63), (⟨41, 2, 8⟩ : S63), (⟨48, 5, 60⟩ : S63), (⟨49, 1, 3⟩ : S63), (⟨54, 5, 60⟩ : S63), (⟨95, 2, 12⟩ : S63), (⟨102, 4, 20⟩ : S63), (⟨103, 4, 20⟩ : S63)] : List (S63))) (inner := [.int .i64 2, .int .i64 3, .int .i64 19, .int .i64 3, .int .i64 1, .int .i64 6, .int .i64 4, .int .i64 1, .int .i64 12, .int .i64 7, .int .i64 1, .int .i64 10, .int .i64 11, .int .i64 1, .int .i64 6, .int .i64 14, .int .i64 1, .int .i64 4, .int .i64 37, .int .i64 2, .int .i64 12, .int .i64 38, .int .i64 2, .int .i64 6, .int .i64 39, .int .i64 2, .int .i64 2, .int .i64 41, .int .i64 2, .int .i64 8, .int .i64 48, .int .i64 5, .int .i64 60, .int .i64 49, .int .i64 1, .int .i64 3, .int .i64 54, .int .i64 5, .int .i64 60, .int .i64 95, .int .i64 2, .int .i64 12, .int .i64 102, .int .i64 4, .int .i64 20, .int .i64 103, .int .i64 4, .int .i64 20]) (ok := fun _ => True) (okp := fun _ => True) ?hr ?hp (fun _ hk => hk) trivial (Below.refl _ _) (Nat.le_refl _) (by simp) ?_; (case hd => rfl); (case hg => rfl); (case hr => first | (go_simp; done) | (go_simp; rfl)); (case hp => exact (Reps.c3 (show Kd.M k63 _ _ _ (⟨2, 3, 19⟩ : S63) [.int .i64 2, .int .i64 3, .int .i64 19] from (k63_mkM _ _ _ (⟨2, 3, 19⟩ : S63) )) (Reps.c3 (show Kd.M k63 _ _ _ (⟨3, 1, 6⟩ : S63) [.int .i64 3, .int .i64 1, .int .i64 6] from (k63_mkM _ _ _ (⟨3, 1, 6⟩ : S63) )) (Reps.c3 (show Kd.M k63 _ _ _ (⟨4, 1, 12⟩ : S63) [.int .i64 4, .int .i64 1, .int .i64 12] from (k63_mkM _ _ _ (⟨4, 1, 12⟩ : S63) )) (Reps.c3 (show Kd.M k63 _ _ _ (⟨7, 1, 10⟩ : S63) [.int .i64 7, .int .i64 1, .int .i64 10] from (k63_mkM _ _ _ (⟨7, 1, 10⟩ : S63) )) (Reps.c3 (show Kd.M k63 _ _ _ (⟨11, 1, 6⟩ : S63) [.int .i64 11, .int .i64 1, .int .i64 6] from (k63_mkM _ _ _ (⟨11, 1, 6⟩ : S63) )) (Reps.c3 (show Kd.M k63 _ _ _ (⟨14, 1, 4⟩ : S63) [.int .i64 14, .int .i64 1, .int .i64 4] from (k63_mkM _ _ _ (⟨14, 1, 4⟩ : S63) )) (Reps.c3 (show Kd.M k63 _ _ _ (⟨37, 2, 12⟩ : S63) [.int .i64 37, .int .i64 2, .int .i64 12] from (k63_mkM _ _ _ (⟨37, 2, 12⟩ : S63) )) (Reps.c3 (show Kd.M k63 _ _ _ (⟨38, 2, 6⟩ : S63) [.int .i64 38, .int .i64 2, .int .i64 6] from (k63_mkM _ _ _ (⟨38, 2, 6⟩ : S63) )) (Reps.c3 (show Kd.M k63 _ _ _ (⟨39, 2, 2⟩ : S63) [.int .i64 39, .int .i64 2, .int .i64 2] from (k63_mkM _ _ _ (⟨39, 2, 2⟩ : S63) )) (Reps.c3 (show Kd.M k63 _ _ _ (⟨41, 2, 8⟩ : S63) [.int .i64 41, .int .i64 2, .int .i64 8] from (k63_mkM _ _ _ (⟨41, 2, 8⟩ : S63) )) (Reps.c3 (show Kd.M k63 _ _ _ (⟨48, 5, 60⟩ : S63) [.int .i64 48, .int .i64 5, .int .i64 60] from (k63_mkM _ _ _ (⟨48, 5, 60⟩ : S63) )) (Reps.c3 (show Kd.M k63 _ _ _ (⟨49, 1, 3⟩ : S63) [.int .i64 49, .int .i64 1, .int .i64 3] from (k63_mkM _ _ _ (⟨49, 1, 3⟩ : S63) )) (Reps.c3 (show Kd.M k63 _ _ _ (⟨54, 5, 60⟩ : S63) [.int .i64 54, .int .i64 5, .int .i64 60] from (k63_mkM _ _ _ (⟨54, 5, 60⟩ : S63) )) (Reps.c3 (show Kd.M k63 _ _ _ (⟨95, 2, 12⟩ : S63) [.int .i64 95, .int .i64 2, .int .i64 12] from (k63_mkM _ _ _ (⟨95, 2, 12⟩ : S63) )) (Reps.c3 (show Kd.M k63 _ _ _ (⟨102, 4, 20⟩ : S63) [.int .i64 102, .int .i64 4, .int .i64 20] from (k63_mkM _ _ _ (⟨102, 4, 20⟩ : S63) )) (Reps.c3 (show Kd.M k63 _ _ _ (⟨103, 4, 20⟩ : S63) [.int .i64 103, .int .i64 4, .int .i64 20] from (k63_mkM _ _ _ (⟨103, 4, 20⟩ : S63) )) (Reps.none _ _)))))))))))))))))); intro v199 w1 ho2 hb hg_ hnew_; clear hg_ hnew_; (first | rw [← Ny198.out] at ho2 | (simp only [Int.reduceToNat] at ho2; rw [← Ny198.out] at ho2)); have n0_ := Aside0.mk (Kd.R_lower ho2 (below_size bB)); have n1_ := Aside0.mk (below_step bB hb); clear HB; have HO200 := n0_; have HB := n1_; clear n0_ n1_; clear hb ho2))
 go_ret
 exact ⟨_, by first | rfl | (simp [errW_none, errW_some] <;> rfl) | (simp [*, errW_none, errW_some] <;> rfl), rA HO200.out, bB⟩
def impl_rowOf.l0 : Nat → Int → List (S63) → Int → Int → Option (Int × Int × Int)
 | 0, _, _, _, _ => none
 | k + 1, x0, x5, x6, x7 => if x7 < x6 then (if 0 ≤ x7 then (if x7 < (x5.length : Int) then (if ((rd_T63 x5 x7).f0) = x0 then (some ((rd_T63 x5 x7).f0, (rd_T63 x5 x7).f1, (rd_T63 x5 x7).f2)) else (impl_rowOf.l0 k x0 x5 x6 (wrap64 (x7 + 1)))) else (none)) else (none)) else (some (0, 0, 0))
def impl_rowOf.f (k : Nat) (a0 : Int) : Option (Int × Int × Int) := (impl_fieldRows.f).bind fun t202 => (impl_rowOf.l0 k a0 t202 (t202.length : Int) 0)
theorem impl_rowOf.mono_l : ∀ k, (∀ y0 y1 y2 y3, LeO (impl_rowOf.l0 k y0 y1 y2 y3) (impl_rowOf.l0 (k + 1) y0 y1 y2 y3))
 | 0 => fun _ _ _ _ r h => by simp [impl_rowOf.l0] at h
 | k + 1 => by
  have ih0 := impl_rowOf.mono_l k
  ·intro y0 y1 y2 y3
   unfold impl_rowOf.l0
   repeat' first
   | (with_reducible exact ih0 _ _ _ _)
   | (with_reducible exact LeO.refl _)
   | (with_reducible exact LeO.none _)
   | (with_reducible refine LeO.ite ?_ ?_)
   | (with_reducible refine LeO.bind ?_ (fun _ => ?_))
   | exact ih0 _ _ _ _
   | exact LeO.none _
   | refine LeO.ite ?_ ?_
   | refine LeO.bind ?_ (fun _ => ?_)
theorem impl_rowOf.mono : ∀ a0 k, LeO (impl_rowOf.f k a0) (impl_rowOf.f (k + 1) a0) := by
 intro a0 k
 have ih0 := impl_rowOf.mono_l k
 unfold impl_rowOf.f
 repeat' first
   | (with_reducible exact ih0 _ _ _ _)
   | (with_reducible exact LeO.refl _)
   | (with_reducible exact LeO.none _)
   | (with_reducible refine LeO.ite ?_ ?_)
   | (with_reducible refine LeO.bind ?_ (fun _ => ?_))
   | exact ih0 _ _ _ _
   | exact LeO.none _
   | refine LeO.ite ?_ ?_
   | refine LeO.bind ?_ (fun _ => ?_)
set_option maxHeartbeats 8000000 in
set_option maxRecDepth 100000 in
theorem impl_rowOf.calls (k : Nat) (a0 : Int) (r1 : Int) (r2 : Int) (r3 : Int) (w : World) (h : impl_rowOf.f k a0 = some (r1, r2, r3)) :
  Calls Try.prog 45 #[.int .i64 a0] w fun e w' => e = .returned (.agg #[.int .i64 r1, .int .i64 r2, .int .i64 r3]) ∧ Below w.heap.size w w' := by
 have hu63 := Try.underlying63
 have HB := Aside0.mk (Below.refl w.heap.size w)
 have H : ((impl_fieldRows.f).bind fun t202 => (impl_rowOf.l0 k a0 t202 (t202.length : Int) 0)) = some (r1, r2, r3) := h
 clear h
 replace H := Option.bind_eq_some_iff.mp H
 obtain ⟨t202, A20, H⟩ := H
 replace H : (impl_rowOf.l0 k a0 t202 (t202.length : Int) 0) = some (r1, r2, r3) := H
 have A2 := Aside0.mk A20
 clear A20
 have H' := Aside0.mk H
 clear H
 go_enter Try.func45, Try.ntmps45
 go_wp2_with (first | ((with_reducible refine gate_dst (N := 2) rfl ?_); refine box_event ?hg (N := 2) ?hd (cs := #[.int .i64 0, .int .i64 0, .int .i64 0]) (t := 63) ?hr ?_; (case hd => rfl); (case hg => rfl); (case hr => first | (go_simp; done) | (go_simp; rfl)); intro gb201 hg w3 hbox hb; have n0_ := Aside0.mk (below_step bB hb); have n1_ := Aside0.mk (hbox); have n2_ := Aside0.mk ((by rw [hg]; exact (below_size bB) : w.heap.size ≤ gb201)); have n3_ := Aside0.mk ((by rw [hg]; exact (below_size bB) : w.heap.size ≤ gb201)); clear HB; have HB := n0_; have BK201 := n1_; have GW201 := n2_; have GE201 := n3_; clear n0_ n1_ n2_ n3_; clear hb hbox hg) | ((with_reducible refine gate_callee (f := 54) rfl ?_); refine goesM_ (some 5) rfl rfl Try.func54 (by kernel_rfl) rfl #[] rfl ?_; (with_reducible refine (impl_fieldRows.calls  t202 _ A2.out).mono ?_); rintro e w4 ⟨v203, rfl, ho0, hb⟩; refine ⟨_, rfl, ?_⟩; have n0_ := Aside0.mk (Kd.R_lower (Kd.R_newB ho0 (g := gb201) (o := .cells #[.int .i64 0, .int .i64 0, .int .i64 0] 63 (0, 0)) (kA BK201.out)) (below_size bG)); have n1_ := Aside0.mk (blk_below (g := gb201) (o := .cells #[.int .i64 0, .int .i64 0, .int .i64 0] 63 (0, 0)) (kA BK201.out) hb); have n2_ := Aside0.mk (below_step bG hb); clear BK201; clear HB; have HO204 := n0_; have BK201 := n1_; have HB := n2_; clear n0_ n1_ n2_; (try clear hb); (try clear hb2); (try clear hk); (try clear hi); (try clear ho0); obtain ⟨Ao5, co5, eo5⟩ := Kd.R_slice HO204.out; subst eo5))
 go_loopg [7] k (fun kq v7 w' => ∃ (x7_1 : Int) (x202000_1 : Int) (x202001_1 : Int) (x202002_1 : Int), v7 = .int .i64 x7_1 ∧ Aside0 (impl_rowOf.l0 kq a0 t202 (t202.length : Int) x7_1 = some (r1, r2, r3)) ∧ Aside0 (kq ≤ k) ∧ Aside0 (Kd.R k63 63 w' w.heap.size (fun k_ => k_ ≠ gb201) (.slice Ao5 t202.length co5) t202) ∧ Aside0 (w'.heap[gb201]? = some (.cells #[.int .i64 x202000_1, .int .i64 x202001_1, .int .i64 x202002_1] 63 (0, 0))) ∧ Aside0 (Below w.heap.size w w'))
 case atStart => exact ⟨(0), (0), (0), (0), (by first | rfl | (simp; done) | (simp [*]; done) | (simp [i64_w, IntKind.wrap_u8, e256_]; done) | (simp; generalize ByteArray.toList _ = zz_; cases zz_ <;> rfl)), H', ⟨Nat.le_refl _⟩, ⟨by (with_reducible repeat (first | apply Kd.R_alloc | apply Kd.R_drewN | apply Kd.R_drew)); exact Kd.R_mono HO204.out (fun _ hk => hk.2)⟩, ⟨kA BK201.out⟩, ⟨bG⟩⟩
 case round =>
  clear H'
  try clear p2
  try clear c4
  try clear c5
  obtain ⟨x7_1, x202000_1, x202001_1, x202002_1, rfl, HA, HK1, HO_5, BK201, HB⟩ := hrel
  cases gk with
  | zero => exact absurd HA.out (by simp [impl_rowOf.l0])
  | succ k1 =>
   have H := HA.out
   clear HA
   simp only [impl_rowOf.l0] at H
   by_cases c6 : x7_1 < (t202.length : Int)
   ·rw [if_pos c6] at H
    have c6b0 : decide (x7_1 < (t202.length : Int)) = true := decide_eq_true c6
    clear c6
    by_cases c7 : 0 ≤ x7_1
    ·rw [if_pos c7] at H
     have c7b0 : decide (0 ≤ x7_1) = true := decide_eq_true c7
     clear c7
     by_cases c8 : x7_1 < (t202.length : Int)
     ·rw [if_pos c8] at H
      have c8b0 : decide (x7_1 < (t202.length : Int)) = true := decide_eq_true c8
      clear c8
      by_cases c9 : ((rd_T63 t202 x7_1).f0) = a0
      ·rw [if_pos c9] at H
       have c9b0 : (((rd_T63 t202 x7_1).f0) == a0) = true := beq_iff_eq.mpr c9
       have c9b1 : (((rd_T63 t202 x7_1).f0) != a0) = false := bne_eq_false_iff_eq.mpr c9
       clear c9
       simp only [Option.some.injEq, Prod.mk.injEq] at H
       obtain ⟨rfl, rfl, rfl⟩ := H
       have p205 : 0 ≤ (x7_1 : Int) := of_decide_eq_true (by first | (with_reducible assumption) | assumption)
       have q205 : x7_1 < (t202.length : Int) := of_decide_eq_true (by first | (with_reducible assumption) | assumption)
       obtain ⟨ad205, e205, hx205_0, hx205_1, hx205_2⟩ := at_T63 (Kd.R_reads' HO_5.out).2.2 x7_1 p205 q205
       cases e205
       replace p205 := eq_true p205
       replace q205 := eq_true q205
       go_wp2_with (first | ((with_reducible refine gate_dst (N := 4) rfl ?_); refine box_event ?hg (N := 4) ?hd (cs := #[.int .i64 0, .int .i64 0, .int .i64 0]) (t := 63) ?hr ?_; (case hd => rfl); (case hg => rfl); (case hr => first | (go_simp; done) | (go_simp; rfl)); intro gb206 hg w10 hbox hb; have n0_ := Aside0.mk (Kd.R_below (Kd.R_elderB (rA HO_5.out) gb206 (Nat.le_of_eq hg.symm)) hb); have n1_ := Aside0.mk (blk_below (g := gb201) (o := .cells #[.int .i64 x202000_1, .int .i64 x202001_1, .int .i64 x202002_1] 63 (0, 0)) (kA BK201.out) hb); have n2_ := Aside0.mk (below_step bG hb); have n3_ := Aside0.mk (hbox); have n4_ := Aside0.mk ((by rw [hg]; exact (below_size bG) : w.heap.size ≤ gb206)); have n5_ := Aside0.mk ((by rw [hg]; exact (below_size bG) : w.heap.size ≤ gb206)); have n6_ := Aside0.mk ((by rw [hg]; exact Nat.ne_of_lt (blk_lt (g := gb201) (o := .cells #[.int .i64 x202000_1, .int .i64 x202001_1, .int .i64 x202002_1] 63 (0, 0)) (kA BK201.out)) : gb201 ≠ gb206)); have n7_ := Aside0.mk ((by rw [hg]; exact Nat.ne_of_gt (blk_lt (g := gb201) (o := .cells #[.int .i64 x202000_1, .int .i64 x202001_1, .int .i64 x202002_1] 63 (0, 0)) (kA BK201.out)) : gb206 ≠ gb201)); clear HO_5; clear BK201; clear HB; have HO_5 := n0_; have BK201 := n1_; have HB := n2_; have BK206 := n3_; have GW206 := n4_; have GE206 := n5_; have NB201_206 := n6_; have NB206_201 := n7_; clear n0_ n1_ n2_ n3_ n4_ n5_ n6_ n7_; clear hb hbox hg; have hnb11 := NB206_201.out; have hnc11 := NB201_206.out; have hcz12_0 : w10.cell? ⟨gb206, 0, none⟩ = some (.int .i64 0) := (blk_cell BK206.out 0).trans rfl; have hcz12_1 : w10.cell? ⟨gb206, 1, none⟩ = some (.int .i64 0) := (blk_cell BK206.out 1).trans rfl; have hcz12_2 : w10.cell? ⟨gb206, 2, none⟩ = some (.int .i64 0) := (blk_cell BK206.out 2).trans rfl; have hfz12_0 := blk_frozen BK206.out 0; have hfz12_1 := blk_frozen BK206.out 1; have hfz12_2 := blk_frozen BK206.out 2; have hcz13_0 : w10.cell? ⟨gb201, 0, none⟩ = some (.int .i64 x202000_1) := (blk_cell BK201.out 0).trans rfl; have hcz13_1 : w10.cell? ⟨gb201, 1, none⟩ = some (.int .i64 x202001_1) := (blk_cell BK201.out 1).trans rfl; have hcz13_2 : w10.cell? ⟨gb201, 2, none⟩ = some (.int .i64 x202002_1) := (blk_cell BK201.out 2).trans rfl; have hfz13_0 := blk_frozen BK201.out 0; have hfz13_1 := blk_frozen BK201.out 1; have hfz13_2 := blk_frozen BK201.out 2))
       refine bodyPost_ret (results_cell_row rfl _ _ gb201 63 #[.int .i64 ((rd_T63 t202 x7_1).f0), .int .i64 ((rd_T63 t202 x7_1).f1), .int .i64 ((rd_T63 t202 x7_1).f2)] (0, 0) _ rfl (by (with_reducible repeat (first | refine blk_drewN ?_ _ | refine blk_drew ?_ | refine blk_alloc ?_ _)); refine blk_put (cs := #[.int .i64 ((rd_T63 t202 x7_1).f0), .int .i64 ((rd_T63 t202 x7_1).f1), .int .i64 x202002_1]) ?_ 2 _ rfl; (with_reducible repeat (first | refine blk_drewN ?_ _ | refine blk_drew ?_ | refine blk_alloc ?_ _)); refine blk_put (cs := #[.int .i64 ((rd_T63 t202 x7_1).f0), .int .i64 x202001_1, .int .i64 x202002_1]) ?_ 1 _ rfl; (with_reducible repeat (first | refine blk_drewN ?_ _ | refine blk_drew ?_ | refine blk_alloc ?_ _)); refine blk_put (cs := #[.int .i64 x202000_1, .int .i64 x202001_1, .int .i64 x202002_1]) ?_ 0 _ rfl; (with_reducible repeat (first | refine blk_drewN ?_ _ | refine blk_drew ?_ | refine blk_alloc ?_ _)); refine blk_far ?_ NB201_206.out _; (with_reducible repeat (first | refine blk_drewN ?_ _ | refine blk_drew ?_ | refine blk_alloc ?_ _)); refine blk_far ?_ NB201_206.out _; (with_reducible repeat (first | refine blk_drewN ?_ _ | refine blk_drew ?_ | refine blk_alloc ?_ _)); refine blk_far ?_ NB201_206.out _; (with_reducible repeat (first | refine blk_drewN ?_ _ | refine blk_drew ?_ | refine blk_alloc ?_ _)); exact BK201.out) Try.underlying63 rfl (by kernel_rfl)) rfl ?_
       exact ⟨by first | rfl | (simp [errW_none, errW_some] <;> rfl) | (simp [*, errW_none, errW_some] <;> rfl), bG⟩
      ·rw [if_neg c9] at H
       have c9b0 : (((rd_T63 t202 x7_1).f0) == a0) = false := beq_eq_false_iff_ne.mpr c9
       have c9b1 : (((rd_T63 t202 x7_1).f0) != a0) = true := bne_iff_ne.mpr c9
       have H' := Aside0.mk H
       clear H
       have p205 : 0 ≤ (x7_1 : Int) := of_decide_eq_true (by first | (with_reducible assumption) | assumption)
       have q205 : x7_1 < (t202.length : Int) := of_decide_eq_true (by first | (with_reducible assumption) | assumption)
       obtain ⟨ad205, e205, hx205_0, hx205_1, hx205_2⟩ := at_T63 (Kd.R_reads' HO_5.out).2.2 x7_1 p205 q205
       cases e205
       replace p205 := eq_true p205
       replace q205 := eq_true q205
       go_wp2_with (first | ((with_reducible refine gate_dst (N := 4) rfl ?_); refine box_event ?hg (N := 4) ?hd (cs := #[.int .i64 0, .int .i64 0, .int .i64 0]) (t := 63) ?hr ?_; (case hd => rfl); (case hg => rfl); (case hr => first | (go_simp; done) | (go_simp; rfl)); intro gb206 hg w14 hbox hb; have n0_ := Aside0.mk (Kd.R_below (Kd.R_elderB (rA HO_5.out) gb206 (Nat.le_of_eq hg.symm)) hb); have n1_ := Aside0.mk (blk_below (g := gb201) (o := .cells #[.int .i64 x202000_1, .int .i64 x202001_1, .int .i64 x202002_1] 63 (0, 0)) (kA BK201.out) hb); have n2_ := Aside0.mk (below_step bG hb); have n3_ := Aside0.mk (hbox); have n4_ := Aside0.mk ((by rw [hg]; exact (below_size bG) : w.heap.size ≤ gb206)); have n5_ := Aside0.mk ((by rw [hg]; exact (below_size bG) : w.heap.size ≤ gb206)); have n6_ := Aside0.mk ((by rw [hg]; exact Nat.ne_of_lt (blk_lt (g := gb201) (o := .cells #[.int .i64 x202000_1, .int .i64 x202001_1, .int .i64 x202002_1] 63 (0, 0)) (kA BK201.out)) : gb201 ≠ gb206)); have n7_ := Aside0.mk ((by rw [hg]; exact Nat.ne_of_gt (blk_lt (g := gb201) (o := .cells #[.int .i64 x202000_1, .int .i64 x202001_1, .int .i64 x202002_1] 63 (0, 0)) (kA BK201.out)) : gb206 ≠ gb201)); clear HO_5; clear BK201; clear HB; have HO_5 := n0_; have BK201 := n1_; have HB := n2_; have BK206 := n3_; have GW206 := n4_; have GE206 := n5_; have NB201_206 := n6_; have NB206_201 := n7_; clear n0_ n1_ n2_ n3_ n4_ n5_ n6_ n7_; clear hb hbox hg; have hnb15 := NB206_201.out; have hnc15 := NB201_206.out; have hcz16_0 : w14.cell? ⟨gb206, 0, none⟩ = some (.int .i64 0) := (blk_cell BK206.out 0).trans rfl; have hcz16_1 : w14.cell? ⟨gb206, 1, none⟩ = some (.int .i64 0) := (blk_cell BK206.out 1).trans rfl; have hcz16_2 : w14.cell? ⟨gb206, 2, none⟩ = some (.int .i64 0) := (blk_cell BK206.out 2).trans rfl; have hfz16_0 := blk_frozen BK206.out 0; have hfz16_1 := blk_frozen BK206.out 1; have hfz16_2 := blk_frozen BK206.out 2))
       go_roundg k1
       case measure => have := HK1.out; omega
       case rel => exact ⟨(wrap64 (x7_1 + 1)), (x202000_1), (x202001_1), (x202002_1), (by first | rfl | (simp; done) | (simp [*]; done) | (simp [i64_w, IntKind.wrap_u8, e256_]; done) | (simp; generalize ByteArray.toList _ = zz_; cases zz_ <;> rfl)), H', ⟨by have := HK1.out; omega⟩, ⟨by (with_reducible repeat (first | apply Kd.R_alloc | apply Kd.R_drewN | apply Kd.R_drew)); exact Kd.R_mono (Kd.R_far (p := ⟨gb206, 2, none⟩) (Kd.R_far (p := ⟨gb206, 1, none⟩) (Kd.R_far (p := ⟨gb206, 0, none⟩) (Kd.R_mono HO_5.out (fun k_ hk => (⟨hk, hk.2⟩ : _ ∧ k_ ≠ gb206))) (fun _ hk => hk.2) (.int .i64 ((rd_T63 t202 x7_1).f0))) (fun _ hk => hk.2) (.int .i64 ((rd_T63 t202 x7_1).f1))) (fun _ hk => hk.2) (.int .i64 ((rd_T63 t202 x7_1).f2))) (fun _ hk => hk.1.1)⟩, ⟨by (with_reducible repeat (first | refine blk_drewN ?_ _ | refine blk_drew ?_ | refine blk_alloc ?_ _)); refine blk_far ?_ NB201_206.out _; (with_reducible repeat (first | refine blk_drewN ?_ _ | refine blk_drew ?_ | refine blk_alloc ?_ _)); refine blk_far ?_ NB201_206.out _; (with_reducible repeat (first | refine blk_drewN ?_ _ | refine blk_drew ?_ | refine blk_alloc ?_ _)); refine blk_far ?_ NB201_206.out _; (with_reducible repeat (first | refine blk_drewN ?_ _ | refine blk_drew ?_ | refine blk_alloc ?_ _)); exact BK201.out⟩, ⟨bG⟩⟩
     ·rw [if_neg c8] at H
      exact absurd H (by simp)
    ·rw [if_neg c7] at H
     exact absurd H (by simp)
   ·rw [if_neg c6] at H
    have c6b0 : decide (x7_1 < (t202.length : Int)) = false := decide_eq_false c6
    clear c6
    simp only [Option.some.injEq, Prod.mk.injEq] at H
    obtain ⟨rfl, rfl, rfl⟩ := H
    have hcz17_0 : wr.cell? ⟨gb201, 0, none⟩ = some (.int .i64 x202000_1) := (blk_cell BK201.out 0).trans rfl
    have hcz17_1 : wr.cell? ⟨gb201, 1, none⟩ = some (.int .i64 x202001_1) := (blk_cell BK201.out 1).trans rfl
    have hcz17_2 : wr.cell? ⟨gb201, 2, none⟩ = some (.int .i64 x202002_1) := (blk_cell BK201.out 2).trans rfl
    have hfz17_0 := blk_frozen BK201.out 0
    have hfz17_1 := blk_frozen BK201.out 1
    have hfz17_2 := blk_frozen BK201.out 2
    go_wp2
    refine bodyPost_ret (results_cell_row rfl _ _ gb201 63 #[.int .i64 0, .int .i64 0, .int .i64 0] (0, 0) _ rfl (by (with_reducible repeat (first | refine blk_drewN ?_ _ | refine blk_drew ?_ | refine blk_alloc ?_ _)); refine blk_put (cs := #[.int .i64 0, .int .i64 0, .int .i64 x202002_1]) ?_ 2 _ rfl; (with_reducible repeat (first | refine blk_drewN ?_ _ | refine blk_drew ?_ | refine blk_alloc ?_ _)); refine blk_put (cs := #[.int .i64 0, .int .i64 x202001_1, .int .i64 x202002_1]) ?_ 1 _ rfl; (with_reducible repeat (first | refine blk_drewN ?_ _ | refine blk_drew ?_ | refine blk_alloc ?_ _)); refine blk_put (cs := #[.int .i64 x202000_1, .int .i64 x202001_1, .int .i64 x202002_1]) ?_ 0 _ rfl; (with_reducible repeat (first | refine blk_drewN ?_ _ | refine blk_drew ?_ | refine blk_alloc ?_ _)); exact BK201.out) Try.underlying63 rfl (by kernel_rfl)) rfl ?_
    exact ⟨by first | rfl | (simp [errW_none, errW_some] <;> rfl) | (simp [*, errW_none, errW_some] <;> rfl), bG⟩
attribute [local go_sem] max2_int min2_int max_two min_two max_three min_three max_four min_four
set_option linter.unusedVariables false
set_option linter.unusedSimpArgs false
def impl_Digits.l0 : Nat → ByteArray → Int → Int → Option (Bool)
 | 0, _, _, _ => none
 | k + 1, x0, x5, x6 => if x6 < x5 then (if 0 ≤ x6 then (if x6 < (x0.size : Int) then (if (bt x0 x6) < 48 then (some false) else (if (bt x0 x6) > 57 then (some false) else (impl_Digits.l0 k x0 x5 (wrap64 (x6 + 1))))) else (none)) else (none)) else (some (x0.toList != ([] : List UInt8)))
def impl_Digits.f (k : Nat) (a0 : ByteArray) : Option (Bool) := impl_Digits.l0 k a0 (a0.size : Int) 0
set_option maxHeartbeats 8000000 in
set_option maxRecDepth 100000 in
theorem impl_Digits.calls (k : Nat) (a0 : ByteArray) (r : Bool) (w : World) (h : impl_Digits.f k a0 = some r) :
  Calls Try.prog 46 #[.string a0] w fun e w' => e = .returned (.bool r) ∧ Drawn0 w w' := by
 have H : (impl_Digits.l0 k a0 (a0.size : Int) 0) = some r := h
 clear h
 have H' := Aside0.mk H
 clear H
 go_enter Try.func46, Try.ntmps46
 go_wp2
 go_loopg [6] k (fun kq v6 w' => ∃ (x6_1 : Int), v6 = .int .i64 x6_1 ∧ Aside0 (impl_Digits.l0 kq a0 (a0.size : Int) x6_1 = some r) ∧ Aside0 (kq ≤ k) ∧ Drawn0 w w')
 case atStart => exact ⟨(0), (by first | rfl | (simp; done) | (simp [*]; done) | (simp [i64_w, IntKind.wrap_u8, e256_]; done) | (simp; generalize ByteArray.toList _ = zz_; cases zz_ <;> rfl)), H', ⟨Nat.le_refl _⟩, by repeat (first | exact Drawn0.refl _ | apply Drawn0.step)⟩
 case round =>
  clear H'
  obtain ⟨x6_1, rfl, HA, HK1, ⟨m1, rfl⟩⟩ := hrel
  cases gk with
  | zero => exact absurd HA.out (by simp [impl_Digits.l0])
  | succ k1 =>
   have H := HA.out
   clear HA
   simp only [impl_Digits.l0] at H
   by_cases c2 : x6_1 < (a0.size : Int)
   ·rw [if_pos c2] at H
    have c2b0 : decide (x6_1 < (a0.size : Int)) = true := decide_eq_true c2
    clear c2
    by_cases c3 : 0 ≤ x6_1
    ·rw [if_pos c3] at H
     have c3b0 : decide (0 ≤ x6_1) = true := decide_eq_true c3
     clear c3
     by_cases c4 : x6_1 < (a0.size : Int)
     ·rw [if_pos c4] at H
      have c4b0 : decide (x6_1 < (a0.size : Int)) = true := decide_eq_true c4
      clear c4
      by_cases c6 : (bt a0 x6_1) < 48
      ·rw [if_pos c6] at H
       have c6b0 : decide ((bt a0 x6_1) < 48) = true := decide_eq_true c6
       clear c6
       obtain rfl := Option.some.inj H
       have p5 : 0 ≤ (x6_1 : Int) := of_decide_eq_true (by first | (with_reducible assumption) | assumption)
       have q5 : x6_1 < (a0.size : Int) := of_decide_eq_true (by first | (with_reducible assumption) | assumption)
       have hx5 := bt_at a0 x6_1
       replace p5 := eq_true p5
       replace q5 := eq_true q5
       go_wp2
       go_ret
       exact ⟨by first | rfl | (simp; done) | (simp [*]; done) | (simp [i64_w, IntKind.wrap_u8, e256_]; done) | (simp; generalize ByteArray.toList _ = zz_; cases zz_ <;> rfl), by repeat (first | exact Drawn0.refl _ | apply Drawn0.step)⟩
      ·rw [if_neg c6] at H
       have c6b0 : decide ((bt a0 x6_1) < 48) = false := decide_eq_false c6
       clear c6
       by_cases c8 : (bt a0 x6_1) > 57
       ·rw [if_pos c8] at H
        have c8b0 : decide (57 < (bt a0 x6_1)) = true := decide_eq_true c8
        clear c8
        obtain rfl := Option.some.inj H
        have p5 : 0 ≤ (x6_1 : Int) := of_decide_eq_true (by first | (with_reducible assumption) | assumption)
        have q5 : x6_1 < (a0.size : Int) := of_decide_eq_true (by first | (with_reducible assumption) | assumption)
        have hx5 := bt_at a0 x6_1
        replace p5 := eq_true p5
        replace q5 := eq_true q5
        have p7 : 0 ≤ (x6_1 : Int) := of_decide_eq_true (by first | (with_reducible assumption) | assumption)
        have q7 : x6_1 < (a0.size : Int) := of_decide_eq_true (by first | (with_reducible assumption) | assumption)
        have hx7 := bt_at a0 x6_1
        replace p7 := eq_true p7
        replace q7 := eq_true q7
        go_wp2
        go_ret
        exact ⟨by first | rfl | (simp; done) | (simp [*]; done) | (simp [i64_w, IntKind.wrap_u8, e256_]; done) | (simp; generalize ByteArray.toList _ = zz_; cases zz_ <;> rfl), by repeat (first | exact Drawn0.refl _ | apply Drawn0.step)⟩
       ·rw [if_neg c8] at H
        have c8b0 : decide (57 < (bt a0 x6_1)) = false := decide_eq_false c8
        clear c8
        have H' := Aside0.mk H
        clear H
        have p5 : 0 ≤ (x6_1 : Int) := of_decide_eq_true (by first | (with_reducible assumption) | assumption)
        have q5 : x6_1 < (a0.size : Int) := of_decide_eq_true (by first | (with_reducible assumption) | assumption)
        have hx5 := bt_at a0 x6_1
        replace p5 := eq_true p5
        replace q5 := eq_true q5
        have p7 : 0 ≤ (x6_1 : Int) := of_decide_eq_true (by first | (with_reducible assumption) | assumption)
        have q7 : x6_1 < (a0.size : Int) := of_decide_eq_true (by first | (with_reducible assumption) | assumption)
        have hx7 := bt_at a0 x6_1
        replace p7 := eq_true p7
        replace q7 := eq_true q7
        go_wp2
        go_roundg k1
        case measure => have := HK1.out; omega
        case rel => exact ⟨(wrap64 (x6_1 + 1)), (by first | rfl | (simp; done) | (simp [*]; done) | (simp [i64_w, IntKind.wrap_u8, e256_]; done) | (simp; generalize ByteArray.toList _ = zz_; cases zz_ <;> rfl)), H', ⟨by have := HK1.out; omega⟩, by repeat (first | exact Drawn0.refl _ | apply Drawn0.step)⟩
     ·rw [if_neg c4] at H
      exact absurd H (by simp)
    ·rw [if_neg c3] at H
     exact absurd H (by simp)
   ·rw [if_neg c2] at H
    have c2b0 : decide (x6_1 < (a0.size : Int)) = false := decide_eq_false c2
    clear c2
    obtain rfl := Option.some.inj H
    go_wp2
    go_ret
    exact ⟨by first | rfl | (simp; done) | (simp [*]; done) | (simp [i64_w, IntKind.wrap_u8, e256_]; done) | (simp; generalize ByteArray.toList _ = zz_; cases zz_ <;> rfl), by repeat (first | exact Drawn0.refl _ | apply Drawn0.step)⟩
attribute [local go_sem] max2_int min2_int max_two min_two max_three min_three max_four min_four
set_option linter.unusedVariables false
set_option linter.unusedSimpArgs false
def impl_Printable.l0 : Nat → ByteArray → Int → Int → Option (Bool)
 | 0, _, _, _ => none
 | k + 1, x0, x5, x6 => if x6 < x5 then (if 0 ≤ x6 then (if x6 < (x0.size : Int) then (if (bt x0 x6) < 32 then (some false) else (if (bt x0 x6) > 126 then (some false) else (impl_Printable.l0 k x0 x5 (wrap64 (x6 + 1))))) else (none)) else (none)) else (some true)
def impl_Printable.f (k : Nat) (a0 : ByteArray) : Option (Bool) := impl_Printable.l0 k a0 (a0.size : Int) 0
set_option maxHeartbeats 8000000 in
set_option maxRecDepth 100000 in
theorem impl_Printable.calls (k : Nat) (a0 : ByteArray) (r : Bool) (w : World) (h : impl_Printable.f k a0 = some r) :
  Calls Try.prog 47 #[.string a0] w fun e w' => e = .returned (.bool r) ∧ Drawn0 w w' := by
 have H : (impl_Printable.l0 k a0 (a0.size : Int) 0) = some r := h
 clear h
 have H' := Aside0.mk H
 clear H
 go_enter Try.func47, Try.ntmps47
 go_wp2
 go_loopg [6] k (fun kq v6 w' => ∃ (x6_1 : Int), v6 = .int .i64 x6_1 ∧ Aside0 (impl_Printable.l0 kq a0 (a0.size : Int) x6_1 = some r) ∧ Aside0 (kq ≤ k) ∧ Drawn0 w w')
 case atStart => exact ⟨(0), (by first | rfl | (simp; done) | (simp [*]; done) | (simp [i64_w, IntKind.wrap_u8, e256_]; done) | (simp; generalize ByteArray.toList _ = zz_; cases zz_ <;> rfl)), H', ⟨Nat.le_refl _⟩, by repeat (first | exact Drawn0.refl _ | apply Drawn0.step)⟩
 case round =>
  clear H'
  obtain ⟨x6_1, rfl, HA, HK1, ⟨m1, rfl⟩⟩ := hrel
  cases gk with
  | zero => exact absurd HA.out (by simp [impl_Printable.l0])
  | succ k1 =>
   have H := HA.out
   clear HA
   simp only [impl_Printable.l0] at H
   by_cases c2 : x6_1 < (a0.size : Int)
   ·rw [if_pos c2] at H
    have c2b0 : decide (x6_1 < (a0.size : Int)) = true := decide_eq_true c2
    clear c2
    by_cases c3 : 0 ≤ x6_1
    ·rw [if_pos c3] at H
     have c3b0 : decide (0 ≤ x6_1) = true := decide_eq_true c3
     clear c3
     by_cases c4 : x6_1 < (a0.size : Int)
     ·rw [if_pos c4] at H
      have c4b0 : decide (x6_1 < (a0.size : Int)) = true := decide_eq_true c4
      clear c4
      by_cases c6 : (bt a0 x6_1) < 32
      ·rw [if_pos c6] at H
       have c6b0 : decide ((bt a0 x6_1) < 32) = true := decide_eq_true c6
       clear c6
       obtain rfl := Option.some.inj H
       have p5 : 0 ≤ (x6_1 : Int) := of_decide_eq_true (by first | (with_reducible assumption) | assumption)
       have q5 : x6_1 < (a0.size : Int) := of_decide_eq_true (by first | (with_reducible assumption) | assumption)
       have hx5 := bt_at a0 x6_1
       replace p5 := eq_true p5
       replace q5 := eq_true q5
       go_wp2
       go_ret
       exact ⟨by first | rfl | (simp; done) | (simp [*]; done) | (simp [i64_w, IntKind.wrap_u8, e256_]; done) | (simp; generalize ByteArray.toList _ = zz_; cases zz_ <;> rfl), by repeat (first | exact Drawn0.refl _ | apply Drawn0.step)⟩
      ·rw [if_neg c6] at H
       have c6b0 : decide ((bt a0 x6_1) < 32) = false := decide_eq_false c6
       clear c6
       by_cases c8 : (bt a0 x6_1) > 126
       ·rw [if_pos c8] at H
        have c8b0 : decide (126 < (bt a0 x6_1)) = true := decide_eq_true c8
        clear c8
        obtain rfl := Option.some.inj H
        have p5 : 0 ≤ (x6_1 : Int) := of_decide_eq_true (by first | (with_reducible assumption) | assumption)
        have q5 : x6_1 < (a0.size : Int) := of_decide_eq_true (by first | (with_reducible assumption) | assumption)
        have hx5 := bt_at a0 x6_1
        replace p5 := eq_true p5
        replace q5 := eq_true q5
        have p7 : 0 ≤ (x6_1 : Int) := of_decide_eq_true (by first | (with_reducible assumption) | assumption)
        have q7 : x6_1 < (a0.size : Int) := of_decide_eq_true (by first | (with_reducible assumption) | assumption)
        have hx7 := bt_at a0 x6_1
        replace p7 := eq_true p7
        replace q7 := eq_true q7
        go_wp2
        go_ret
        exact ⟨by first | rfl | (simp; done) | (simp [*]; done) | (simp [i64_w, IntKind.wrap_u8, e256_]; done) | (simp; generalize ByteArray.toList _ = zz_; cases zz_ <;> rfl), by repeat (first | exact Drawn0.refl _ | apply Drawn0.step)⟩
       ·rw [if_neg c8] at H
        have c8b0 : decide (126 < (bt a0 x6_1)) = false := decide_eq_false c8
        clear c8
        have H' := Aside0.mk H
        clear H
        have p5 : 0 ≤ (x6_1 : Int) := of_decide_eq_true (by first | (with_reducible assumption) | assumption)
        have q5 : x6_1 < (a0.size : Int) := of_decide_eq_true (by first | (with_reducible assumption) | assumption)
        have hx5 := bt_at a0 x6_1
        replace p5 := eq_true p5
        replace q5 := eq_true q5
        have p7 : 0 ≤ (x6_1 : Int) := of_decide_eq_true (by first | (with_reducible assumption) | assumption)
        have q7 : x6_1 < (a0.size : Int) := of_decide_eq_true (by first | (with_reducible assumption) | assumption)
        have hx7 := bt_at a0 x6_1
        replace p7 := eq_true p7
        replace q7 := eq_true q7
        go_wp2
        go_roundg k1
        case measure => have := HK1.out; omega
        case rel => exact ⟨(wrap64 (x6_1 + 1)), (by first | rfl | (simp; done) | (simp [*]; done) | (simp [i64_w, IntKind.wrap_u8, e256_]; done) | (simp; generalize ByteArray.toList _ = zz_; cases zz_ <;> rfl)), H', ⟨by have := HK1.out; omega⟩, by repeat (first | exact Drawn0.refl _ | apply Drawn0.step)⟩
     ·rw [if_neg c4] at H
      exact absurd H (by simp)
    ·rw [if_neg c3] at H
     exact absurd H (by simp)
   ·rw [if_neg c2] at H
    have c2b0 : decide (x6_1 < (a0.size : Int)) = false := decide_eq_false c2
    clear c2
    obtain rfl := Option.some.inj H
    go_wp2
    go_ret
    exact ⟨by first | rfl | (simp; done) | (simp [*]; done) | (simp [i64_w, IntKind.wrap_u8, e256_]; done) | (simp; generalize ByteArray.toList _ = zz_; cases zz_ <;> rfl), by repeat (first | exact Drawn0.refl _ | apply Drawn0.step)⟩
attribute [local go_sem] max2_int min2_int max_two min_two max_three min_three max_four min_four
set_option linter.unusedVariables false
set_option linter.unusedSimpArgs false
def impl_FieldOk.j0 : Nat → ByteArray → Bool → Int → Int → Int → Option (Bool)
 | 0, _, _, _, _, _ => none
 | k + 1, x1, x43, x211000, x211001, x211002 => if x43 = true then ((impl_Printable.f k x1).bind fun t215 => (if t215 = true then ((impl_within.f (x1.size : Int) 1 x211002).bind fun t216 => (some t216)) else (some false))) else (some false)
def impl_FieldOk.f (k : Nat) (a0 : Int) (a1 : ByteArray) : Option (Bool) := (impl_rowOf.f k a0).bind fun bt207 => (if bt207.2.1 = 1 then ((impl_Digits.f k a1).bind fun t211 => (if t211 = true then (some ((a1.size : Int) == bt207.2.2)) else (some false))) else (if bt207.2.1 = 2 then ((impl_Printable.f k a1).bind fun t212 => (if t212 = true then (some ((a1.size : Int) == bt207.2.2)) else (some false))) else (if bt207.2.1 = 3 then ((impl_Digits.f k a1).bind fun t213 => (if t213 = true then ((impl_within.f (a1.size : Int) 1 bt207.2.2).bind fun t214 => (some t214)) else (some false))) else (if bt207.2.1 = 4 then (impl_FieldOk.j0 k a1 (bt207.2.1 == 4) bt207.1 bt207.2.1 bt207.2.2) else (impl_FieldOk.j0 k a1 (bt207.2.1 == 5) bt207.1 bt207.2.1 bt207.2.2)))))
set_option maxHeartbeats 8000000 in
set_option maxRecDepth 100000 in
theorem impl_FieldOk.calls (k : Nat) (a0 : Int) (a1 : ByteArray) (r : Bool) (w : World) (h : impl_FieldOk.f k a0 a1 = some r) :
  Calls Try.prog 36 #[.int .i64 a0, .string a1] w fun e w' => e = .returned (.bool r) ∧ Below w.heap.size w w' := by
 have hu63 := Try.underlying63
 have HB := Aside0.mk (Below.refl w.heap.size w)
 have H : ((impl_rowOf.f k a0).bind fun bt207 => (if bt207.2.1 = 1 then ((impl_Digits.f k a1).bind fun t211 => (if t211 = true then (some ((a1.size : Int) == bt207.2.2)) else (some false))) else (if bt207.2.1 = 2 then ((impl_Printable.f k a1).bind fun t212 => (if t212 = true then (some ((a1.size : Int) == bt207.2.2)) else (some false))) else (if bt207.2.1 = 3 then ((impl_Digits.f k a1).bind fun t213 => (if t213 = true then ((impl_within.f (a1.size : Int) 1 bt207.2.2).bind fun t214 => (some t214)) else (some false))) else (if bt207.2.1 = 4 then (impl_FieldOk.j0 k a1 (bt207.2.1 == 4) bt207.1 bt207.2.1 bt207.2.2) else (impl_FieldOk.j0 k a1 (bt207.2.1 == 5) bt207.1 bt207.2.1 bt207.2.2)))))) = some r := h
 clear h
 replace H := Option.bind_eq_some_iff.mp H
 obtain ⟨⟨t207, t208, t209⟩, A30, H⟩ := H
 replace H : (if t208 = 1 then ((impl_Digits.f k a1).bind fun t211 => (if t211 = true then (some ((a1.size : Int) == t209)) else (some false))) else (if t208 = 2 then ((impl_Printable.f k a1).bind fun t212 => (if t212 = true then (some ((a1.size : Int) == t209)) else (some false))) else (if t208 = 3 then ((impl_Digits.f k a1).bind fun t213 => (if t213 = true then ((impl_within.f (a1.size : Int) 1 t209).bind fun t214 => (some t214)) else (some false))) else (if t208 = 4 then (impl_FieldOk.j0 k a1 (t208 == 4) t207 t208 t209) else (impl_FieldOk.j0 k a1 (t208 == 5) t207 t208 t209))))) = some r := H
 have A3 := Aside0.mk A30
 clear A30
 by_cases c4 : t208 = 1
 ·rw [if_pos c4] at H
  have c4b0 : (t208 == 1) = true := beq_iff_eq.mpr c4
  have c4b1 : (t208 != 1) = false := bne_eq_false_iff_eq.mpr c4
  clear c4
  replace H := Option.bind_eq_some_iff.mp H
  obtain ⟨t211, A50, H⟩ := H
  replace H : (if t211 = true then (some ((a1.size : Int) == t209)) else (some false)) = some r := H
  have A5 := Aside0.mk A50
  clear A50
  by_cases c6 : t211 = true
  ·subst c6
   have H1 : (some ((a1.size : Int) == t209)) = some r := by rw [if_pos rfl] at H; exact H
   clear H
   have H := H1
   clear H1
   obtain rfl := Option.some.inj H
   go_enter Try.func36, Try.ntmps36
   go_wp2_with (first | ((with_reducible refine gate_callee (f := 45) rfl ?_); refine goesM_ (some 7) rfl rfl Try.func45 (by kernel_rfl) rfl #[.int .i64 a0] rfl ?_; (with_reducible refine (impl_rowOf.calls k a0 t207 t208 t209 _ A3.out).mono ?_); rintro e w7 ⟨rfl, hb⟩; refine ⟨_, rfl, ?_⟩; have n0_ := Aside0.mk (below_step bB hb); clear HB; have HB := n0_; clear n0_; (try clear hb); (try clear hb2); (try clear hk); (try clear hi)) | ((with_reducible refine gate_dst (N := 5) rfl ?_); (try (refine gate_guard (by rfl) ?_; dsimp only)); refine box_event ?hg (N := 5) ?hd (cs := #[.int .i64 0, .int .i64 0, .int .i64 0]) (t := 63) ?hr ?_; (case hd => rfl); (case hg => rfl); (case hr => first | (go_simp; done) | (go_simp; rfl)); intro gb210 hg w8 hbox hb; have n0_ := Aside0.mk (below_step bB hb); have n1_ := Aside0.mk (hbox); have n2_ := Aside0.mk ((by rw [hg]; exact (below_size bB) : w.heap.size ≤ gb210)); have n3_ := Aside0.mk ((by rw [hg]; exact (below_size bB) : w.heap.size ≤ gb210)); clear HB; have HB := n0_; have BK210 := n1_; have GW210 := n2_; have GE210 := n3_; clear n0_ n1_ n2_ n3_; clear hb hbox hg; have hcz9_0 : w8.cell? ⟨gb210, 0, none⟩ = some (.int .i64 0) := (blk_cell BK210.out 0).trans rfl; have hcz9_1 : w8.cell? ⟨gb210, 1, none⟩ = some (.int .i64 0) := (blk_cell BK210.out 1).trans rfl; have hcz9_2 : w8.cell? ⟨gb210, 2, none⟩ = some (.int .i64 0) := (blk_cell BK210.out 2).trans rfl; have hfz9_0 := blk_frozen BK210.out 0; have hfz9_1 := blk_frozen BK210.out 1; have hfz9_2 := blk_frozen BK210.out 2) | ((with_reducible refine gate_callee (f := 46) rfl ?_); refine goesM_ (some 13) rfl rfl Try.func46 (by kernel_rfl) rfl #[.string a1] rfl ?_; (with_reducible refine (impl_Digits.calls k a1 true _ A5.out).mono ?_); rintro e w' ⟨rfl, ⟨nd, rfl⟩⟩; refine ⟨_, rfl, ?_⟩))
   go_ret
   exact ⟨by first | rfl | (simp [errW_none, errW_some] <;> rfl) | (simp [*, errW_none, errW_some] <;> rfl), bG⟩
  ·replace c6 := Bool.eq_false_iff.mpr c6
   subst c6
   have H1 : (some false) = some r := by rw [if_neg (show ¬ (false = true) by decide)] at H; exact H
   clear H
   have H := H1
   clear H1
   obtain rfl := Option.some.inj H
   go_enter Try.func36, Try.ntmps36
   go_wp2_with (first | ((with_reducible refine gate_callee (f := 45) rfl ?_); refine goesM_ (some 7) rfl rfl Try.func45 (by kernel_rfl) rfl #[.int .i64 a0] rfl ?_; (with_reducible refine (impl_rowOf.calls k a0 t207 t208 t209 _ A3.out).mono ?_); rintro e w10 ⟨rfl, hb⟩; refine ⟨_, rfl, ?_⟩; have n0_ := Aside0.mk (below_step bB hb); clear HB; have HB := n0_; clear n0_; (try clear hb); (try clear hb2); (try clear hk); (try clear hi)) | ((with_reducible refine gate_dst (N := 5) rfl ?_); (try (refine gate_guard (by rfl) ?_; dsimp only)); refine box_event ?hg (N := 5) ?hd (cs := #[.int .i64 0, .int .i64 0, .int .i64 0]) (t := 63) ?hr ?_; (case hd => rfl); (case hg => rfl); (case hr => first | (go_simp; done) | (go_simp; rfl)); intro gb210 hg w11 hbox hb; have n0_ := Aside0.mk (below_step bB hb); have n1_ := Aside0.mk (hbox); have n2_ := Aside0.mk ((by rw [hg]; exact (below_size bB) : w.heap.size ≤ gb210)); have n3_ := Aside0.mk ((by rw [hg]; exact (below_size bB) : w.heap.size ≤ gb210)); clear HB; have HB := n0_; have BK210 := n1_; have GW210 := n2_; have GE210 := n3_; clear n0_ n1_ n2_ n3_; clear hb hbox hg; have hcz12_0 : w11.cell? ⟨gb210, 0, none⟩ = some (.int .i64 0) := (blk_cell BK210.out 0).trans rfl; have hcz12_1 : w11.cell? ⟨gb210, 1, none⟩ = some (.int .i64 0) := (blk_cell BK210.out 1).trans rfl; have hcz12_2 : w11.cell? ⟨gb210, 2, none⟩ = some (.int .i64 0) := (blk_cell BK210.out 2).trans rfl; have hfz12_0 := blk_frozen BK210.out 0; have hfz12_1 := blk_frozen BK210.out 1; have hfz12_2 := blk_frozen BK210.out 2) | ((with_reducible refine gate_callee (f := 46) rfl ?_); refine goesM_ (some 13) rfl rfl Try.func46 (by kernel_rfl) rfl #[.string a1] rfl ?_; (with_reducible refine (impl_Digits.calls k a1 false _ A5.out).mono ?_); rintro e w' ⟨rfl, ⟨nd, rfl⟩⟩; refine ⟨_, rfl, ?_⟩))
   go_ret
   exact ⟨by first | rfl | (simp [errW_none, errW_some] <;> rfl) | (simp [*, errW_none, errW_some] <;> rfl), bG⟩
 ·rw [if_neg c4] at H
  have c4b0 : (t208 == 1) = false := beq_eq_false_iff_ne.mpr c4
  have c4b1 : (t208 != 1) = true := bne_iff_ne.mpr c4
  by_cases c13 : t208 = 2
  ·rw [if_pos c13] at H
   have c13b0 : (t208 == 2) = true := beq_iff_eq.mpr c13
   have c13b1 : (t208 != 2) = false := bne_eq_false_iff_eq.mpr c13
   clear c13
   replace H := Option.bind_eq_some_iff.mp H
   obtain ⟨t212, A140, H⟩ := H
   replace H : (if t212 = true then (some ((a1.size : Int) == t209)) else (some false)) = some r := H
   have A14 := Aside0.mk A140
   clear A140
   by_cases c15 : t212 = true
   ·subst c15
    have H1 : (some ((a1.size : Int) == t209)) = some r := by rw [if_pos rfl] at H; exact H
    clear H
    have H := H1
    clear H1
    obtain rfl := Option.some.inj H
    go_enter Try.func36, Try.ntmps36
    go_wp2_with (first | ((with_reducible refine gate_callee (f := 45) rfl ?_); refine goesM_ (some 7) rfl rfl Try.func45 (by kernel_rfl) rfl #[.int .i64 a0] rfl ?_; (with_reducible refine (impl_rowOf.calls k a0 t207 t208 t209 _ A3.out).mono ?_); rintro e w16 ⟨rfl, hb⟩; refine ⟨_, rfl, ?_⟩; have n0_ := Aside0.mk (below_step bB hb); clear HB; have HB := n0_; clear n0_; (try clear hb); (try clear hb2); (try clear hk); (try clear hi)) | ((with_reducible refine gate_dst (N := 5) rfl ?_); (try (refine gate_guard (by rfl) ?_; dsimp only)); refine box_event ?hg (N := 5) ?hd (cs := #[.int .i64 0, .int .i64 0, .int .i64 0]) (t := 63) ?hr ?_; (case hd => rfl); (case hg => rfl); (case hr => first | (go_simp; done) | (go_simp; rfl)); intro gb210 hg w17 hbox hb; have n0_ := Aside0.mk (below_step bB hb); have n1_ := Aside0.mk (hbox); have n2_ := Aside0.mk ((by rw [hg]; exact (below_size bB) : w.heap.size ≤ gb210)); have n3_ := Aside0.mk ((by rw [hg]; exact (below_size bB) : w.heap.size ≤ gb210)); clear HB; have HB := n0_; have BK210 := n1_; have GW210 := n2_; have GE210 := n3_; clear n0_ n1_ n2_ n3_; clear hb hbox hg; have hcz18_0 : w17.cell? ⟨gb210, 0, none⟩ = some (.int .i64 0) := (blk_cell BK210.out 0).trans rfl; have hcz18_1 : w17.cell? ⟨gb210, 1, none⟩ = some (.int .i64 0) := (blk_cell BK210.out 1).trans rfl; have hcz18_2 : w17.cell? ⟨gb210, 2, none⟩ = some (.int .i64 0) := (blk_cell BK210.out 2).trans rfl; have hfz18_0 := blk_frozen BK210.out 0; have hfz18_1 := blk_frozen BK210.out 1; have hfz18_2 := blk_frozen BK210.out 2) | ((with_reducible refine gate_callee (f := 47) rfl ?_); refine goesM_ (some 24) rfl rfl Try.func47 (by kernel_rfl) rfl #[.string a1] rfl ?_; (with_reducible refine (impl_Printable.calls k a1 true _ A14.out).mono ?_); rintro e w' ⟨rfl, ⟨nd, rfl⟩⟩; refine ⟨_, rfl, ?_⟩))
    go_ret
    exact ⟨by first | rfl | (simp [errW_none, errW_some] <;> rfl) | (simp [*, errW_none, errW_some] <;> rfl), bG⟩
   ·replace c15 := Bool.eq_false_iff.mpr c15
    subst c15
    have H1 : (some false) = some r := by rw [if_neg (show ¬ (false = true) by decide)] at H; exact H
    clear H
    have H := H1
    clear H1
    obtain rfl := Option.some.inj H
    go_enter Try.func36, Try.ntmps36
    go_wp2_with (first | ((with_reducible refine gate_callee (f := 45) rfl ?_); refine goesM_ (some 7) rfl rfl Try.func45 (by kernel_rfl) rfl #[.int .i64 a0] rfl ?_; (with_reducible refine (impl_rowOf.calls k a0 t207 t208 t209 _ A3.out).mono ?_); rintro e w19 ⟨rfl, hb⟩; refine ⟨_, rfl, ?_⟩; have n0_ := Aside0.mk (below_step bB hb); clear HB; have HB := n0_; clear n0_; (try clear hb); (try clear hb2); (try clear hk); (try clear hi)) | ((with_reducible refine gate_dst (N := 5) rfl ?_); (try (refine gate_guard (by rfl) ?_; dsimp only)); refine box_event ?hg (N := 5) ?hd (cs := #[.int .i64 0, .int .i64 0, .int .i64 0]) (t := 63) ?hr ?_; (case hd => rfl); (case hg => rfl); (case hr => first | (go_simp; done) | (go_simp; rfl)); intro gb210 hg w20 hbox hb; have n0_ := Aside0.mk (below_step bB hb); have n1_ := Aside0.mk (hbox); have n2_ := Aside0.mk ((by rw [hg]; exact (below_size bB) : w.heap.size ≤ gb210)); have n3_ := Aside0.mk ((by rw [hg]; exact (below_size bB) : w.heap.size ≤ gb210)); clear HB; have HB := n0_; have BK210 := n1_; have GW210 := n2_; have GE210 := n3_; clear n0_ n1_ n2_ n3_; clear hb hbox hg; have hcz21_0 : w20.cell? ⟨gb210, 0, none⟩ = some (.int .i64 0) := (blk_cell BK210.out 0).trans rfl; have hcz21_1 : w20.cell? ⟨gb210, 1, none⟩ = some (.int .i64 0) := (blk_cell BK210.out 1).trans rfl; have hcz21_2 : w20.cell? ⟨gb210, 2, none⟩ = some (.int .i64 0) := (blk_cell BK210.out 2).trans rfl; have hfz21_0 := blk_frozen BK210.out 0; have hfz21_1 := blk_frozen BK210.out 1; have hfz21_2 := blk_frozen BK210.out 2) | ((with_reducible refine gate_callee (f := 47) rfl ?_); refine goesM_ (some 24) rfl rfl Try.func47 (by kernel_rfl) rfl #[.string a1] rfl ?_; (with_reducible refine (impl_Printable.calls k a1 false _ A14.out).mono ?_); rintro e w' ⟨rfl, ⟨nd, rfl⟩⟩; refine ⟨_, rfl, ?_⟩))
    go_ret
    exact ⟨by first | rfl | (simp [errW_none, errW_some] <;> rfl) | (simp [*, errW_none, errW_some] <;> rfl), bG⟩
  ·rw [if_neg c13] at H
   have c13b0 : (t208 == 2) = false := beq_eq_false_iff_ne.mpr c13
   have c13b1 : (t208 != 2) = true := bne_iff_ne.mpr c13
   by_cases c22 : t208 = 3
   ·rw [if_pos c22] at H
    have c22b0 : (t208 == 3) = true := beq_iff_eq.mpr c22
    have c22b1 : (t208 != 3) = false := bne_eq_false_iff_eq.mpr c22
    clear c22
    replace H := Option.bind_eq_some_iff.mp H
    obtain ⟨t213, A230, H⟩ := H
    replace H : (if t213 = true then ((impl_within.f (a1.size : Int) 1 t209).bind fun t214 => (some t214)) else (some false)) = some r := H
    have A23 := Aside0.mk A230
    clear A230
    by_cases c24 : t213 = true
    ·subst c24
     have H1 : ((impl_within.f (a1.size : Int) 1 t209).bind fun t214 => (some t214)) = some r := by rw [if_pos rfl] at H; exact H
     clear H
     have H := H1
     clear H1
     replace H := Option.bind_eq_some_iff.mp H
     obtain ⟨t214, A250, H⟩ := H
     replace H : (some t214) = some r := H
     have A25 := Aside0.mk A250
     clear A250
     obtain rfl := Option.some.inj H
     go_enter Try.func36, Try.ntmps36
     go_wp2_with (first | ((with_reducible refine gate_callee (f := 45) rfl ?_); refine goesM_ (some 7) rfl rfl Try.func45 (by kernel_rfl) rfl #[.int .i64 a0] rfl ?_; (with_reducible refine (impl_rowOf.calls k a0 t207 t208 t209 _ A3.out).mono ?_); rintro e w26 ⟨rfl, hb⟩; refine ⟨_, rfl, ?_⟩; have n0_ := Aside0.mk (below_step bB hb); clear HB; have HB := n0_; clear n0_; (try clear hb); (try clear hb2); (try clear hk); (try clear hi)) | ((with_reducible refine gate_dst (N := 5) rfl ?_); (try (refine gate_guard (by rfl) ?_; dsimp only)); refine box_event ?hg (N := 5) ?hd (cs := #[.int .i64 0, .int .i64 0, .int .i64 0]) (t := 63) ?hr ?_; (case hd => rfl); (case hg => rfl); (case hr => first | (go_simp; done) | (go_simp; rfl)); intro gb210 hg w27 hbox hb; have n0_ := Aside0.mk (below_step bB hb); have n1_ := Aside0.mk (hbox); have n2_ := Aside0.mk ((by rw [hg]; exact (below_size bB) : w.heap.size ≤ gb210)); have n3_ := Aside0.mk ((by rw [hg]; exact (below_size bB) : w.heap.size ≤ gb210)); clear HB; have HB := n0_; have BK210 := n1_; have GW210 := n2_; have GE210 := n3_; clear n0_ n1_ n2_ n3_; clear hb hbox hg; have hcz28_0 : w27.cell? ⟨gb210, 0, none⟩ = some (.int .i64 0) := (blk_cell BK210.out 0).trans rfl; have hcz28_1 : w27.cell? ⟨gb210, 1, none⟩ = some (.int .i64 0) := (blk_cell BK210.out 1).trans rfl; have hcz28_2 : w27.cell? ⟨gb210, 2, none⟩ = some (.int .i64 0) := (blk_cell BK210.out 2).trans rfl; have hfz28_0 := blk_frozen BK210.out 0; have hfz28_1 := blk_frozen BK210.out 1; have hfz28_2 := blk_frozen BK210.out 2) | ((with_reducible refine gate_callee (f := 46) rfl ?_); refine goesM_ (some 35) rfl rfl Try.func46 (by kernel_rfl) rfl #[.string a1] rfl ?_; (with_reducible refine (impl_Digits.calls k a1 true _ A23.out).mono ?_); rintro e w' ⟨rfl, ⟨nd, rfl⟩⟩; refine ⟨_, rfl, ?_⟩) | (go_at_call 38; (with_reducible refine (impl_within.calls (a1.size : Int) 1 t209 t214 _ A25.out).mono ?_); rintro e w' ⟨rfl, ⟨nd, rfl⟩⟩))
     go_ret
     exact ⟨by first | rfl | (simp [errW_none, errW_some] <;> rfl) | (simp [*, errW_none, errW_some] <;> rfl), bG⟩
    ·replace c24 := Bool.eq_false_iff.mpr c24
     subst c24
     have H1 : (some false) = some r := by rw [if_neg (show ¬ (false = true) by decide)] at H; exact H
     clear H
     have H := H1
     clear H1
     obtain rfl := Option.some.inj H
     go_enter Try.func36, Try.ntmps36
     go_wp2_with (first | ((with_reducible refine gate_callee (f := 45) rfl ?_); refine goesM_ (some 7) rfl rfl Try.func45 (by kernel_rfl) rfl #[.int .i64 a0] rfl ?_; (with_reducible refine (impl_rowOf.calls k a0 t207 t208 t209 _ A3.out).mono ?_); rintro e w29 ⟨rfl, hb⟩; refine ⟨_, rfl, ?_⟩; have n0_ := Aside0.mk (below_step bB hb); clear HB; have HB := n0_; clear n0_; (try clear hb); (try clear hb2); (try clear hk); (try clear hi)) | ((with_reducible refine gate_dst (N := 5) rfl ?_); (try (refine gate_guard (by rfl) ?_; dsimp only)); refine box_event ?hg (N := 5) ?hd (cs := #[.int .i64 0, .int .i64 0, .int .i64 0]) (t := 63) ?hr ?_; (case hd => rfl); (case hg => rfl); (case hr => first | (go_simp; done) | (go_simp; rfl)); intro gb210 hg w30 hbox hb; have n0_ := Aside0.mk (below_step bB hb); have n1_ := Aside0.mk (hbox); have n2_ := Aside0.mk ((by rw [hg]; exact (below_size bB) : w.heap.size ≤ gb210)); have n3_ := Aside0.mk ((by rw [hg]; exact (below_size bB) : w.heap.size ≤ gb210)); clear HB; have HB := n0_; have BK210 := n1_; have GW210 := n2_; have GE210 := n3_; clear n0_ n1_ n2_ n3_; clear hb hbox hg; have hcz31_0 : w30.cell? ⟨gb210, 0, none⟩ = some (.int .i64 0) := (blk_cell BK210.out 0).trans rfl; have hcz31_1 : w30.cell? ⟨gb210, 1, none⟩ = some (.int .i64 0) := (blk_cell BK210.out 1).trans rfl; have hcz31_2 : w30.cell? ⟨gb210, 2, none⟩ = some (.int .i64 0) := (blk_cell BK210.out 2).trans rfl; have hfz31_0 := blk_frozen BK210.out 0; have hfz31_1 := blk_frozen BK210.out 1; have hfz31_2 := blk_frozen BK210.out 2) | ((with_reducible refine gate_callee (f := 46) rfl ?_); refine goesM_ (some 35) rfl rfl Try.func46 (by kernel_rfl) rfl #[.string a1] rfl ?_; (with_reducible refine (impl_Digits.calls k a1 false _ A23.out).mono ?_); rintro e w' ⟨rfl, ⟨nd, rfl⟩⟩; refine ⟨_, rfl, ?_⟩))
     go_ret
     exact ⟨by first | rfl | (simp [errW_none, errW_some] <;> rfl) | (simp [*, errW_none, errW_some] <;> rfl), bG⟩
   ·rw [if_neg c22] at H
    have c22b0 : (t208 == 3) = false := beq_eq_false_iff_ne.mpr c22
    have c22b1 : (t208 != 3) = true := bne_iff_ne.mpr c22
    have HC32 := Aside0.mk H
    clear H
    go_enter Try.func36, Try.ntmps36
    go_upto_if 43 with (first | ((with_reducible refine gate_callee (f := 45) rfl ?_); refine goesM_ (some 7) rfl rfl Try.func45 (by kernel_rfl) rfl #[.int .i64 a0] rfl ?_; (with_reducible refine (impl_rowOf.calls k a0 t207 t208 t209 _ A3.out).mono ?_); rintro e w33 ⟨rfl, hb⟩; refine ⟨_, rfl, ?_⟩; have n0_ := Aside0.mk (below_step bB hb); clear HB; have HB := n0_; clear n0_; (try clear hb); (try clear hb2); (try clear hk); (try clear hi)) | ((with_reducible refine gate_dst (N := 5) rfl ?_); (try (refine gate_guard (by rfl) ?_; dsimp only)); refine box_event ?hg (N := 5) ?hd (cs := #[.int .i64 0, .int .i64 0, .int .i64 0]) (t := 63) ?hr ?_; (case hd => rfl); (case hg => rfl); (case hr => first | (go_simp; done) | (go_simp; rfl)); intro gb210 hg w34 hbox hb; have n0_ := Aside0.mk (below_step bB hb); have n1_ := Aside0.mk (hbox); have n2_ := Aside0.mk ((by rw [hg]; exact (below_size bB) : w.heap.size ≤ gb210)); have n3_ := Aside0.mk ((by rw [hg]; exact (below_size bB) : w.heap.size ≤ gb210)); clear HB; have HB := n0_; have BK210 := n1_; have GW210 := n2_; have GE210 := n3_; clear n0_ n1_ n2_ n3_; clear hb hbox hg; have hcz35_0 : w34.cell? ⟨gb210, 0, none⟩ = some (.int .i64 0) := (blk_cell BK210.out 0).trans rfl; have hcz35_1 : w34.cell? ⟨gb210, 1, none⟩ = some (.int .i64 0) := (blk_cell BK210.out 1).trans rfl; have hcz35_2 : w34.cell? ⟨gb210, 2, none⟩ = some (.int .i64 0) := (blk_cell BK210.out 2).trans rfl; have hfz35_0 := blk_frozen BK210.out 0; have hfz35_1 := blk_frozen BK210.out 1; have hfz35_2 := blk_frozen BK210.out 2))
    (try simp only [Act.put, List.setIfInBounds_toArray, List.set_cons_zero, List.set_cons_succ])
    go_cut [43] (fun v43 wc => ∃ (kq : Nat) (x43_31 : Bool), v43 = .bool x43_31 ∧ Aside0 (impl_FieldOk.j0 kq a1 x43_31 t207 t208 t209 = some r) ∧ Aside0 (kq ≤ k) ∧ Aside0 (wc.heap[gb210]? = some (.cells #[.int .i64 t207, .int .i64 t208, .int .i64 t209] 63 (0, 0))) ∧ Aside0 (Below w.heap.size w wc))
    case first =>
     have H := HC32.out
     clear HC32
     by_cases c36 : t208 = 4
     ·rw [if_pos c36] at H
      have c36b0 : (t208 == 4) = true := beq_iff_eq.mpr c36
      have c36b1 : (t208 != 4) = false := bne_eq_false_iff_eq.mpr c36
      clear c36
      (first | rw [c36b0] | (simp only [i64_w, i32_w]; rw [c36b0]) | rw [c36b1] | (simp only [c36b1]) | skip)
      have H' := Aside0.mk H
      clear H
      go_wp2
      go_meet
      case rel => exact ⟨_, ((t208 == 4)), (by first | rfl | (simp; done) | (simp [*]; done) | (simp [i64_w, IntKind.wrap_u8, e256_]; done) | (simp; generalize ByteArray.toList _ = zz_; cases zz_ <;> rfl)), H', ⟨by first | omega | exact Nat.le_refl _⟩, ⟨by (with_reducible repeat (first | refine blk_drewN ?_ _ | refine blk_drew ?_ | refine blk_alloc ?_ _)); refine blk_put (cs := #[.int .i64 t207, .int .i64 t208, .int .i64 0]) ?_ 2 _ rfl; (with_reducible repeat (first | refine blk_drewN ?_ _ | refine blk_drew ?_ | refine blk_alloc ?_ _)); refine blk_put (cs := #[.int .i64 t207, .int .i64 0, .int .i64 0]) ?_ 1 _ rfl; (with_reducible repeat (first | refine blk_drewN ?_ _ | refine blk_drew ?_ | refine blk_alloc ?_ _)); refine blk_put (cs := #[.int .i64 0, .int .i64 0, .int .i64 0]) ?_ 0 _ rfl; (with_reducible repeat (first | refine blk_drewN ?_ _ | refine blk_drew ?_ | refine blk_alloc ?_ _)); exact BK210.out⟩, ⟨bG⟩⟩
     ·rw [if_neg c36] at H
      have c36b0 : (t208 == 4) = false := beq_eq_false_iff_ne.mpr c36
      have c36b1 : (t208 != 4) = true := bne_iff_ne.mpr c36
      (first | rw [c36b0] | (simp only [i64_w, i32_w]; rw [c36b0]) | rw [c36b1] | (simp only [c36b1]) | skip)
      have H' := Aside0.mk H
      clear H
      go_wp2
      go_meet
      case rel => exact ⟨_, ((t208 == 5)), (by first | rfl | (simp; done) | (simp [*]; done) | (simp [i64_w, IntKind.wrap_u8, e256_]; done) | (simp; generalize ByteArray.toList _ = zz_; cases zz_ <;> rfl)), H', ⟨by first | omega | exact Nat.le_refl _⟩, ⟨by (with_reducible repeat (first | refine blk_drewN ?_ _ | refine blk_drew ?_ | refine blk_alloc ?_ _)); refine blk_put (cs := #[.int .i64 t207, .int .i64 t208, .int .i64 0]) ?_ 2 _ rfl; (with_reducible repeat (first | refine blk_drewN ?_ _ | refine blk_drew ?_ | refine blk_alloc ?_ _)); refine blk_put (cs := #[.int .i64 t207, .int .i64 0, .int .i64 0]) ?_ 1 _ rfl; (with_reducible repeat (first | refine blk_drewN ?_ _ | refine blk_drew ?_ | refine blk_alloc ?_ _)); refine blk_put (cs := #[.int .i64 0, .int .i64 0, .int .i64 0]) ?_ 0 _ rfl; (with_reducible repeat (first | refine blk_drewN ?_ _ | refine blk_drew ?_ | refine blk_alloc ?_ _)); exact BK210.out⟩, ⟨bG⟩⟩
    case rest =>
     clear HC32
     try clear c1
     try clear c2
     try clear p2
     try clear c3
     try clear c4
     try clear c4b0
     try clear c4b1
     try clear c6
     try clear p6
     try clear c13
     try clear c13b0
     try clear c13b1
     try clear c15
     try clear c22
     try clear c22b0
     try clear c22b1
     try clear c24
     try clear c36
     try clear c36b0
     try clear c36b1
     try clear hcz12_0
     try clear hcz12_1
     try clear hcz12_2
     try clear hcz18_0
     try clear hcz18_1
     try clear hcz18_2
     try clear hcz21_0
     try clear hcz21_1
     try clear hcz21_2
     try clear hcz28_0
     try clear hcz28_1
     try clear hcz28_2
     try clear hcz31_0
     try clear hcz31_1
     try clear hcz31_2
     try clear hcz35_0
     try clear hcz35_1
     try clear hcz35_2
     try clear hcz9_0
     try clear hcz9_1
     try clear hcz9_2
     try clear hfz12_0
     try clear hfz12_1
     try clear hfz12_2
     try clear hfz18_0
     try clear hfz18_1
     try clear hfz18_2
     try clear hfz21_0
     try clear hfz21_1
     try clear hfz21_2
     try clear hfz28_0
     try clear hfz28_1
     try clear hfz28_2
     try clear hfz31_0
     try clear hfz31_1
     try clear hfz31_2
     try clear hfz35_0
     try clear hfz35_1
     try clear hfz35_2
     try clear hfz9_0
     try clear hfz9_1
     try clear hfz9_2
     obtain ⟨kq, x43_31, rfl, HA, HJ31, BK210, HB⟩ := hcut
     cases kq with
     | zero => exact absurd HA.out (by simp [impl_FieldOk.j0])
     | succ kj31 =>
      have H := HA.out
      clear HA
      simp only [impl_FieldOk.j0] at H
      by_cases c37 : x43_31 = true
      ·subst c37
       have H1 : ((impl_Printable.f kj31 a1).bind fun t215 => (if t215 = true then ((impl_within.f (a1.size : Int) 1 t209).bind fun t216 => (some t216)) else (some false))) = some r := by rw [if_pos rfl] at H; exact H
       clear H
       have H := H1
       clear H1
       replace H := Option.bind_eq_some_iff.mp H
       obtain ⟨t215, A380, H⟩ := H
       replace H : (if t215 = true then ((impl_within.f (a1.size : Int) 1 t209).bind fun t216 => (some t216)) else (some false)) = some r := H
       have A38 := Aside0.mk A380
       clear A380
       by_cases c39 : t215 = true
       ·subst c39
        have H1 : ((impl_within.f (a1.size : Int) 1 t209).bind fun t216 => (some t216)) = some r := by rw [if_pos rfl] at H; exact H
        clear H
        have H := H1
        clear H1
        replace H := Option.bind_eq_some_iff.mp H
        obtain ⟨t216, A400, H⟩ := H
        replace H : (some t216) = some r := H
        have A40 := Aside0.mk A400
        clear A400
        obtain rfl := Option.some.inj H
        go_wp2_with (first | ((with_reducible refine gate_callee (f := 47) rfl ?_); refine goesM_ (some 47) rfl rfl Try.func47 (by kernel_rfl) rfl #[.string a1] rfl ?_; (with_reducible refine (impl_Printable.calls kj31 a1 true _ A38.out).mono ?_); rintro e w' ⟨rfl, ⟨nd, rfl⟩⟩; refine ⟨_, rfl, ?_⟩; have hcz41_0 : wc.cell? ⟨gb210, 0, none⟩ = some (.int .i64 t207) := (blk_cell BK210.out 0).trans rfl; have hcz41_1 : wc.cell? ⟨gb210, 1, none⟩ = some (.int .i64 t208) := (blk_cell BK210.out 1).trans rfl; have hcz41_2 : wc.cell? ⟨gb210, 2, none⟩ = some (.int .i64 t209) := (blk_cell BK210.out 2).trans rfl; have hfz41_0 := blk_frozen BK210.out 0; have hfz41_1 := blk_frozen BK210.out 1; have hfz41_2 := blk_frozen BK210.out 2) | (go_at_call 38; (with_reducible refine (impl_within.calls (a1.size : Int) 1 t209 t216 _ A40.out).mono ?_); rintro e w' ⟨rfl, ⟨nd, rfl⟩⟩))
        go_ret
        exact ⟨by first | rfl | (simp [errW_none, errW_some] <;> rfl) | (simp [*, errW_none, errW_some] <;> rfl), bG⟩
       ·replace c39 := Bool.eq_false_iff.mpr c39
        subst c39
        have H1 : (some false) = some r := by rw [if_neg (show ¬ (false = true) by decide)] at H; exact H
        clear H
        have H := H1
        clear H1
        obtain rfl := Option.some.inj H
        go_wp2_with (first | ((with_reducible refine gate_callee (f := 47) rfl ?_); refine goesM_ (some 47) rfl rfl Try.func47 (by kernel_rfl) rfl #[.string a1] rfl ?_; (with_reducible refine (impl_Printable.calls kj31 a1 false _ A38.out).mono ?_); rintro e w' ⟨rfl, ⟨nd, rfl⟩⟩; refine ⟨_, rfl, ?_⟩))
        go_ret
        exact ⟨by first | rfl | (simp [errW_none, errW_some] <;> rfl) | (simp [*, errW_none, errW_some] <;> rfl), bG⟩
      ·replace c37 := Bool.eq_false_iff.mpr c37
       subst c37
       have H1 : (some false) = some r := by rw [if_neg (show ¬ (false = true) by decide)] at H; exact H
       clear H
       have H := H1
       clear H1
       obtain rfl := Option.some.inj H
       go_wp2
       go_ret
       exact ⟨by first | rfl | (simp [errW_none, errW_some] <;> rfl) | (simp [*, errW_none, errW_some] <;> rfl), bG⟩
attribute [local go_sem] max2_int min2_int max_two min_two max_three min_three max_four min_four
set_option linter.unusedVariables false
set_option linter.unusedSimpArgs false
def impl_isWide.f (k : Nat) (a0 : ByteArray) (a1 : Int) : Option (Bool) := (impl_Digits.f k a0).bind fun t217 => (if t217 = true then (some ((a0.size : Int) == a1)) else (some false))
set_option maxHeartbeats 8000000 in
set_option maxRecDepth 100000 in
theorem impl_isWide.calls (k : Nat) (a0 : ByteArray) (a1 : Int) (r : Bool) (w : World) (h : impl_isWide.f k a0 a1 = some r) :
  Calls Try.prog 37 #[.string a0, .int .i64 a1] w fun e w' => e = .returned (.bool r) ∧ Drawn0 w w' := by
 have H : ((impl_Digits.f k a0).bind fun t217 => (if t217 = true then (some ((a0.size : Int) == a1)) else (some false))) = some r := h
 clear h
 replace H := Option.bind_eq_some_iff.mp H
 obtain ⟨t217, A30, H⟩ := H
 replace H : (if t217 = true then (some ((a0.size : Int) == a1)) else (some false)) = some r := H
 have A3 := Aside0.mk A30
 clear A30
 by_cases c4 : t217 = true
 ·subst c4
  have H1 : (some ((a0.size : Int) == a1)) = some r := by rw [if_pos rfl] at H; exact H
  clear H
  have H := H1
  clear H1
  obtain rfl := Option.some.inj H
  go_enter Try.func37, Try.ntmps37
  go_wp2_with (first | ((with_reducible refine gate_callee (f := 46) rfl ?_); refine goesM_ (some 6) rfl rfl Try.func46 (by kernel_rfl) rfl #[.string a0] rfl ?_; (with_reducible refine (impl_Digits.calls k a0 true _ A3.out).mono ?_); rintro e w' ⟨rfl, ⟨nd, rfl⟩⟩; refine ⟨_, rfl, ?_⟩))
  go_ret
  exact ⟨by first | rfl | (simp; done) | (simp [*]; done) | (simp [i64_w, IntKind.wrap_u8, e256_]; done) | (simp; generalize ByteArray.toList _ = zz_; cases zz_ <;> rfl), by repeat (first | exact Drawn0.refl _ | apply Drawn0.step)⟩
 ·replace c4 := Bool.eq_false_iff.mpr c4
  subst c4
  have H1 : (some false) = some r := by rw [if_neg (show ¬ (false = true) by decide)] at H; exact H
  clear H
  have H := H1
  clear H1
  obtain rfl := Option.some.inj H
  go_enter Try.func37, Try.ntmps37
  go_wp2_with (first | ((with_reducible refine gate_callee (f := 46) rfl ?_); refine goesM_ (some 6) rfl rfl Try.func46 (by kernel_rfl) rfl #[.string a0] rfl ?_; (with_reducible refine (impl_Digits.calls k a0 false _ A3.out).mono ?_); rintro e w' ⟨rfl, ⟨nd, rfl⟩⟩; refine ⟨_, rfl, ?_⟩))
  go_ret
  exact ⟨by first | rfl | (simp; done) | (simp [*]; done) | (simp [i64_w, IntKind.wrap_u8, e256_]; done) | (simp; generalize ByteArray.toList _ = zz_; cases zz_ <;> rfl), by repeat (first | exact Drawn0.refl _ | apply Drawn0.step)⟩
attribute [local go_sem] max2_int min2_int max_two min_two max_three min_three max_four min_four
set_option linter.unusedVariables false
set_option linter.unusedSimpArgs false
def impl_MsgOk.l0 : Nat → List (S45) → Int → Int → ByteArray → List (S45) → Option (Bool)
 | 0, _, _, _, _, _ => none
 | k + 1, x6, x7, x8, x219000, x219001 => if x8 < x7 then (if 0 ≤ x8 then (if x8 < (x6.length : Int) then ((impl_FieldOk.f k ((rd_T45 x6 x8).f0) ((rd_T45 x6 x8).f1)).bind fun t221 => (if t221 = true then (if x8 > 0 then (if 0 ≤ (wrap64 (x8 - 1)) then (if (wrap64 (x8 - 1)) < (x219001.length : Int) then (if ((rd_T45 x6 x8).f0) ≤ ((rd_T45 x219001 (wrap64 (x8 - 1))).f0) then (some false) else (impl_MsgOk.l0 k x6 x7 (wrap64 (x8 + 1)) x219000 x219001)) else (none)) else (none)) else (impl_MsgOk.l0 k x6 x7 (wrap64 (x8 + 1)) x219000 x219001)) else (some false))) else (none)) else (none)) else ((impl_isWide.f k x219000 4).bind fun t223 => (some t223))
def impl_MsgOk.f (k : Nat) (a0_0 : ByteArray) (l0_1 : List (S45)) : Option (Bool) := impl_MsgOk.l0 k l0_1 (l0_1.length : Int) 0 a0_0 l0_1
def impl_MsgOk.T4 : Bool × List (List Nat × List Nat) := (true, [([], []), ([0], [0]), ([], []), ([2], [2]), ([1, 3], [1, 3]), ([4], [4]), ([5, 4], [5]), ([6], [6]), ([7, 6], [6, 7]), ([8, 6, 6], [6, 8]), ([9], [9]), ([10, 9], [9, 10]), ([9], [9]), ([12, 9], [9, 12]), ([9], [9]), ([14, 9], [9, 14]), ([13, 15, 9], [9, 13, 15]), ([16, 9], [9, 16]), ([17, 9], [9, 17]), ([11, 18, 9], [9, 11, 18]), ([9, 19, 6], [6, 9, 19]), ([6, 20], [6, 20])])
def impl_MsgOk.B4 : List Nat := [0, 1, 0, 4, 15, 31, 63, 127, 255, 511, 1023, 2047, 1023, 5119, 1023, 17407, 62463, 127999, 259071, 524287, 1048575, 2097151]
theorem impl_MsgOk.tab4 : rtab .any (opsOf Try.f19 4) = impl_MsgOk.T4 := by kernel_rfl
theorem impl_MsgOk.bits4 : waitsOk impl_MsgOk.T4.2 impl_MsgOk.B4 = true := by kernel_rfl
set_option maxHeartbeats 8000000 in
set_option maxRecDepth 100000 in
theorem impl_MsgOk.calls (k : Nat) (a0_0 : ByteArray) (A0_1 : Option Addr) (c0_1 : Nat) (l0_1 : List (S45)) (r : Bool) (w : World) (hr0_1 : Kd.C k45 w A0_1 l0_1.length l0_1) (hc0_1 : l0_1.length ≤ c0_1) (h : impl_MsgOk.f k a0_0 l0_1 = some r) :
  Calls Try.prog 19 #[.agg #[.string a0_0, .slice A0_1 l0_1.length c0_1]] w fun e w' => e = .returned (.bool r) ∧ Below w.heap.size w w' := by
 have hu28 := Try.underlying28
 have hu45 := Try.underlying45
 have HR0_1 := Aside0.mk hr0_1
 have HC0_1 := Aside0.mk hc0_1
 clear hr0_1 hc0_1
 have HB := Aside0.mk (Below.refl w.heap.size w)
 have H : (impl_MsgOk.l0 k l0_1 (l0_1.length : Int) 0 a0_0 l0_1) = some r := h
 clear h
 have H' := Aside0.mk H
 clear H
 go_enter Try.func19, Try.ntmps19
 go_wp2_with (first | ((with_reducible refine gate_dst (N := 1) rfl ?_); refine box_event ?hg (N := 1) ?hd (cs := #[.string a0_0, .slice A0_1 l0_1.length c0_1]) (t := 28) ?hr ?_; (case hd => rfl); (case hg => rfl); (case hr => first | (go_simp; done) | (go_simp; rfl)); intro gb218 hg w2 hbox hb; have n0_ := Aside0.mk (below_step bB hb); have n1_ := Aside0.mk (hbox); have n2_ := Aside0.mk ((by rw [hg]; exact (below_size bB) : w.heap.size ≤ gb218)); have n3_ := Aside0.mk ((by rw [hg]; exact (below_size bB) : w.heap.size ≤ gb218)); clear HB; have HB := n0_; have BK218 := n1_; have GW218 := n2_; have GE218 := n3_; clear n0_ n1_ n2_ n3_; clear hb hbox hg; have hcz3_0 : w2.cell? ⟨gb218, 0, none⟩ = some (.string a0_0) := (blk_cell BK218.out 0).trans rfl; have hcz3_1 : w2.cell? ⟨gb218, 1, none⟩ = some (.slice A0_1 l0_1.length c0_1) := (blk_cell BK218.out 1).trans rfl; have hfz3_0 := blk_frozen BK218.out 0; have hfz3_1 := blk_frozen BK218.out 1))
 go_loopg [8] k (fun kq v8 w' => ∃ (x8_1 : Int), v8 = .int .i64 x8_1 ∧ Aside0 (impl_MsgOk.l0 kq l0_1 (l0_1.length : Int) x8_1 a0_0 l0_1 = some r) ∧ Aside0 (kq ≤ k) ∧ Aside0 (w'.heap[gb218]? = some (.cells #[.string a0_0, (.slice A0_1 l0_1.length c0_1)] 28 (0, 0))) ∧ Aside0 (Below w.heap.size w w'))
 case atStart => exact ⟨(0), (by first | rfl | (simp; done) | (simp [*]; done) | (simp [i64_w, IntKind.wrap_u8, e256_]; done) | (simp; generalize ByteArray.toList _ = zz_; cases zz_ <;> rfl)), H', ⟨Nat.le_refl _⟩, ⟨kA BK218.out⟩, ⟨bG⟩⟩
 case round =>
  clear H'
  try clear c1
  try clear p2
  try clear hcz3_0
  try clear hcz3_1
  try clear hfz3_0
  try clear hfz3_1
  obtain ⟨x8_1, rfl, HA, HK1, BK218, HB⟩ := hrel
  cases gk with
  | zero => exact absurd HA.out (by simp [impl_MsgOk.l0])
  | succ k1 =>
   have H := HA.out
   clear HA
   simp only [impl_MsgOk.l0] at H
   by_cases c4 : x8_1 < (l0_1.length : Int)
   ·rw [if_pos c4] at H
    have c4b0 : decide (x8_1 < (l0_1.length : Int)) = true := decide_eq_true c4
    clear c4
    by_cases c5 : 0 ≤ x8_1
    ·rw [if_pos c5] at H
     have c5b0 : decide (0 ≤ x8_1) = true := decide_eq_true c5
     clear c5
     by_cases c6 : x8_1 < (l0_1.length : Int)
     ·rw [if_pos c6] at H
      have c6b0 : decide (x8_1 < (l0_1.length : Int)) = true := decide_eq_true c6
      clear c6
      replace H := Option.bind_eq_some_iff.mp H
      obtain ⟨t221, A70, H⟩ := H
      replace H : (if t221 = true then (if x8_1 > 0 then (if 0 ≤ (wrap64 (x8_1 - 1)) then (if (wrap64 (x8_1 - 1)) < (l0_1.length : Int) then (if ((rd_T45 l0_1 x8_1).f0) ≤ ((rd_T45 l0_1 (wrap64 (x8_1 - 1))).f0) then (some false) else (impl_MsgOk.l0 k1 l0_1 (l0_1.length : Int) (wrap64 (x8_1 + 1)) a0_0 l0_1)) else (none)) else (none)) else (impl_MsgOk.l0 k1 l0_1 (l0_1.length : Int) (wrap64 (x8_1 + 1)) a0_0 l0_1)) else (some false)) = some r := H
      have A7 := Aside0.mk A70
      clear A70
      by_cases c8 : t221 = true
      ·subst c8
       have H1 : (if x8_1 > 0 then (if 0 ≤ (wrap64 (x8_1 - 1)) then (if (wrap64 (x8_1 - 1)) < (l0_1.length : Int) then (if ((rd_T45 l0_1 x8_1).f0) ≤ ((rd_T45 l0_1 (wrap64 (x8_1 - 1))).f0) then (some false) else (impl_MsgOk.l0 k1 l0_1 (l0_1.length : Int) (wrap64 (x8_1 + 1)) a0_0 l0_1)) else (none)) else (none)) else (impl_MsgOk.l0 k1 l0_1 (l0_1.length : Int) (wrap64 (x8_1 + 1)) a0_0 l0_1)) = some r := by rw [if_pos rfl] at H; exact H
       clear H
       have H := H1
       clear H1
       by_cases c9 : x8_1 > 0
       ·rw [if_pos c9] at H
        have c9b0 : decide (0 < x8_1) = true := decide_eq_true c9
        clear c9
        obtain ⟨ji10, hji10⟩ : ∃ j_ : Int, (wrap64 (x8_1 - 1)) = j_ := ⟨_, rfl⟩
        replace H : (if 0 ≤ (ji10) then (if (ji10) < (l0_1.length : Int) then (if ((rd_T45 l0_1 x8_1).f0) ≤ ((rd_T45 l0_1 (ji10)).f0) then (some false) else (impl_MsgOk.l0 k1 l0_1 (l0_1.length : Int) (wrap64 (x8_1 + 1)) a0_0 l0_1)) else (none)) else (none)) = some r := by first | (rw [hji10] at H; exact H) | (simp only [hji10] at H ⊢; exact H)
        (try rw [hji10] at A7)
        have hji10w : (IntKind.i64.wrap (x8_1 - 1)) = ji10 := (i64_w _).trans hji10
        by_cases c11 : 0 ≤ (ji10)
        ·rw [if_pos c11] at H
         have c11b0 : decide (0 ≤ (ji10)) = true := decide_eq_true c11
         clear c11
         by_cases c12 : (ji10) < (l0_1.length : Int)
         ·rw [if_pos c12] at H
          have c12b0 : decide ((ji10) < (l0_1.length : Int)) = true := decide_eq_true c12
          clear c12
          by_cases c13 : ((rd_T45 l0_1 x8_1).f0) ≤ ((rd_T45 l0_1 (ji10)).f0)
          ·rw [if_pos c13] at H
           have c13b0 : decide (((rd_T45 l0_1 x8_1).f0) ≤ ((rd_T45 l0_1 (ji10)).f0)) = true := decide_eq_true c13
           clear c13
           obtain rfl := Option.some.inj H
           have p219 : 0 ≤ (x8_1 : Int) := of_decide_eq_true (by first | (with_reducible assumption) | assumption)
           have q219 : x8_1 < (l0_1.length : Int) := of_decide_eq_true (by first | (with_reducible assumption) | assumption)
           obtain ⟨ad219, e219, hx219_0, hx219_1⟩ := at_T45 HR0_1.out x8_1 p219 q219
           cases e219
           replace hx219_0 := (HB.out.cell (World.block_lt_of_cell? w _ hx219_0)).trans hx219_0
           replace hx219_1 := (HB.out.cell (World.block_lt_of_cell? w _ hx219_1)).trans hx219_1
           replace p219 := eq_true p219
           replace q219 := eq_true q219
           try go_wp2_with (first | ((with_reducible refine gate_dst (N := 4) rfl ?_); refine box_event ?hg (N := 4) ?hd (cs := #[.int .i64 0, .string (⟨#[]⟩ : ByteArray)]) (t := 45) ?hr ?_; (case hd => rfl); (case hg => rfl); (case hr => first | (go_simp; done) | (go_simp; rfl)); intro gb220 hg w14 hbox hb; have n0_ := Aside0.mk (blk_below (g := gb218) (o := .cells #[.string a0_0, .slice (some ad219) l0_1.length c0_1] 28 (0, 0)) (kA BK218.out) hb); have n1_ := Aside0.mk (below_step bG hb); have n2_ := Aside0.mk (hbox); have n3_ := Aside0.mk ((by rw [hg]; exact (below_size bG) : w.heap.size ≤ gb220)); have n4_ := Aside0.mk ((by rw [hg]; exact (below_size bG) : w.heap.size ≤ gb220)); have n5_ := Aside0.mk ((by rw [hg]; exact Nat.ne_of_lt (blk_lt (g := gb218) (o := .cells #[.string a0_0, .slice (some ad219) l0_1.length c0_1] 28 (0, 0)) (kA BK218.out)) : gb218 ≠ gb220)); have n6_ := Aside0.mk ((by rw [hg]; exact Nat.ne_of_gt (blk_lt (g := gb218) (o := .cells #[.string a0_0, .slice (some ad219) l0_1.length c0_1] 28 (0, 0)) (kA BK218.out)) : gb220 ≠ gb218)); clear BK218; clear HB; have BK218 := n0_; have HB := n1_; have BK220 := n2_; have GW220 := n3_; have GE220 := n4_; have NB218_220 := n5_; have NB220_218 := n6_; clear n0_ n1_ n2_ n3_ n4_ n5_ n6_; clear hb hbox hg; have hnb15 := NB220_218.out; have hnc15 := NB218_220.out; have hcz16_0 : w14.cell? ⟨gb220, 0, none⟩ = some (.int .i64 0) := (blk_cell BK220.out 0).trans rfl; have hcz16_1 : w14.cell? ⟨gb220, 1, none⟩ = some (.string (⟨#[]⟩ : ByteArray)) := (blk_cell BK220.out 1).trans rfl; have hfz16_0 := blk_frozen BK220.out 0; have hfz16_1 := blk_frozen BK220.out 1))
           have n0_ : Aside0 (((w14.setCell ⟨gb220, 0, none⟩ (.int .i64 ((rd_T45 l0_1 x8_1).f0))).setCell ⟨gb220, 1, none⟩ (.string ((rd_T45 l0_1 x8_1).f1))).heap[gb218]? = some (.cells #[.string a0_0, .slice (some ad219) l0_1.length c0_1] 28 (0, 0))) := ⟨by (with_reducible repeat (first | refine blk_drewN ?_ _ | refine blk_drew ?_ | refine blk_alloc ?_ _)); refine blk_far ?_ NB218_220.out _; (with_reducible repeat (first | refine blk_drewN ?_ _ | refine blk_drew ?_ | refine blk_alloc ?_ _)); refine blk_far ?_ NB218_220.out _; (with_reducible repeat (first | refine blk_drewN ?_ _ | refine blk_drew ?_ | refine blk_alloc ?_ _)); exact BK218.out⟩
           have n1_ : Aside0 (((w14.setCell ⟨gb220, 0, none⟩ (.int .i64 ((rd_T45 l0_1 x8_1).f0))).setCell ⟨gb220, 1, none⟩ (.string ((rd_T45 l0_1 x8_1).f1))).heap[gb220]? = some (.cells #[.int .i64 ((rd_T45 l0_1 x8_1).f0), .string ((rd_T45 l0_1 x8_1).f1)] 45 (0, 0))) := ⟨by (with_reducible repeat (first | refine blk_drewN ?_ _ | refine blk_drew ?_ | refine blk_alloc ?_ _)); refine blk_put (cs := #[.int .i64 ((rd_T45 l0_1 x8_1).f0), .string (⟨#[]⟩ : ByteArray)]) ?_ 1 _ rfl; (with_reducible repeat (first | refine blk_drewN ?_ _ | refine blk_drew ?_ | refine blk_alloc ?_ _)); refine blk_put (cs := #[.int .i64 0, .string (⟨#[]⟩ : ByteArray)]) ?_ 0 _ rfl; (with_reducible repeat (first | refine blk_drewN ?_ _ | refine blk_drew ?_ | refine blk_alloc ?_ _)); exact BK220.out⟩
           have n2_ : Aside0 (Below w.heap.size w ((w14.setCell ⟨gb220, 0, none⟩ (.int .i64 ((rd_T45 l0_1 x8_1).f0))).setCell ⟨gb220, 1, none⟩ (.string ((rd_T45 l0_1 x8_1).f1)))) := ⟨bG⟩
           (try clear BK218)
           (try clear BK220)
           (try clear HB)
           generalize ((w14.setCell ⟨gb220, 0, none⟩ (.int .i64 ((rd_T45 l0_1 x8_1).f0))).setCell ⟨gb220, 1, none⟩ (.string ((rd_T45 l0_1 x8_1).f1))) = w17 at n0_ n1_ n2_ ⊢
           have BK218 := n0_
           have BK220 := n1_
           have HB := n2_
           clear n0_ n1_ n2_
           have n0_ := Aside0.mk (blk_drew BK218.out)
           have n1_ := Aside0.mk (blk_drew BK220.out)
           have n2_ := Aside0.mk (below_drew1 HB.out)
           clear BK218
           clear BK220
           clear HB
           have BK218 := n0_
           have BK220 := n1_
           have HB := n2_
           clear n0_ n1_ n2_
           have p222 : 0 ≤ ((ji10) : Int) := of_decide_eq_true (by first | (with_reducible assumption) | assumption)
           have q222 : (ji10) < (l0_1.length : Int) := of_decide_eq_true (by first | (with_reducible assumption) | assumption)
           obtain ⟨ad222, e222, hx222_0, hx222_1⟩ := at_T45 HR0_1.out (ji10) p222 q222
           have hw222_1 := hx222_1
           have hw222_0 := hx222_0
           obtain rfl : ad219 = ad222 := (by injection e222)
           replace hx222_0 := (HB.out.cell (World.block_lt_of_cell? w _ hx222_0)).trans hx222_0
           replace hx222_1 := (HB.out.cell (World.block_lt_of_cell? w _ hx222_1)).trans hx222_1
           replace p222 := eq_true p222
           replace q222 := eq_true q222
           refine start_ (n := 22) (S := fun w' => w'.cell? ⟨gb220, 0, none⟩ = some (.int .i64 ((rd_T45 l0_1 x8_1).f0)) ∧ w'.cell? ⟨gb220, 1, none⟩ = some (.string ((rd_T45 l0_1 x8_1).f1)) ∧ w'.cell? ⟨gb218, 0, none⟩ = some (.string a0_0) ∧ w'.cell? ⟨gb218, 1, none⟩ = some (.slice (some ad219) l0_1.length c0_1) ∧ w'.cell? (ad219.add (((ji10)).toNat * 2)) = some (.int .i64 ((rd_T45 l0_1 (ji10)).f0)) ∧ w'.cell? ⟨(ad219.add (((ji10)).toNat * 2)).block, (ad219.add (((ji10)).toNat * 2)).off + 1, none⟩ = some (.string ((rd_T45 l0_1 (ji10)).f1))) (ds := []) #[false, false, false, false, false, false, false, false, false, false, false, false, false, false, false, false, false, false, false, false, false, false] (by kernel_rfl) rfl rfl ⟨(blk_cell BK220.out 0).trans rfl, (blk_cell BK220.out 1).trans rfl, (blk_cell BK218.out 0).trans rfl, (blk_cell BK218.out 1).trans rfl, ((HB.out.cell (World.block_lt_of_cell? w _ hw222_0)).trans hw222_0), ((HB.out.cell (World.block_lt_of_cell? w _ hw222_1)).trans hw222_1)⟩ (fun hHeld => ?_); refine with_tabW impl_MsgOk.tab4 impl_MsgOk.bits4 (fun HT_ HW_ => ?_)
           generalize w17.drew = w18 at BK218 BK220 HB hx222_0 hx222_1 hHeld ⊢
           refine pure_ (i := 0) (N := some 13) (v := ?_) (a' := ?_) #[true, false, false, false, false, false, false, false, false, false, false, false, false, false, false, false, false, false, false, false, false, false] rfl rfl (any_of HT_.out (by kernel_rfl)) (fun _ _ _ h => h) (Or.inl ⟨by rfl, ?_⟩) ?_ ?_
           rotate_left
           ·intro w'
            go_simp
            with_reducible rfl
           rotate_left
           ·simp only [Act.put, List.setIfInBounds_toArray, List.set_cons_zero, List.set_cons_succ, i64_w, i32_w]
            rfl
           refine pure_ (i := 2) (N := some 15) (v := ?_) (a' := ?_) #[true, false, true, false, false, false, false, false, false, false, false, false, false, false, false, false, false, false, false, false, false, false] rfl rfl (any_of HT_.out (by kernel_rfl)) (fun _ _ _ h => h) (Or.inl ⟨by rfl, ?_⟩) ?_ ?_
           rotate_left
           ·intro w'
            go_simp
            with_reducible rfl
           rotate_left
           ·simp only [Act.put, List.setIfInBounds_toArray, List.set_cons_zero, List.set_cons_succ, i64_w, i32_w]
            rfl
           refine take_ (i := 1) (N := some 14) (v := ?_) (a' := ?_) #[true, true, true, false, false, false, false, false, false, false, false, false, false, false, false, false, false, false, false, false, false, false] rfl rfl (take_ofW HT_.out HW_.out (by kernel_rfl)) (fun _ _ _ h => h) (Or.inl ⟨by rfl, ?_⟩) hHeld ?_ ?_
           rotate_left
           ·rintro w' ⟨s0, s1, s2, s3, s4, s5⟩
            go_simp
            with_reducible rfl
           rotate_left
           ·simp only [Act.put, List.setIfInBounds_toArray, List.set_cons_zero, List.set_cons_succ, i64_w, i32_w]
            rfl
           refine take_ (i := 3) (N := some 16) (v := ?_) (a' := ?_) #[true, true, true, true, false, false, false, false, false, false, false, false, false, false, false, false, false, false, false, false, false, false] rfl rfl (take_ofW HT_.out HW_.out (by kernel_rfl)) (fun _ _ _ h => h) (Or.inl ⟨by rfl, ?_⟩) hHeld ?_ ?_
           rotate_left
           ·rintro w' ⟨s0, s1, s2, s3, s4, s5⟩
            go_simp
            with_reducible rfl
           rotate_left
           ·simp only [Act.put, List.setIfInBounds_toArray, List.set_cons_zero, List.set_cons_succ, i64_w, i32_w]
            rfl
           refine one_ (i := 4) (N := some 17) #[true, true, true, true, true, false, false, false, false, false, false, false, false, false, false, false, false, false, false, false, false, false] rfl rfl (one_of HT_.out (by kernel_rfl)) (by decide) (fun K hK => ?_)
           refine goes_ Try.func36 (by kernel_rfl) rfl #[.int .i64 ((rd_T45 l0_1 x8_1).f0), .string ((rd_T45 l0_1 x8_1).f1)] (by rfl) rfl rfl (by (try simp only [List.map_toArray, List.map_cons, List.map_nil]); first | done | rfl | (simp only [List.length_drop, List.length_take]; rfl)) ?_
           with_reducible refine (impl_FieldOk.calls k1 ((rd_T45 l0_1 x8_1).f0) ((rd_T45 l0_1 x8_1).f1) true _ A7.out).mono ?_
           rintro e w19 ⟨rfl, hb⟩
           refine ⟨_, rfl, ?_⟩
           have n0_ := Aside0.mk (blk_below (g := gb218) (o := .cells #[.string a0_0, .slice (some ad219) l0_1.length c0_1] 28 (0, 0)) (kA BK218.out) hb)
           have n1_ := Aside0.mk (blk_below (g := gb220) (o := .cells #[.int .i64 ((rd_T45 l0_1 x8_1).f0), .string ((rd_T45 l0_1 x8_1).f1)] 45 (0, 0)) (kA BK220.out) hb)
           have n2_ := Aside0.mk (below_step bG hb)
           clear BK218
           clear BK220
           clear HB
           have BK218 := n0_
           have BK220 := n1_
           have HB := n2_
           clear n0_ n1_ n2_
           (try clear hb)
           (try clear hb2)
           (try clear hk)
           (try clear hi)
           refine hK.out _ _ ⟨(blk_cell BK220.out 0).trans rfl, (blk_cell BK220.out 1).trans rfl, (blk_cell BK218.out 0).trans rfl, (blk_cell BK218.out 1).trans rfl, ((HB.out.cell (World.block_lt_of_cell? w _ hw222_0)).trans hw222_0), ((HB.out.cell (World.block_lt_of_cell? w _ hw222_1)).trans hw222_1)⟩ (fun hHeld => ?_)
           clear hK K
           refine norm_ (a' := ?_) ?_ ?_
           rotate_left
           ·show Act.put _ (some 17) _ = _
            simp only [Act.put, List.setIfInBounds_toArray, List.set_cons_zero, List.set_cons_succ, i64_w, i32_w]
            rfl
           refine pure_ (i := 5) (N := some 18) (v := ?_) (a' := ?_) #[true, true, true, true, true, true, false, false, false, false, false, false, false, false, false, false, false, false, false, false, false, false] rfl rfl (any_of HT_.out (by kernel_rfl)) (fun _ _ _ h => h) (Or.inl ⟨by rfl, ?_⟩) ?_ ?_
           rotate_left
           ·intro w'
            go_simp
            with_reducible rfl
           rotate_left
           ·simp only [Act.put, List.setIfInBounds_toArray, List.set_cons_zero, List.set_cons_succ, i64_w, i32_w]
            rfl
           refine pure_ (i := 6) (N := some 19) (v := ?_) (a' := ?_) #[true, true, true, true, true, true, true, false, false, false, false, false, false, false, false, false, false, false, false, false, false, false] rfl rfl (any_of HT_.out (by kernel_rfl)) (fun _ _ _ h => h) (Or.inl ⟨by rfl, ?_⟩) ?_ ?_
           rotate_left
           ·intro w'
            go_simp
            with_reducible rfl
           rotate_left
           ·simp only [Act.put, List.setIfInBounds_toArray, List.set_cons_zero, List.set_cons_succ, i64_w, i32_w]
            rfl
           refine pure_ (i := 7) (N := some 20) (v := ?_) (a' := ?_) #[true, true, true, true, true, true, true, true, false, false, false, false, false, false, false, false, false, false, false, false, false, false] rfl rfl (any_of HT_.out (by kernel_rfl)) (fun _ _ _ h => h) (Or.inl ⟨by rfl, ?_⟩) ?_ ?_
           rotate_left
           ·intro w'
            go_simp
            with_reducible rfl
           rotate_left
           ·simp only [Act.put, List.setIfInBounds_toArray, List.set_cons_zero, List.set_cons_succ, i64_w, i32_w]
            rfl
           refine pure_ (i := 8) (N := some 21) (v := ?_) (a' := ?_) #[true, true, true, true, true, true, true, true, true, false, false, false, false, false, false, false, false, false, false, false, false, false] rfl rfl (any_of HT_.out (by kernel_rfl)) (fun _ _ _ h => h) (Or.inl ⟨by rfl, ?_⟩) ?_ ?_
           rotate_left
           ·intro w'
            go_simp
            with_reducible rfl
           rotate_left
           ·simp only [Act.put, List.setIfInBounds_toArray, List.set_cons_zero, List.set_cons_succ, i64_w, i32_w]
            rfl
           refine pure_ (i := 9) (N := some 22) (v := ?_) (a' := ?_) #[true, true, true, true, true, true, true, true, true, true, false, false, false, false, false, false, false, false, false, false, false, false] rfl rfl (any_of HT_.out (by kernel_rfl)) (fun _ _ _ h => h) (Or.inl ⟨by rfl, ?_⟩) ?_ ?_
           rotate_left
           ·intro w'
            go_simp
            with_reducible rfl
           rotate_left
           ·simp only [Act.put, List.setIfInBounds_toArray, List.set_cons_zero, List.set_cons_succ, i64_w, i32_w]
            rfl
           refine pure_ (i := 10) (N := some 23) (v := ?_) (a' := ?_) #[true, true, true, true, true, true, true, true, true, true, true, false, false, false, false, false, false, false, false, false, false, false] rfl rfl (any_of HT_.out (by kernel_rfl)) (fun _ _ _ h => h) (Or.inl ⟨by rfl, ?_⟩) ?_ ?_
           rotate_left
           ·intro w'
            go_simp
            with_reducible rfl
           rotate_left
           ·simp only [Act.put, List.setIfInBounds_toArray, List.set_cons_zero, List.set_cons_succ, i64_w, i32_w]
            rfl
           refine pure_ (i := 12) (N := some 25) (v := ?_) (a' := ?_) #[true, true, true, true, true, true, true, true, true, true, true, false, true, false, false, false, false, false, false, false, false, false] rfl rfl (any_of HT_.out (by kernel_rfl)) (fun _ _ _ h => h) (Or.inl ⟨by rfl, ?_⟩) ?_ ?_
           rotate_left
           ·intro w'
            go_simp
            with_reducible rfl
           rotate_left
           ·simp only [Act.put, List.setIfInBounds_toArray, List.set_cons_zero, List.set_cons_succ, i64_w, i32_w]
            rfl
           refine pure_ (i := 14) (N := some 27) (v := ?_) (a' := ?_) #[true, true, true, true, true, true, true, true, true, true, true, false, true, false, true, false, false, false, false, false, false, false] rfl rfl (any_of HT_.out (by kernel_rfl)) (fun _ _ _ h => h) (Or.inl ⟨by rfl, ?_⟩) ?_ ?_
           rotate_left
           ·intro w'
            go_simp
            with_reducible rfl
           rotate_left
           ·simp only [Act.put, List.setIfInBounds_toArray, List.set_cons_zero, List.set_cons_succ, i64_w, i32_w]
            rfl
           refine pure_ (i := 15) (N := some 28) (v := ?_) (a' := ?_) #[true, true, true, true, true, true, true, true, true, true, true, false, true, false, true, true, false, false, false, false, false, false] rfl rfl (any_of HT_.out (by kernel_rfl)) (fun _ _ _ h => h) (Or.inl ⟨by rfl, ?_⟩) ?_ ?_
           rotate_left
           ·intro w'
            go_simp
            with_reducible rfl
           rotate_left
           ·simp only [Act.put, List.setIfInBounds_toArray, List.set_cons_zero, List.set_cons_succ, i64_w, i32_w]
            rfl
           refine take_ (i := 11) (N := some 24) (v := ?_) (a' := ?_) #[true, true, true, true, true, true, true, true, true, true, true, true, true, false, true, true, false, false, false, false, false, false] rfl rfl (take_ofW HT_.out HW_.out (by kernel_rfl)) (fun _ _ _ h => h) (Or.inl ⟨by rfl, ?_⟩) hHeld ?_ ?_
           rotate_left
           ·rintro w' ⟨s0, s1, s2, s3, s4, s5⟩
            go_simp
            with_reducible rfl
           rotate_left
           ·simp only [Act.put, List.setIfInBounds_toArray, List.set_cons_zero, List.set_cons_succ, i64_w, i32_w]
            rfl
           refine take_ (i := 13) (N := some 26) (v := ?_) (a' := ?_) #[true, true, true, true, true, true, true, true, true, true, true, true, true, true, true, true, false, false, false, false, false, false] rfl rfl (take_ofW HT_.out HW_.out (by kernel_rfl)) (fun _ _ _ h => h) (Or.inl ⟨by rfl, ?_⟩) hHeld ?_ ?_
           rotate_left
           ·rintro w' ⟨s0, s1, s2, s3, s4, s5⟩
            go_simp
            with_reducible rfl
           rotate_left
           ·simp only [Act.put, List.setIfInBounds_toArray, List.set_cons_zero, List.set_cons_succ, i64_w, i32_w]
            rfl
           refine pure_ (i := 16) (N := some 29) (v := ?_) (a' := ?_) #[true, true, true, true, true, true, true, true, true, true, true, true, true, true, true, true, true, false, false, false, false, false] rfl rfl (any_of HT_.out (by kernel_rfl)) (fun _ _ _ h => h) (Or.inl ⟨by rfl, ?_⟩) ?_ ?_
           rotate_left
           ·intro w'
            go_simp
            with_reducible rfl
           rotate_left
           ·simp only [Act.put, List.setIfInBounds_toArray, List.set_cons_zero, List.set_cons_succ, i64_w, i32_w]
            rfl
           refine pure_ (i := 17) (N := some 30) (v := ?_) (a' := ?_) #[true, true, true, true, true, true, true, true, true, true, true, true, true, true, true, true, true, true, false, false, false, false] rfl rfl (any_of HT_.out (by kernel_rfl)) (fun _ _ _ h => h) (Or.inl ⟨by rfl, ?_⟩) ?_ ?_
           rotate_left
           ·intro w'
            go_simp
            with_reducible rfl
           rotate_left
           ·simp only [Act.put, List.setIfInBounds_toArray, List.set_cons_zero, List.set_cons_succ, i64_w, i32_w]
            rfl
           refine take_ (i := 18) (N := some 31) (v := ?_) (a' := ?_) #[true, true, true, true, true, true, true, true, true, true, true, true, true, true, true, true, true, true, true, false, false, false] rfl rfl (take_ofW HT_.out HW_.out (by kernel_rfl)) (fun _ _ _ h => h) (Or.inl ⟨by rfl, ?_⟩) hHeld ?_ ?_
           rotate_left
           ·rintro w' ⟨s0, s1, s2, s3, s4, s5⟩
            go_simp
            with_reducible rfl
           rotate_left
           ·simp only [Act.put, List.setIfInBounds_toArray, List.set_cons_zero, List.set_cons_succ, i64_w, i32_w]
            rfl
           refine pure_ (i := 19) (N := some 32) (v := ?_) (a' := ?_) #[true, true, true, true, true, true, true, true, true, true, true, true, true, true, true, true, true, true, true, true, false, false] rfl rfl (any_of HT_.out (by kernel_rfl)) (fun _ _ _ h => h) (Or.inl ⟨by rfl, ?_⟩) ?_ ?_
           rotate_left
           ·intro w'
            go_simp
            with_reducible rfl
           rotate_left
           ·simp only [Act.put, List.setIfInBounds_toArray, List.set_cons_zero, List.set_cons_succ, i64_w, i32_w]
            rfl
           refine pure_ (i := 20) (N := some 33) (v := ?_) (a' := ?_) #[true, true, true, true, true, true, true, true, true, true, true, true, true, true, true, true, true, true, true, true, true, false] rfl rfl (any_of HT_.out (by kernel_rfl)) (fun _ _ _ h => h) (Or.inl ⟨by rfl, ?_⟩) ?_ ?_
           rotate_left
           ·intro w'
            go_simp
            with_reducible rfl
           rotate_left
           ·simp only [Act.put, List.setIfInBounds_toArray, List.set_cons_zero, List.set_cons_succ, i64_w, i32_w]
            rfl
           refine pure_ (i := 21) (N := some 34) (v := ?_) (a' := ?_) #[true, true, true, true, true, true, true, true, true, true, true, true, true, true, true, true, true, true, true, true, true, true] rfl rfl (any_of HT_.out (by kernel_rfl)) (fun _ _ _ h => h) (Or.inl ⟨by rfl, ?_⟩) ?_ ?_
           rotate_left
           ·intro w'
            go_simp
            with_reducible rfl
           rotate_left
           ·simp only [Act.put, List.setIfInBounds_toArray, List.set_cons_zero, List.set_cons_succ, i64_w, i32_w]
            rfl
           refine done_ (done_of HT_.out (by kernel_rfl)) ?_
           try go_wp2
           go_ret
           exact ⟨by first | rfl | (simp [errW_none, errW_some] <;> rfl) | (simp only [← hji10]; first | rfl | (simp [errW_none, errW_some] <;> rfl) | (simp [i64_w, IntKind.wrap_u8] <;> rfl)) | (simp [*, errW_none, errW_some] <;> rfl), bG⟩
          ·rw [if_neg c13] at H
           have c13b0 : decide (((rd_T45 l0_1 x8_1).f0) ≤ ((rd_T45 l0_1 (ji10)).f0)) = false := decide_eq_false c13
           clear c13
           have H' := Aside0.mk H
           clear H
           have p219 : 0 ≤ (x8_1 : Int) := of_decide_eq_true (by first | (with_reducible assumption) | assumption)
           have q219 : x8_1 < (l0_1.length : Int) := of_decide_eq_true (by first | (with_reducible assumption) | assumption)
           obtain ⟨ad219, e219, hx219_0, hx219_1⟩ := at_T45 HR0_1.out x8_1 p219 q219
           cases e219
           replace hx219_0 := (HB.out.cell (World.block_lt_of_cell? w _ hx219_0)).trans hx219_0
           replace hx219_1 := (HB.out.cell (World.block_lt_of_cell? w _ hx219_1)).trans hx219_1
           replace p219 := eq_true p219
           replace q219 := eq_true q219
           try go_wp2_with (first | ((with_reducible refine gate_dst (N := 4) rfl ?_); refine box_event ?hg (N := 4) ?hd (cs := #[.int .i64 0, .string (⟨#[]⟩ : ByteArray)]) (t := 45) ?hr ?_; (case hd => rfl); (case hg => rfl); (case hr => first | (go_simp; done) | (go_simp; rfl)); intro gb220 hg w20 hbox hb; have n0_ := Aside0.mk (blk_below (g := gb218) (o := .cells #[.string a0_0, .slice (some ad219) l0_1.length c0_1] 28 (0, 0)) (kA BK218.out) hb); have n1_ := Aside0.mk (below_step bG hb); have n2_ := Aside0.mk (hbox); have n3_ := Aside0.mk ((by rw [hg]; exact (below_size bG) : w.heap.size ≤ gb220)); have n4_ := Aside0.mk ((by rw [hg]; exact (below_size bG) : w.heap.size ≤ gb220)); have n5_ := Aside0.mk ((by rw [hg]; exact Nat.ne_of_lt (blk_lt (g := gb218) (o := .cells #[.string a0_0, .slice (some ad219) l0_1.length c0_1] 28 (0, 0)) (kA BK218.out)) : gb218 ≠ gb220)); have n6_ := Aside0.mk ((by rw [hg]; exact Nat.ne_of_gt (blk_lt (g := gb218) (o := .cells #[.string a0_0, .slice (some ad219) l0_1.length c0_1] 28 (0, 0)) (kA BK218.out)) : gb220 ≠ gb218)); clear BK218; clear HB; have BK218 := n0_; have HB := n1_; have BK220 := n2_; have GW220 := n3_; have GE220 := n4_; have NB218_220 := n5_; have NB220_218 := n6_; clear n0_ n1_ n2_ n3_ n4_ n5_ n6_; clear hb hbox hg; have hnb21 := NB220_218.out; have hnc21 := NB218_220.out; have hcz22_0 : w20.cell? ⟨gb220, 0, none⟩ = some (.int .i64 0) := (blk_cell BK220.out 0).trans rfl; have hcz22_1 : w20.cell? ⟨gb220, 1, none⟩ = some (.string (⟨#[]⟩ : ByteArray)) := (blk_cell BK220.out 1).trans rfl; have hfz22_0 := blk_frozen BK220.out 0; have hfz22_1 := blk_frozen BK220.out 1))
           have n0_ : Aside0 (((w20.setCell ⟨gb220, 0, none⟩ (.int .i64 ((rd_T45 l0_1 x8_1).f0))).setCell ⟨gb220, 1, none⟩ (.string ((rd_T45 l0_1 x8_1).f1))).heap[gb218]? = some (.cells #[.string a0_0, .slice (some ad219) l0_1.length c0_1] 28 (0, 0))) := ⟨by (with_reducible repeat (first | refine blk_drewN ?_ _ | refine blk_drew ?_ | refine blk_alloc ?_ _)); refine blk_far ?_ NB218_220.out _; (with_reducible repeat (first | refine blk_drewN ?_ _ | refine blk_drew ?_ | refine blk_alloc ?_ _)); refine blk_far ?_ NB218_220.out _; (with_reducible repeat (first | refine blk_drewN ?_ _ | refine blk_drew ?_ | refine blk_alloc ?_ _)); exact BK218.out⟩
           have n1_ : Aside0 (((w20.setCell ⟨gb220, 0, none⟩ (.int .i64 ((rd_T45 l0_1 x8_1).f0))).setCell ⟨gb220, 1, none⟩ (.string ((rd_T45 l0_1 x8_1).f1))).heap[gb220]? = some (.cells #[.int .i64 ((rd_T45 l0_1 x8_1).f0), .string ((rd_T45 l0_1 x8_1).f1)] 45 (0, 0))) := ⟨by (with_reducible repeat (first | refine blk_drewN ?_ _ | refine blk_drew ?_ | refine blk_alloc ?_ _)); refine blk_put (cs := #[.int .i64 ((rd_T45 l0_1 x8_1).f0), .string (⟨#[]⟩ : ByteArray)]) ?_ 1 _ rfl; (with_reducible repeat (first | refine blk_drewN ?_ _ | refine blk_drew ?_ | refine blk_alloc ?_ _)); refine blk_put (cs := #[.int .i64 0, .string (⟨#[]⟩ : ByteArray)]) ?_ 0 _ rfl; (with_reducible repeat (first | refine blk_drewN ?_ _ | refine blk_drew ?_ | refine blk_alloc ?_ _)); exact BK220.out⟩
           have n2_ : Aside0 (Below w.heap.size w ((w20.setCell ⟨gb220, 0, none⟩ (.int .i64 ((rd_T45 l0_1 x8_1).f0))).setCell ⟨gb220, 1, none⟩ (.string ((rd_T45 l0_1 x8_1).f1)))) := ⟨bG⟩
           (try clear BK218)
           (try clear BK220)
           (try clear HB)
           generalize ((w20.setCell ⟨gb220, 0, none⟩ (.int .i64 ((rd_T45 l0_1 x8_1).f0))).setCell ⟨gb220, 1, none⟩ (.string ((rd_T45 l0_1 x8_1).f1))) = w23 at n0_ n1_ n2_ ⊢
           have BK218 := n0_
           have BK220 := n1_
           have HB := n2_
           clear n0_ n1_ n2_
           have n0_ := Aside0.mk (blk_drew BK218.out)
           have n1_ := Aside0.mk (blk_drew BK220.out)
           have n2_ := Aside0.mk (below_drew1 HB.out)
           clear BK218
           clear BK220
           clear HB
           have BK218 := n0_
           have BK220 := n1_
           have HB := n2_
           clear n0_ n1_ n2_
           have p222 : 0 ≤ ((ji10) : Int) := of_decide_eq_true (by first | (with_reducible assumption) | assumption)
           have q222 : (ji10) < (l0_1.length : Int) := of_decide_eq_true (by first | (with_reducible assumption) | assumption)
           obtain ⟨ad222, e222, hx222_0, hx222_1⟩ := at_T45 HR0_1.out (ji10) p222 q222
           have hw222_1 := hx222_1
           have hw222_0 := hx222_0
           obtain rfl : ad219 = ad222 := (by injection e222)
           replace hx222_0 := (HB.out.cell (World.block_lt_of_cell? w _ hx222_0)).trans hx222_0
           replace hx222_1 := (HB.out.cell (World.block_lt_of_cell? w _ hx222_1)).trans hx222_1
           replace p222 := eq_true p222
           replace q222 := eq_true q222
           refine start_ (n := 22) (S := fun w' => w'.cell? ⟨gb220, 0, none⟩ = some (.int .i64 ((rd_T45 l0_1 x8_1).f0)) ∧ w'.cell? ⟨gb220, 1, none⟩ = some (.string ((rd_T45 l0_1 x8_1).f1)) ∧ w'.cell? ⟨gb218, 0, none⟩ = some (.string a0_0) ∧ w'.cell? ⟨gb218, 1, none⟩ = some (.slice (some ad219) l0_1.length c0_1) ∧ w'.cell? (ad219.add (((ji10)).toNat * 2)) = some (.int .i64 ((rd_T45 l0_1 (ji10)).f0)) ∧ w'.cell? ⟨(ad219.add (((ji10)).toNat * 2)).block, (ad219.add (((ji10)).toNat * 2)).off + 1, none⟩ = some (.string ((rd_T45 l0_1 (ji10)).f1))) (ds := []) #[false, false, false, false, false, false, false, false, false, false, false, false, false, false, false, false, false, false, false, false, false, false] (by kernel_rfl) rfl rfl ⟨(blk_cell BK220.out 0).trans rfl, (blk_cell BK220.out 1).trans rfl, (blk_cell BK218.out 0).trans rfl, (blk_cell BK218.out 1).trans rfl, ((HB.out.cell (World.block_lt_of_cell? w _ hw222_0)).trans hw222_0), ((HB.out.cell (World.block_lt_of_cell? w _ hw222_1)).trans hw222_1)⟩ (fun hHeld => ?_); refine with_tabW impl_MsgOk.tab4 impl_MsgOk.bits4 (fun HT_ HW_ => ?_)
           generalize w23.drew = w24 at BK218 BK220 HB hx222_0 hx222_1 hHeld ⊢
           refine pure_ (i := 0) (N := some 13) (v := ?_) (a' := ?_) #[true, false, false, false, false, false, false, false, false, false, false, false, false, false, false, false, false, false, false, false, false, false] rfl rfl (any_of HT_.out (by kernel_rfl)) (fun _ _ _ h => h) (Or.inl ⟨by rfl, ?_⟩) ?_ ?_
           rotate_left
           ·intro w'
            go_simp
            with_reducible rfl
           rotate_left
           ·simp only [Act.put, List.setIfInBounds_toArray, List.set_cons_zero, List.set_cons_succ, i64_w, i32_w]
            rfl
           refine pure_ (i := 2) (N := some 15) (v := ?_) (a' := ?_) #[true, false, true, false, false, false, false, false, false, false, false, false, false, false, false, false, false, false, false, false, false, false] rfl rfl (any_of HT_.out (by kernel_rfl)) (fun _ _ _ h => h) (Or.inl ⟨by rfl, ?_⟩) ?_ ?_
           rotate_left
           ·intro w'
            go_simp
            with_reducible rfl
           rotate_left
           ·simp only [Act.put, List.setIfInBounds_toArray, List.set_cons_zero, List.set_cons_succ, i64_w, i32_w]
            rfl
           refine take_ (i := 1) (N := some 14) (v := ?_) (a' := ?_) #[true, true, true, false, false, false, false, false, false, false, false, false, false, false, false, false, false, false, false, false, false, false] rfl rfl (take_ofW HT_.out HW_.out (by kernel_rfl)) (fun _ _ _ h => h) (Or.inl ⟨by rfl, ?_⟩) hHeld ?_ ?_
           rotate_left
           ·rintro w' ⟨s0, s1, s2, s3, s4, s5⟩
            go_simp
            with_reducible rfl
           rotate_left
           ·simp only [Act.put, List.setIfInBounds_toArray, List.set_cons_zero, List.set_cons_succ, i64_w, i32_w]
            rfl
           refine take_ (i := 3) (N := some 16) (v := ?_) (a' := ?_) #[true, true, true, true, false, false, false, false, false, false, false, false, false, false, false, false, false, false, false, false, false, false] rfl rfl (take_ofW HT_.out HW_.out (by kernel_rfl)) (fun _ _ _ h => h) (Or.inl ⟨by rfl, ?_⟩) hHeld ?_ ?_
           rotate_left
           ·rintro w' ⟨s0, s1, s2, s3, s4, s5⟩
            go_simp
            with_reducible rfl
           rotate_left
           ·simp only [Act.put, List.setIfInBounds_toArray, List.set_cons_zero, List.set_cons_succ, i64_w, i32_w]
            rfl
           refine one_ (i := 4) (N := some 17) #[true, true, true, true, true, false, false, false, false, false, false, false, false, false, false, false, false, false, false, false, false, false] rfl rfl (one_of HT_.out (by kernel_rfl)) (by decide) (fun K hK => ?_)
           refine goes_ Try.func36 (by kernel_rfl) rfl #[.int .i64 ((rd_T45 l0_1 x8_1).f0), .string ((rd_T45 l0_1 x8_1).f1)] (by rfl) rfl rfl (by (try simp only [List.map_toArray, List.map_cons, List.map_nil]); first | done | rfl | (simp only [List.length_drop, List.length_take]; rfl)) ?_
           with_reducible refine (impl_FieldOk.calls k1 ((rd_T45 l0_1 x8_1).f0) ((rd_T45 l0_1 x8_1).f1) true _ A7.out).mono ?_
           rintro e w25 ⟨rfl, hb⟩
           refine ⟨_, rfl, ?_⟩
           have n0_ := Aside0.mk (blk_below (g := gb218) (o := .cells #[.string a0_0, .slice (some ad219) l0_1.length c0_1] 28 (0, 0)) (kA BK218.out) hb)
           have n1_ := Aside0.mk (blk_below (g := gb220) (o := .cells #[.int .i64 ((rd_T45 l0_1 x8_1).f0), .string ((rd_T45 l0_1 x8_1).f1)] 45 (0, 0)) (kA BK220.out) hb)
           have n2_ := Aside0.mk (below_step bG hb)
           clear BK218
           clear BK220
           clear HB
           have BK218 := n0_
           have BK220 := n1_
           have HB := n2_
           clear n0_ n1_ n2_
           (try clear hb)
           (try clear hb2)
           (try clear hk)
           (try clear hi)
           refine hK.out _ _ ⟨(blk_cell BK220.out 0).trans rfl, (blk_cell BK220.out 1).trans rfl, (blk_cell BK218.out 0).trans rfl, (blk_cell BK218.out 1).trans rfl, ((HB.out.cell (World.block_lt_of_cell? w _ hw222_0)).trans hw222_0), ((HB.out.cell (World.block_lt_of_cell? w _ hw222_1)).trans hw222_1)⟩ (fun hHeld => ?_)
           clear hK K
           refine norm_ (a' := ?_) ?_ ?_
           rotate_left
           ·show Act.put _ (some 17) _ = _
            simp only [Act.put, List.setIfInBounds_toArray, List.set_cons_zero, List.set_cons_succ, i64_w, i32_w]
            rfl
           refine pure_ (i := 5) (N := some 18) (v := ?_) (a' := ?_) #[true, true, true, true, true, true, false, false, false, false, false, false, false, false, false, false, false, false, false, false, false, false] rfl rfl (any_of HT_.out (by kernel_rfl)) (fun _ _ _ h => h) (Or.inl ⟨by rfl, ?_⟩) ?_ ?_
           rotate_left
           ·intro w'
            go_simp
            with_reducible rfl
           rotate_left
           ·simp only [Act.put, List.setIfInBounds_toArray, List.set_cons_zero, List.set_cons_succ, i64_w, i32_w]
            rfl
           refine pure_ (i := 6) (N := some 19) (v := ?_) (a' := ?_) #[true, true, true, true, true, true, true, false, false, false, false, false, false, false, false, false, false, false, false, false, false, false] rfl rfl (any_of HT_.out (by kernel_rfl)) (fun _ _ _ h => h) (Or.inl ⟨by rfl, ?_⟩) ?_ ?_
           rotate_left
           ·intro w'
            go_simp
            with_reducible rfl
           rotate_left
           ·simp only [Act.put, List.setIfInBounds_toArray, List.set_cons_zero, List.set_cons_succ, i64_w, i32_w]
            rfl
           refine pure_ (i := 7) (N := some 20) (v := ?_) (a' := ?_) #[true, true, true, true, true, true, true, true, false, false, false, false, false, false, false, false, false, false, false, false, false, false] rfl rfl (any_of HT_.out (by kernel_rfl)) (fun _ _ _ h => h) (Or.inl ⟨by rfl, ?_⟩) ?_ ?_
           rotate_left
           ·intro w'
            go_simp
            with_reducible rfl
           rotate_left
           ·simp only [Act.put, List.setIfInBounds_toArray, List.set_cons_zero, List.set_cons_succ, i64_w, i32_w]
            rfl
           refine pure_ (i := 8) (N := some 21) (v := ?_) (a' := ?_) #[true, true, true, true, true, true, true, true, true, false, false, false, false, false, false, false, false, false, false, false, false, false] rfl rfl (any_of HT_.out (by kernel_rfl)) (fun _ _ _ h => h) (Or.inl ⟨by rfl, ?_⟩) ?_ ?_
           rotate_left
           ·intro w'
            go_simp
            with_reducible rfl
           rotate_left
           ·simp only [Act.put, List.setIfInBounds_toArray, List.set_cons_zero, List.set_cons_succ, i64_w, i32_w]
            rfl
           refine pure_ (i := 9) (N := some 22) (v := ?_) (a' := ?_) #[true, true, true, true, true, true, true, true, true, true, false, false, false, false, false, false, false, false, false, false, false, false] rfl rfl (any_of HT_.out (by kernel_rfl)) (fun _ _ _ h => h) (Or.inl ⟨by rfl, ?_⟩) ?_ ?_
           rotate_left
           ·intro w'
            go_simp
            with_reducible rfl
           rotate_left
           ·simp only [Act.put, List.setIfInBounds_toArray, List.set_cons_zero, List.set_cons_succ, i64_w, i32_w]
            rfl
           refine pure_ (i := 10) (N := some 23) (v := ?_) (a' := ?_) #[true, true, true, true, true, true, true, true, true, true, true, false, false, false, false, false, false, false, false, false, false, false] rfl rfl (any_of HT_.out (by kernel_rfl)) (fun _ _ _ h => h) (Or.inl ⟨by rfl, ?_⟩) ?_ ?_
           rotate_left
           ·intro w'
            go_simp
            with_reducible rfl
           rotate_left
           ·simp only [Act.put, List.setIfInBounds_toArray, List.set_cons_zero, List.set_cons_succ, i64_w, i32_w]
            rfl
           refine pure_ (i := 12) (N := some 25) (v := ?_) (a' := ?_) #[true, true, true, true, true, true, true, true, true, true, true, false, true, false, false, false, false, false, false, false, false, false] rfl rfl (any_of HT_.out (by kernel_rfl)) (fun _ _ _ h => h) (Or.inl ⟨by rfl, ?_⟩) ?_ ?_
           rotate_left
           ·intro w'
            go_simp
            with_reducible rfl
           rotate_left
           ·simp only [Act.put, List.setIfInBounds_toArray, List.set_cons_zero, List.set_cons_succ, i64_w, i32_w]
            rfl
           refine pure_ (i := 14) (N := some 27) (v := ?_) (a' := ?_) #[true, true, true, true, true, true, true, true, true, true, true, false, true, false, true, false, false, false, false, false, false, false] rfl rfl (any_of HT_.out (by kernel_rfl)) (fun _ _ _ h => h) (Or.inl ⟨by rfl, ?_⟩) ?_ ?_
           rotate_left
           ·intro w'
            go_simp
            with_reducible rfl
           rotate_left
           ·simp only [Act.put, List.setIfInBounds_toArray, List.set_cons_zero, List.set_cons_succ, i64_w, i32_w]
            rfl
           refine pure_ (i := 15) (N := some 28) (v := ?_) (a' := ?_) #[true, true, true, true, true, true, true, true, true, true, true, false, true, false, true, true, false, false, false, false, false, false] rfl rfl (any_of HT_.out (by kernel_rfl)) (fun _ _ _ h => h) (Or.inl ⟨by rfl, ?_⟩) ?_ ?_
           rotate_left
           ·intro w'
            go_simp
            with_reducible rfl
           rotate_left
           ·simp only [Act.put, List.setIfInBounds_toArray, List.set_cons_zero, List.set_cons_succ, i64_w, i32_w]
            rfl
           refine take_ (i := 11) (N := some 24) (v := ?_) (a' := ?_) #[true, true, true, true, true, true, true, true, true, true, true, true, true, false, true, true, false, false, false, false, false, false] rfl rfl (take_ofW HT_.out HW_.out (by kernel_rfl)) (fun _ _ _ h => h) (Or.inl ⟨by rfl, ?_⟩) hHeld ?_ ?_
           rotate_left
           ·rintro w' ⟨s0, s1, s2, s3, s4, s5⟩
            go_simp
            with_reducible rfl
           rotate_left
           ·simp only [Act.put, List.setIfInBounds_toArray, List.set_cons_zero, List.set_cons_succ, i64_w, i32_w]
            rfl
           refine take_ (i := 13) (N := some 26) (v := ?_) (a' := ?_) #[true, true, true, true, true, true, true, true, true, true, true, true, true, true, true, true, false, false, false, false, false, false] rfl rfl (take_ofW HT_.out HW_.out (by kernel_rfl)) (fun _ _ _ h => h) (Or.inl ⟨by rfl, ?_⟩) hHeld ?_ ?_
           rotate_left
           ·rintro w' ⟨s0, s1, s2, s3, s4, s5⟩
            go_simp
            with_reducible rfl
           rotate_left
           ·simp only [Act.put, List.setIfInBounds_toArray, List.set_cons_zero, List.set_cons_succ, i64_w, i32_w]
            rfl
           refine pure_ (i := 16) (N := some 29) (v := ?_) (a' := ?_) #[true, true, true, true, true, true, true, true, true, true, true, true, true, true, true, true, true, false, false, false, false, false] rfl rfl (any_of HT_.out (by kernel_rfl)) (fun _ _ _ h => h) (Or.inl ⟨by rfl, ?_⟩) ?_ ?_
           rotate_left
           ·intro w'
            go_simp
            with_reducible rfl
           rotate_left
           ·simp only [Act.put, List.setIfInBounds_toArray, List.set_cons_zero, List.set_cons_succ, i64_w, i32_w]
            rfl
           refine pure_ (i := 17) (N := some 30) (v := ?_) (a' := ?_) #[true, true, true, true, true, true, true, true, true, true, true, true, true, true, true, true, true, true, false, false, false, false] rfl rfl (any_of HT_.out (by kernel_rfl)) (fun _ _ _ h => h) (Or.inl ⟨by rfl, ?_⟩) ?_ ?_
           rotate_left
           ·intro w'
            go_simp
            with_reducible rfl
           rotate_left
           ·simp only [Act.put, List.setIfInBounds_toArray, List.set_cons_zero, List.set_cons_succ, i64_w, i32_w]
            rfl
           refine take_ (i := 18) (N := some 31) (v := ?_) (a' := ?_) #[true, true, true, true, true, true, true, true, true, true, true, true, true, true, true, true, true, true, true, false, false, false] rfl rfl (take_ofW HT_.out HW_.out (by kernel_rfl)) (fun _ _ _ h => h) (Or.inl ⟨by rfl, ?_⟩) hHeld ?_ ?_
           rotate_left
           ·rintro w' ⟨s0, s1, s2, s3, s4, s5⟩
            go_simp
            with_reducible rfl
           rotate_left
           ·simp only [Act.put, List.setIfInBounds_toArray, List.set_cons_zero, List.set_cons_succ, i64_w, i32_w]
            rfl
           refine pure_ (i := 19) (N := some 32) (v := ?_) (a' := ?_) #[true, true, true, true, true, true, true, true, true, true, true, true, true, true, true, true, true, true, true, true, false, false] rfl rfl (any_of HT_.out (by kernel_rfl)) (fun _ _ _ h => h) (Or.inl ⟨by rfl, ?_⟩) ?_ ?_
           rotate_left
           ·intro w'
            go_simp
            with_reducible rfl
           rotate_left
           ·simp only [Act.put, List.setIfInBounds_toArray, List.set_cons_zero, List.set_cons_succ, i64_w, i32_w]
            rfl
           refine pure_ (i := 20) (N := some 33) (v := ?_) (a' := ?_) #[true, true, true, true, true, true, true, true, true, true, true, true, true, true, true, true, true, true, true, true, true, false] rfl rfl (any_of HT_.out (by kernel_rfl)) (fun _ _ _ h => h) (Or.inl ⟨by rfl, ?_⟩) ?_ ?_
           rotate_left
           ·intro w'
            go_simp
            with_reducible rfl
           rotate_left
           ·simp only [Act.put, List.setIfInBounds_toArray, List.set_cons_zero, List.set_cons_succ, i64_w, i32_w]
            rfl
           refine pure_ (i := 21) (N := some 34) (v := ?_) (a' := ?_) #[true, true, true, true, true, true, true, true, true, true, true, true, true, true, true, true, true, true, true, true, true, true] rfl rfl (any_of HT_.out (by kernel_rfl)) (fun _ _ _ h => h) (Or.inl ⟨by rfl, ?_⟩) ?_ ?_
           rotate_left
           ·intro w'
            go_simp
            with_reducible rfl
           rotate_left
           ·simp only [Act.put, List.setIfInBounds_toArray, List.set_cons_zero, List.set_cons_succ, i64_w, i32_w]
            rfl
           refine done_ (done_of HT_.out (by kernel_rfl)) ?_
           try go_wp2
           go_roundg k1
           case measure => have := HK1.out; omega
           case rel => exact ⟨(wrap64 (x8_1 + 1)), (by first | rfl | (simp; done) | (simp [*]; done) | (simp [i64_w, IntKind.wrap_u8, e256_]; done) | (simp; generalize ByteArray.toList _ = zz_; cases zz_ <;> rfl)), H', ⟨by have := HK1.out; omega⟩, ⟨kA BK218.out⟩, ⟨bG⟩⟩
         ·rw [if_neg c12] at H
          exact absurd H (by simp)
        ·rw [if_neg c11] at H
         exact absurd H (by simp)
       ·rw [if_neg c9] at H
        have c9b0 : decide (0 < x8_1) = false := decide_eq_false c9
        clear c9
        have H' := Aside0.mk H
        clear H
        have p219 : 0 ≤ (x8_1 : Int) := of_decide_eq_true (by first | (with_reducible assumption) | assumption)
        have q219 : x8_1 < (l0_1.length : Int) := of_decide_eq_true (by first | (with_reducible assumption) | assumption)
        obtain ⟨ad219, e219, hx219_0, hx219_1⟩ := at_T45 HR0_1.out x8_1 p219 q219
        cases e219
        replace hx219_0 := (HB.out.cell (World.block_lt_of_cell? w _ hx219_0)).trans hx219_0
        replace hx219_1 := (HB.out.cell (World.block_lt_of_cell? w _ hx219_1)).trans hx219_1
        replace p219 := eq_true p219
        replace q219 := eq_true q219
        try go_wp2_with (first | ((with_reducible refine gate_dst (N := 4) rfl ?_); refine box_event ?hg (N := 4) ?hd (cs := #[.int .i64 0, .string (⟨#[]⟩ : ByteArray)]) (t := 45) ?hr ?_; (case hd => rfl); (case hg => rfl); (case hr => first | (go_simp; done) | (go_simp; rfl)); intro gb220 hg w26 hbox hb; have n0_ := Aside0.mk (blk_below (g := gb218) (o := .cells #[.string a0_0, .slice (some ad219) l0_1.length c0_1] 28 (0, 0)) (kA BK218.out) hb); have n1_ := Aside0.mk (below_step bG hb); have n2_ := Aside0.mk (hbox); have n3_ := Aside0.mk ((by rw [hg]; exact (below_size bG) : w.heap.size ≤ gb220)); have n4_ := Aside0.mk ((by rw [hg]; exact (below_size bG) : w.heap.size ≤ gb220)); have n5_ := Aside0.mk ((by rw [hg]; exact Nat.ne_of_lt (blk_lt (g := gb218) (o := .cells #[.string a0_0, .slice (some ad219) l0_1.length c0_1] 28 (0, 0)) (kA BK218.out)) : gb218 ≠ gb220)); have n6_ := Aside0.mk ((by rw [hg]; exact Nat.ne_of_gt (blk_lt (g := gb218) (o := .cells #[.string a0_0, .slice (some ad219) l0_1.length c0_1] 28 (0, 0)) (kA BK218.out)) : gb220 ≠ gb218)); clear BK218; clear HB; have BK218 := n0_; have HB := n1_; have BK220 := n2_; have GW220 := n3_; have GE220 := n4_; have NB218_220 := n5_; have NB220_218 := n6_; clear n0_ n1_ n2_ n3_ n4_ n5_ n6_; clear hb hbox hg; have hnb27 := NB220_218.out; have hnc27 := NB218_220.out; have hcz28_0 : w26.cell? ⟨gb220, 0, none⟩ = some (.int .i64 0) := (blk_cell BK220.out 0).trans rfl; have hcz28_1 : w26.cell? ⟨gb220, 1, none⟩ = some (.string (⟨#[]⟩ : ByteArray)) := (blk_cell BK220.out 1).trans rfl; have hfz28_0 := blk_frozen BK220.out 0; have hfz28_1 := blk_frozen BK220.out 1))
        have n0_ : Aside0 (((w26.setCell ⟨gb220, 0, none⟩ (.int .i64 ((rd_T45 l0_1 x8_1).f0))).setCell ⟨gb220, 1, none⟩ (.string ((rd_T45 l0_1 x8_1).f1))).heap[gb218]? = some (.cells #[.string a0_0, .slice (some ad219) l0_1.length c0_1] 28 (0, 0))) := ⟨by (with_reducible repeat (first | refine blk_drewN ?_ _ | refine blk_drew ?_ | refine blk_alloc ?_ _)); refine blk_far ?_ NB218_220.out _; (with_reducible repeat (first | refine blk_drewN ?_ _ | refine blk_drew ?_ | refine blk_alloc ?_ _)); refine blk_far ?_ NB218_220.out _; (with_reducible repeat (first | refine blk_drewN ?_ _ | refine blk_drew ?_ | refine blk_alloc ?_ _)); exact BK218.out⟩
        have n1_ : Aside0 (((w26.setCell ⟨gb220, 0, none⟩ (.int .i64 ((rd_T45 l0_1 x8_1).f0))).setCell ⟨gb220, 1, none⟩ (.string ((rd_T45 l0_1 x8_1).f1))).heap[gb220]? = some (.cells #[.int .i64 ((rd_T45 l0_1 x8_1).f0), .string ((rd_T45 l0_1 x8_1).f1)] 45 (0, 0))) := ⟨by (with_reducible repeat (first | refine blk_drewN ?_ _ | refine blk_drew ?_ | refine blk_alloc ?_ _)); refine blk_put (cs := #[.int .i64 ((rd_T45 l0_1 x8_1).f0), .string (⟨#[]⟩ : ByteArray)]) ?_ 1 _ rfl; (with_reducible repeat (first | refine blk_drewN ?_ _ | refine blk_drew ?_ | refine blk_alloc ?_ _)); refine blk_put (cs := #[.int .i64 0, .string (⟨#[]⟩ : ByteArray)]) ?_ 0 _ rfl; (with_reducible repeat (first | refine blk_drewN ?_ _ | refine blk_drew ?_ | refine blk_alloc ?_ _)); exact BK220.out⟩
        have n2_ : Aside0 (Below w.heap.size w ((w26.setCell ⟨gb220, 0, none⟩ (.int .i64 ((rd_T45 l0_1 x8_1).f0))).setCell ⟨gb220, 1, none⟩ (.string ((rd_T45 l0_1 x8_1).f1)))) := ⟨bG⟩
        (try clear BK218)
        (try clear BK220)
        (try clear HB)
        generalize ((w26.setCell ⟨gb220, 0, none⟩ (.int .i64 ((rd_T45 l0_1 x8_1).f0))).setCell ⟨gb220, 1, none⟩ (.string ((rd_T45 l0_1 x8_1).f1))) = w29 at n0_ n1_ n2_ ⊢
        have BK218 := n0_
        have BK220 := n1_
        have HB := n2_
        clear n0_ n1_ n2_
        have n0_ := Aside0.mk (blk_drew BK218.out)
        have n1_ := Aside0.mk (blk_drew BK220.out)
        have n2_ := Aside0.mk (below_drew1 HB.out)
        clear BK218
        clear BK220
        clear HB
        have BK218 := n0_
        have BK220 := n1_
        have HB := n2_
        clear n0_ n1_ n2_
        refine start_ (n := 22) (S := fun w' => w'.cell? ⟨gb220, 0, none⟩ = some (.int .i64 ((rd_T45 l0_1 x8_1).f0)) ∧ w'.cell? ⟨gb220, 1, none⟩ = some (.string ((rd_T45 l0_1 x8_1).f1))) (ds := []) #[false, false, false, false, false, false, false, false, false, false, false, false, false, false, false, false, false, false, false, false, false, false] (by kernel_rfl) rfl rfl ⟨(blk_cell BK220.out 0).trans rfl, (blk_cell BK220.out 1).trans rfl⟩ (fun hHeld => ?_); refine with_tabW impl_MsgOk.tab4 impl_MsgOk.bits4 (fun HT_ HW_ => ?_)
        generalize w29.drew = w30 at BK218 BK220 HB hHeld ⊢
        refine pure_ (i := 0) (N := some 13) (v := ?_) (a' := ?_) #[true, false, false, false, false, false, false, false, false, false, false, false, false, false, false, false, false, false, false, false, false, false] rfl rfl (any_of HT_.out (by kernel_rfl)) (fun _ _ _ h => h) (Or.inl ⟨by rfl, ?_⟩) ?_ ?_
        rotate_left
        ·intro w'
         go_simp
         with_reducible rfl
        rotate_left
        ·simp only [Act.put, List.setIfInBounds_toArray, List.set_cons_zero, List.set_cons_succ, i64_w, i32_w]
         rfl
        refine pure_ (i := 2) (N := some 15) (v := ?_) (a' := ?_) #[true, false, true, false, false, false, false, false, false, false, false, false, false, false, false, false, false, false, false, false, false, false] rfl rfl (any_of HT_.out (by kernel_rfl)) (fun _ _ _ h => h) (Or.inl ⟨by rfl, ?_⟩) ?_ ?_
        rotate_left
        ·intro w'
         go_simp
         with_reducible rfl
        rotate_left
        ·simp only [Act.put, List.setIfInBounds_toArray, List.set_cons_zero, List.set_cons_succ, i64_w, i32_w]
         rfl
        refine take_ (i := 1) (N := some 14) (v := ?_) (a' := ?_) #[true, true, true, false, false, false, false, false, false, false, false, false, false, false, false, false, false, false, false, false, false, false] rfl rfl (take_ofW HT_.out HW_.out (by kernel_rfl)) (fun _ _ _ h => h) (Or.inl ⟨by rfl, ?_⟩) hHeld ?_ ?_
        rotate_left
        ·rintro w' ⟨s0, s1⟩
         go_simp
         with_reducible rfl
        rotate_left
        ·simp only [Act.put, List.setIfInBounds_toArray, List.set_cons_zero, List.set_cons_succ, i64_w, i32_w]
         rfl
        refine take_ (i := 3) (N := some 16) (v := ?_) (a' := ?_) #[true, true, true, true, false, false, false, false, false, false, false, false, false, false, false, false, false, false, false, false, false, false] rfl rfl (take_ofW HT_.out HW_.out (by kernel_rfl)) (fun _ _ _ h => h) (Or.inl ⟨by rfl, ?_⟩) hHeld ?_ ?_
        rotate_left
        ·rintro w' ⟨s0, s1⟩
         go_simp
         with_reducible rfl
        rotate_left
        ·simp only [Act.put, List.setIfInBounds_toArray, List.set_cons_zero, List.set_cons_succ, i64_w, i32_w]
         rfl
        refine one_ (i := 4) (N := some 17) #[true, true, true, true, true, false, false, false, false, false, false, false, false, false, false, false, false, false, false, false, false, false] rfl rfl (one_of HT_.out (by kernel_rfl)) (by decide) (fun K hK => ?_)
        refine goes_ Try.func36 (by kernel_rfl) rfl #[.int .i64 ((rd_T45 l0_1 x8_1).f0), .string ((rd_T45 l0_1 x8_1).f1)] (by rfl) rfl rfl (by (try simp only [List.map_toArray, List.map_cons, List.map_nil]); first | done | rfl | (simp only [List.length_drop, List.length_take]; rfl)) ?_
        with_reducible refine (impl_FieldOk.calls k1 ((rd_T45 l0_1 x8_1).f0) ((rd_T45 l0_1 x8_1).f1) true _ A7.out).mono ?_
        rintro e w31 ⟨rfl, hb⟩
        refine ⟨_, rfl, ?_⟩
        have n0_ := Aside0.mk (blk_below (g := gb218) (o := .cells #[.string a0_0, .slice (some ad219) l0_1.length c0_1] 28 (0, 0)) (kA BK218.out) hb)
        have n1_ := Aside0.mk (blk_below (g := gb220) (o := .cells #[.int .i64 ((rd_T45 l0_1 x8_1).f0), .string ((rd_T45 l0_1 x8_1).f1)] 45 (0, 0)) (kA BK220.out) hb)
        have n2_ := Aside0.mk (below_step bG hb)
        clear BK218
        clear BK220
        clear HB
        have BK218 := n0_
        have BK220 := n1_
        have HB := n2_
        clear n0_ n1_ n2_
        (try clear hb)
        (try clear hb2)
        (try clear hk)
        (try clear hi)
        refine hK.out _ _ ⟨(blk_cell BK220.out 0).trans rfl, (blk_cell BK220.out 1).trans rfl⟩ (fun hHeld => ?_)
        clear hK K
        refine norm_ (a' := ?_) ?_ ?_
        rotate_left
        ·show Act.put _ (some 17) _ = _
         simp only [Act.put, List.setIfInBounds_toArray, List.set_cons_zero, List.set_cons_succ, i64_w, i32_w]
         rfl
        refine pure_ (i := 5) (N := some 18) (v := ?_) (a' := ?_) #[true, true, true, true, true, true, false, false, false, false, false, false, false, false, false, false, false, false, false, false, false, false] rfl rfl (any_of HT_.out (by kernel_rfl)) (fun _ _ _ h => h) (Or.inl ⟨by rfl, ?_⟩) ?_ ?_
        rotate_left
        ·intro w'
         go_simp
         with_reducible rfl
        rotate_left
        ·simp only [Act.put, List.setIfInBounds_toArray, List.set_cons_zero, List.set_cons_succ, i64_w, i32_w]
         rfl
        refine pure_ (i := 6) (N := some 19) (v := ?_) (a' := ?_) #[true, true, true, true, true, true, true, false, false, false, false, false, false, false, false, false, false, false, false, false, false, false] rfl rfl (any_of HT_.out (by kernel_rfl)) (fun _ _ _ h => h) (Or.inl ⟨by rfl, ?_⟩) ?_ ?_
        rotate_left
        ·intro w'
         go_simp
         with_reducible rfl
        rotate_left
        ·simp only [Act.put, List.setIfInBounds_toArray, List.set_cons_zero, List.set_cons_succ, i64_w, i32_w]
         rfl
        refine pure_ (i := 7) (N := some 20) (v := ?_) (a' := ?_) #[true, true, true, true, true, true, true, true, false, false, false, false, false, false, false, false, false, false, false, false, false, false] rfl rfl (any_of HT_.out (by kernel_rfl)) (fun _ _ _ h => h) (Or.inl ⟨by rfl, ?_⟩) ?_ ?_
        rotate_left
        ·intro w'
         go_simp
         with_reducible rfl
        rotate_left
        ·simp only [Act.put, List.setIfInBounds_toArray, List.set_cons_zero, List.set_cons_succ, i64_w, i32_w]
         rfl
        refine pure_ (i := 8) (N := some 21) (v := ?_) (a' := ?_) #[true, true, true, true, true, true, true, true, true, false, false, false, false, false, false, false, false, false, false, false, false, false] rfl rfl (any_of HT_.out (by kernel_rfl)) (fun _ _ _ h => h) (Or.inl ⟨by rfl, ?_⟩) ?_ ?_
        rotate_left
        ·intro w'
         go_simp
         with_reducible rfl
        rotate_left
        ·simp only [Act.put, List.setIfInBounds_toArray, List.set_cons_zero, List.set_cons_succ, i64_w, i32_w]
         rfl
        refine pure_ (i := 9) (N := some 22) (v := ?_) (a' := ?_) #[true, true, true, true, true, true, true, true, true, true, false, false, false, false, false, false, false, false, false, false, false, false] rfl rfl (any_of HT_.out (by kernel_rfl)) (fun _ _ _ h => h) (Or.inl ⟨by rfl, ?_⟩) ?_ ?_
        rotate_left
        ·intro w'
         go_simp
         with_reducible rfl
        rotate_left
        ·simp only [Act.put, List.setIfInBounds_toArray, List.set_cons_zero, List.set_cons_succ, i64_w, i32_w]
         rfl
        refine pure_ (i := 10) (N := some 23) (v := undef) (a' := ?_) #[true, true, true, true, true, true, true, true, true, true, true, false, false, false, false, false, false, false, false, false, false, false] rfl rfl (any_of HT_.out (by kernel_rfl)) (fun _ _ _ h => h) (Or.inr ⟨by rfl, rfl⟩) ?_ ?_
        rotate_left
        ·simp only [Act.put, List.setIfInBounds_toArray, List.set_cons_zero, List.set_cons_succ, i64_w, i32_w]
         rfl
        refine pure_ (i := 11) (N := some 24) (v := undef) (a' := ?_) #[true, true, true, true, true, true, true, true, true, true, true, true, false, false, false, false, false, false, false, false, false, false] rfl rfl (any_of HT_.out (by kernel_rfl)) (fun _ _ _ h => h) (Or.inr ⟨by rfl, rfl⟩) ?_ ?_
        rotate_left
        ·simp only [Act.put, List.setIfInBounds_toArray, List.set_cons_zero, List.set_cons_succ, i64_w, i32_w]
         rfl
        refine pure_ (i := 12) (N := some 25) (v := undef) (a' := ?_) #[true, true, true, true, true, true, true, true, true, true, true, true, true, false, false, false, false, false, false, false, false, false] rfl rfl (any_of HT_.out (by kernel_rfl)) (fun _ _ _ h => h) (Or.inr ⟨by rfl, rfl⟩) ?_ ?_
        rotate_left
        ·simp only [Act.put, List.setIfInBounds_toArray, List.set_cons_zero, List.set_cons_succ, i64_w, i32_w]
         rfl
        refine pure_ (i := 13) (N := some 26) (v := undef) (a' := ?_) #[true, true, true, true, true, true, true, true, true, true, true, true, true, true, false, false, false, false, false, false, false, false] rfl rfl (any_of HT_.out (by kernel_rfl)) (fun _ _ _ h => h) (Or.inr ⟨by rfl, rfl⟩) ?_ ?_
        rotate_left
        ·simp only [Act.put, List.setIfInBounds_toArray, List.set_cons_zero, List.set_cons_succ, i64_w, i32_w]
         rfl
        refine pure_ (i := 14) (N := some 27) (v := undef) (a' := ?_) #[true, true, true, true, true, true, true, true, true, true, true, true, true, true, true, false, false, false, false, false, false, false] rfl rfl (any_of HT_.out (by kernel_rfl)) (fun _ _ _ h => h) (Or.inr ⟨by rfl, rfl⟩) ?_ ?_
        rotate_left
        ·simp only [Act.put, List.setIfInBounds_toArray, List.set_cons_zero, List.set_cons_succ, i64_w, i32_w]
         rfl
        refine pure_ (i := 15) (N := some 28) (v := undef) (a' := ?_) #[true, true, true, true, true, true, true, true, true, true, true, true, true, true, true, true, false, false, false, false, false, false] rfl rfl (any_of HT_.out (by kernel_rfl)) (fun _ _ _ h => h) (Or.inr ⟨by rfl, rfl⟩) ?_ ?_
        rotate_left
        ·simp only [Act.put, List.setIfInBounds_toArray, List.set_cons_zero, List.set_cons_succ, i64_w, i32_w]
         rfl
        refine pure_ (i := 16) (N := some 29) (v := undef) (a' := ?_) #[true, true, true, true, true, true, true, true, true, true, true, true, true, true, true, true, true, false, false, false, false, false] rfl rfl (any_of HT_.out (by kernel_rfl)) (fun _ _ _ h => h) (Or.inr ⟨by rfl, rfl⟩) ?_ ?_
        rotate_left
        ·simp only [Act.put, List.setIfInBounds_toArray, List.set_cons_zero, List.set_cons_succ, i64_w, i32_w]
         rfl
        refine pure_ (i := 17) (N := some 30) (v := undef) (a' := ?_) #[true, true, true, true, true, true, true, true, true, true, true, true, true, true, true, true, true, true, false, false, false, false] rfl rfl (any_of HT_.out (by kernel_rfl)) (fun _ _ _ h => h) (Or.inr ⟨by rfl, rfl⟩) ?_ ?_
        rotate_left
        ·simp only [Act.put, List.setIfInBounds_toArray, List.set_cons_zero, List.set_cons_succ, i64_w, i32_w]
         rfl
        refine pure_ (i := 18) (N := some 31) (v := undef) (a' := ?_) #[true, true, true, true, true, true, true, true, true, true, true, true, true, true, true, true, true, true, true, false, false, false] rfl rfl (any_of HT_.out (by kernel_rfl)) (fun _ _ _ h => h) (Or.inr ⟨by rfl, rfl⟩) ?_ ?_
        rotate_left
        ·simp only [Act.put, List.setIfInBounds_toArray, List.set_cons_zero, List.set_cons_succ, i64_w, i32_w]
         rfl
        refine pure_ (i := 19) (N := some 32) (v := undef) (a' := ?_) #[true, true, true, true, true, true, true, true, true, true, true, true, true, true, true, true, true, true, true, true, false, false] rfl rfl (any_of HT_.out (by kernel_rfl)) (fun _ _ _ h => h) (Or.inr ⟨by rfl, rfl⟩) ?_ ?_
        rotate_left
        ·simp only [Act.put, List.setIfInBounds_toArray, List.set_cons_zero, List.set_cons_succ, i64_w, i32_w]
         rfl
        refine pure_ (i := 20) (N := some 33) (v := ?_) (a' := ?_) #[true, true, true, true, true, true, true, true, true, true, true, true, true, true, true, true, true, true, true, true, true, false] rfl rfl (any_of HT_.out (by kernel_rfl)) (fun _ _ _ h => h) (Or.inl ⟨by rfl, ?_⟩) ?_ ?_
        rotate_left
        ·intro w'
         go_simp
         with_reducible rfl
        rotate_left
        ·simp only [Act.put, List.setIfInBounds_toArray, List.set_cons_zero, List.set_cons_succ, i64_w, i32_w]
         rfl
        refine pure_ (i := 21) (N := some 34) (v := ?_) (a' := ?_) #[true, true, true, true, true, true, true, true, true, true, true, true, true, true, true, true, true, true, true, true, true, true] rfl rfl (any_of HT_.out (by kernel_rfl)) (fun _ _ _ h => h) (Or.inl ⟨by rfl, ?_⟩) ?_ ?_
        rotate_left
        ·intro w'
         go_simp
         with_reducible rfl
        rotate_left
        ·simp only [Act.put, List.setIfInBounds_toArray, List.set_cons_zero, List.set_cons_succ, i64_w, i32_w]
         rfl
        refine done_ (done_of HT_.out (by kernel_rfl)) ?_
        try go_wp2
        go_roundg k1
        case measure => have := HK1.out; omega
        case rel => exact ⟨(wrap64 (x8_1 + 1)), (by first | rfl | (simp; done) | (simp [*]; done) | (simp [i64_w, IntKind.wrap_u8, e256_]; done) | (simp; generalize ByteArray.toList _ = zz_; cases zz_ <;> rfl)), H', ⟨by have := HK1.out; omega⟩, ⟨kA BK218.out⟩, ⟨bG⟩⟩
      ·replace c8 := Bool.eq_false_iff.mpr c8
       subst c8
       have H1 : (some false) = some r := by rw [if_neg (show ¬ (false = true) by decide)] at H; exact H
       clear H
       have H := H1
       clear H1
       obtain rfl := Option.some.inj H
       have p219 : 0 ≤ (x8_1 : Int) := of_decide_eq_true (by first | (with_reducible assumption) | assumption)
       have q219 : x8_1 < (l0_1.length : Int) := of_decide_eq_true (by first | (with_reducible assumption) | assumption)
       obtain ⟨ad219, e219, hx219_0, hx219_1⟩ := at_T45 HR0_1.out x8_1 p219 q219
       cases e219
       replace hx219_0 := (HB.out.cell (World.block_lt_of_cell? w _ hx219_0)).trans hx219_0
       replace hx219_1 := (HB.out.cell (World.block_lt_of_cell? w _ hx219_1)).trans hx219_1
       replace p219 := eq_true p219
       replace q219 := eq_true q219
       try go_wp2_with (first | ((with_reducible refine gate_dst (N := 4) rfl ?_); refine box_event ?hg (N := 4) ?hd (cs := #[.int .i64 0, .string (⟨#[]⟩ : ByteArray)]) (t := 45) ?hr ?_; (case hd => rfl); (case hg => rfl); (case hr => first | (go_simp; done) | (go_simp; rfl)); intro gb220 hg w32 hbox hb; have n0_ := Aside0.mk (blk_below (g := gb218) (o := .cells #[.string a0_0, .slice (some ad219) l0_1.length c0_1] 28 (0, 0)) (kA BK218.out) hb); have n1_ := Aside0.mk (below_step bG hb); have n2_ := Aside0.mk (hbox); have n3_ := Aside0.mk ((by rw [hg]; exact (below_size bG) : w.heap.size ≤ gb220)); have n4_ := Aside0.mk ((by rw [hg]; exact (below_size bG) : w.heap.size ≤ gb220)); have n5_ := Aside0.mk ((by rw [hg]; exact Nat.ne_of_lt (blk_lt (g := gb218) (o := .cells #[.string a0_0, .slice (some ad219) l0_1.length c0_1] 28 (0, 0)) (kA BK218.out)) : gb218 ≠ gb220)); have n6_ := Aside0.mk ((by rw [hg]; exact Nat.ne_of_gt (blk_lt (g := gb218) (o := .cells #[.string a0_0, .slice (some ad219) l0_1.length c0_1] 28 (0, 0)) (kA BK218.out)) : gb220 ≠ gb218)); clear BK218; clear HB; have BK218 := n0_; have HB := n1_; have BK220 := n2_; have GW220 := n3_; have GE220 := n4_; have NB218_220 := n5_; have NB220_218 := n6_; clear n0_ n1_ n2_ n3_ n4_ n5_ n6_; clear hb hbox hg; have hnb33 := NB220_218.out; have hnc33 := NB218_220.out; have hcz34_0 : w32.cell? ⟨gb220, 0, none⟩ = some (.int .i64 0) := (blk_cell BK220.out 0).trans rfl; have hcz34_1 : w32.cell? ⟨gb220, 1, none⟩ = some (.string (⟨#[]⟩ : ByteArray)) := (blk_cell BK220.out 1).trans rfl; have hfz34_0 := blk_frozen BK220.out 0; have hfz34_1 := blk_frozen BK220.out 1))
       have n0_ : Aside0 (((w32.setCell ⟨gb220, 0, none⟩ (.int .i64 ((rd_T45 l0_1 x8_1).f0))).setCell ⟨gb220, 1, none⟩ (.string ((rd_T45 l0_1 x8_1).f1))).heap[gb218]? = some (.cells #[.string a0_0, .slice (some ad219) l0_1.length c0_1] 28 (0, 0))) := ⟨by (with_reducible repeat (first | refine blk_drewN ?_ _ | refine blk_drew ?_ | refine blk_alloc ?_ _)); refine blk_far ?_ NB218_220.out _; (with_reducible repeat (first | refine blk_drewN ?_ _ | refine blk_drew ?_ | refine blk_alloc ?_ _)); refine blk_far ?_ NB218_220.out _; (with_reducible repeat (first | refine blk_drewN ?_ _ | refine blk_drew ?_ | refine blk_alloc ?_ _)); exact BK218.out⟩
       have n1_ : Aside0 (((w32.setCell ⟨gb220, 0, none⟩ (.int .i64 ((rd_T45 l0_1 x8_1).f0))).setCell ⟨gb220, 1, none⟩ (.string ((rd_T45 l0_1 x8_1).f1))).heap[gb220]? = some (.cells #[.int .i64 ((rd_T45 l0_1 x8_1).f0), .string ((rd_T45 l0_1 x8_1).f1)] 45 (0, 0))) := ⟨by (with_reducible repeat (first | refine blk_drewN ?_ _ | refine blk_drew ?_ | refine blk_alloc ?_ _)); refine blk_put (cs := #[.int .i64 ((rd_T45 l0_1 x8_1).f0), .string (⟨#[]⟩ : ByteArray)]) ?_ 1 _ rfl; (with_reducible repeat (first | refine blk_drewN ?_ _ | refine blk_drew ?_ | refine blk_alloc ?_ _)); refine blk_put (cs := #[.int .i64 0, .string (⟨#[]⟩ : ByteArray)]) ?_ 0 _ rfl; (with_reducible repeat (first | refine blk_drewN ?_ _ | refine blk_drew ?_ | refine blk_alloc ?_ _)); exact BK220.out⟩
       have n2_ : Aside0 (Below w.heap.size w ((w32.setCell ⟨gb220, 0, none⟩ (.int .i64 ((rd_T45 l0_1 x8_1).f0))).setCell ⟨gb220, 1, none⟩ (.string ((rd_T45 l0_1 x8_1).f1)))) := ⟨bG⟩
       (try clear BK218)
       (try clear BK220)
       (try clear HB)
       generalize ((w32.setCell ⟨gb220, 0, none⟩ (.int .i64 ((rd_T45 l0_1 x8_1).f0))).setCell ⟨gb220, 1, none⟩ (.string ((rd_T45 l0_1 x8_1).f1))) = w35 at n0_ n1_ n2_ ⊢
       have BK218 := n0_
       have BK220 := n1_
       have HB := n2_
       clear n0_ n1_ n2_
       have n0_ := Aside0.mk (blk_drew BK218.out)
       have n1_ := Aside0.mk (blk_drew BK220.out)
       have n2_ := Aside0.mk (below_drew1 HB.out)
       clear BK218
       clear BK220
       clear HB
       have BK218 := n0_
       have BK220 := n1_
       have HB := n2_
       clear n0_ n1_ n2_
       refine start_ (n := 22) (S := fun w' => w'.cell? ⟨gb220, 0, none⟩ = some (.int .i64 ((rd_T45 l0_1 x8_1).f0)) ∧ w'.cell? ⟨gb220, 1, none⟩ = some (.string ((rd_T45 l0_1 x8_1).f1))) (ds := []) #[false, false, false, false, false, false, false, false, false, false, false, false, false, false, false, false, false, false, false, false, false, false] (by kernel_rfl) rfl rfl ⟨(blk_cell BK220.out 0).trans rfl, (blk_cell BK220.out 1).trans rfl⟩ (fun hHeld => ?_); refine with_tabW impl_MsgOk.tab4 impl_MsgOk.bits4 (fun HT_ HW_ => ?_)
       generalize w35.drew = w36 at BK218 BK220 HB hHeld ⊢
       refine pure_ (i := 0) (N := some 13) (v := ?_) (a' := ?_) #[true, false, false, false, false, false, false, false, false, false, false, false, false, false, false, false, false, false, false, false, false, false] rfl rfl (any_of HT_.out (by kernel_rfl)) (fun _ _ _ h => h) (Or.inl ⟨by rfl, ?_⟩) ?_ ?_
       rotate_left
       ·intro w'
        go_simp
        with_reducible rfl
       rotate_left
       ·simp only [Act.put, List.setIfInBounds_toArray, List.set_cons_zero, List.set_cons_succ, i64_w, i32_w]
        rfl
       refine pure_ (i := 2) (N := some 15) (v := ?_) (a' := ?_) #[true, false, true, false, false, false, false, false, false, false, false, false, false, false, false, false, false, false, false, false, false, false] rfl rfl (any_of HT_.out (by kernel_rfl)) (fun _ _ _ h => h) (Or.inl ⟨by rfl, ?_⟩) ?_ ?_
       rotate_left
       ·intro w'
        go_simp
        with_reducible rfl
       rotate_left
       ·simp only [Act.put, List.setIfInBounds_toArray, List.set_cons_zero, List.set_cons_succ, i64_w, i32_w]
        rfl
       refine take_ (i := 1) (N := some 14) (v := ?_) (a' := ?_) #[true, true, true, false, false, false, false, false, false, false, false, false, false, false, false, false, false, false, false, false, false, false] rfl rfl (take_ofW HT_.out HW_.out (by kernel_rfl)) (fun _ _ _ h => h) (Or.inl ⟨by rfl, ?_⟩) hHeld ?_ ?_
       rotate_left
       ·rintro w' ⟨s0, s1⟩
        go_simp
        with_reducible rfl
       rotate_left
       ·simp only [Act.put, List.setIfInBounds_toArray, List.set_cons_zero, List.set_cons_succ, i64_w, i32_w]
        rfl
       refine take_ (i := 3) (N := some 16) (v := ?_) (a' := ?_) #[true, true, true, true, false, false, false, false, false, false, false, false, false, false, false, false, false, false, false, false, false, false] rfl rfl (take_ofW HT_.out HW_.out (by kernel_rfl)) (fun _ _ _ h => h) (Or.inl ⟨by rfl, ?_⟩) hHeld ?_ ?_
       rotate_left
       ·rintro w' ⟨s0, s1⟩
        go_simp
        with_reducible rfl
       rotate_left
       ·simp only [Act.put, List.setIfInBounds_toArray, List.set_cons_zero, List.set_cons_succ, i64_w, i32_w]
        rfl
       refine one_ (i := 4) (N := some 17) #[true, true, true, true, true, false, false, false, false, false, false, false, false, false, false, false, false, false, false, false, false, false] rfl rfl (one_of HT_.out (by kernel_rfl)) (by decide) (fun K hK => ?_)
       refine goes_ Try.func36 (by kernel_rfl) rfl #[.int .i64 ((rd_T45 l0_1 x8_1).f0), .string ((rd_T45 l0_1 x8_1).f1)] (by rfl) rfl rfl (by (try simp only [List.map_toArray, List.map_cons, List.map_nil]); first | done | rfl | (simp only [List.length_drop, List.length_take]; rfl)) ?_
       with_reducible refine (impl_FieldOk.calls k1 ((rd_T45 l0_1 x8_1).f0) ((rd_T45 l0_1 x8_1).f1) false _ A7.out).mono ?_
       rintro e w37 ⟨rfl, hb⟩
       refine ⟨_, rfl, ?_⟩
       have n0_ := Aside0.mk (blk_below (g := gb218) (o := .cells #[.string a0_0, .slice (some ad219) l0_1.length c0_1] 28 (0, 0)) (kA BK218.out) hb)
       have n1_ := Aside0.mk (blk_below (g := gb220) (o := .cells #[.int .i64 ((rd_T45 l0_1 x8_1).f0), .string ((rd_T45 l0_1 x8_1).f1)] 45 (0, 0)) (kA BK220.out) hb)
       have n2_ := Aside0.mk (below_step bG hb)
       clear BK218
       clear BK220
       clear HB
       have BK218 := n0_
       have BK220 := n1_
       have HB := n2_
       clear n0_ n1_ n2_
       (try clear hb)
       (try clear hb2)
       (try clear hk)
       (try clear hi)
       refine hK.out _ _ ⟨(blk_cell BK220.out 0).trans rfl, (blk_cell BK220.out 1).trans rfl⟩ (fun hHeld => ?_)
       clear hK K
       refine norm_ (a' := ?_) ?_ ?_
       rotate_left
       ·show Act.put _ (some 17) _ = _
        simp only [Act.put, List.setIfInBounds_toArray, List.set_cons_zero, List.set_cons_succ, i64_w, i32_w]
        rfl
       refine pure_ (i := 5) (N := some 18) (v := ?_) (a' := ?_) #[true, true, true, true, true, true, false, false, false, false, false, false, false, false, false, false, false, false, false, false, false, false] rfl rfl (any_of HT_.out (by kernel_rfl)) (fun _ _ _ h => h) (Or.inl ⟨by rfl, ?_⟩) ?_ ?_
       rotate_left
       ·intro w'
        go_simp
        with_reducible rfl
       rotate_left
       ·simp only [Act.put, List.setIfInBounds_toArray, List.set_cons_zero, List.set_cons_succ, i64_w, i32_w]
        rfl
       refine pure_ (i := 6) (N := some 19) (v := ?_) (a' := ?_) #[true, true, true, true, true, true, true, false, false, false, false, false, false, false, false, false, false, false, false, false, false, false] rfl rfl (any_of HT_.out (by kernel_rfl)) (fun _ _ _ h => h) (Or.inl ⟨by rfl, ?_⟩) ?_ ?_
       rotate_left
       ·intro w'
        go_simp
        with_reducible rfl
       rotate_left
       ·simp only [Act.put, List.setIfInBounds_toArray, List.set_cons_zero, List.set_cons_succ, i64_w, i32_w]
        rfl
       refine pure_ (i := 7) (N := some 20) (v := undef) (a' := ?_) #[true, true, true, true, true, true, true, true, false, false, false, false, false, false, false, false, false, false, false, false, false, false] rfl rfl (any_of HT_.out (by kernel_rfl)) (fun _ _ _ h => h) (Or.inr ⟨by rfl, rfl⟩) ?_ ?_
       rotate_left
       ·simp only [Act.put, List.setIfInBounds_toArray, List.set_cons_zero, List.set_cons_succ, i64_w, i32_w]
        rfl
       refine pure_ (i := 8) (N := some 21) (v := undef) (a' := ?_) #[true, true, true, true, true, true, true, true, true, false, false, false, false, false, false, false, false, false, false, false, false, false] rfl rfl (any_of HT_.out (by kernel_rfl)) (fun _ _ _ h => h) (Or.inr ⟨by rfl, rfl⟩) ?_ ?_
       rotate_left
       ·simp only [Act.put, List.setIfInBounds_toArray, List.set_cons_zero, List.set_cons_succ, i64_w, i32_w]
        rfl
       refine pure_ (i := 9) (N := some 22) (v := undef) (a' := ?_) #[true, true, true, true, true, true, true, true, true, true, false, false, false, false, false, false, false, false, false, false, false, false] rfl rfl (any_of HT_.out (by kernel_rfl)) (fun _ _ _ h => h) (Or.inr ⟨by rfl, rfl⟩) ?_ ?_
       rotate_left
       ·simp only [Act.put, List.setIfInBounds_toArray, List.set_cons_zero, List.set_cons_succ, i64_w, i32_w]
        rfl
       refine pure_ (i := 10) (N := some 23) (v := undef) (a' := ?_) #[true, true, true, true, true, true, true, true, true, true, true, false, false, false, false, false, false, false, false, false, false, false] rfl rfl (any_of HT_.out (by kernel_rfl)) (fun _ _ _ h => h) (Or.inr ⟨by rfl, rfl⟩) ?_ ?_
       rotate_left
       ·simp only [Act.put, List.setIfInBounds_toArray, List.set_cons_zero, List.set_cons_succ, i64_w, i32_w]
        rfl
       refine pure_ (i := 11) (N := some 24) (v := undef) (a' := ?_) #[true, true, true, true, true, true, true, true, true, true, true, true, false, false, false, false, false, false, false, false, false, false] rfl rfl (any_of HT_.out (by kernel_rfl)) (fun _ _ _ h => h) (Or.inr ⟨by rfl, rfl⟩) ?_ ?_
       rotate_left
       ·simp only [Act.put, List.setIfInBounds_toArray, List.set_cons_zero, List.set_cons_succ, i64_w, i32_w]
        rfl
       refine pure_ (i := 12) (N := some 25) (v := undef) (a' := ?_) #[true, true, true, true, true, true, true, true, true, true, true, true, true, false, false, false, false, false, false, false, false, false] rfl rfl (any_of HT_.out (by kernel_rfl)) (fun _ _ _ h => h) (Or.inr ⟨by rfl, rfl⟩) ?_ ?_
       rotate_left
       ·simp only [Act.put, List.setIfInBounds_toArray, List.set_cons_zero, List.set_cons_succ, i64_w, i32_w]
        rfl
       refine pure_ (i := 13) (N := some 26) (v := undef) (a' := ?_) #[true, true, true, true, true, true, true, true, true, true, true, true, true, true, false, false, false, false, false, false, false, false] rfl rfl (any_of HT_.out (by kernel_rfl)) (fun _ _ _ h => h) (Or.inr ⟨by rfl, rfl⟩) ?_ ?_
       rotate_left
       ·simp only [Act.put, List.setIfInBounds_toArray, List.set_cons_zero, List.set_cons_succ, i64_w, i32_w]
        rfl
       refine pure_ (i := 14) (N := some 27) (v := undef) (a' := ?_) #[true, true, true, true, true, true, true, true, true, true, true, true, true, true, true, false, false, false, false, false, false, false] rfl rfl (any_of HT_.out (by kernel_rfl)) (fun _ _ _ h => h) (Or.inr ⟨by rfl, rfl⟩) ?_ ?_
       rotate_left
       ·simp only [Act.put, List.setIfInBounds_toArray, List.set_cons_zero, List.set_cons_succ, i64_w, i32_w]
        rfl
       refine pure_ (i := 15) (N := some 28) (v := undef) (a' := ?_) #[true, true, true, true, true, true, true, true, true, true, true, true, true, true, true, true, false, false, false, false, false, false] rfl rfl (any_of HT_.out (by kernel_rfl)) (fun _ _ _ h => h) (Or.inr ⟨by rfl, rfl⟩) ?_ ?_
       rotate_left
       ·simp only [Act.put, List.setIfInBounds_toArray, List.set_cons_zero, List.set_cons_succ, i64_w, i32_w]
        rfl
       refine pure_ (i := 16) (N := some 29) (v := undef) (a' := ?_) #[true, true, true, true, true, true, true, true, true, true, true, true, true, true, true, true, true, false, false, false, false, false] rfl rfl (any_of HT_.out (by kernel_rfl)) (fun _ _ _ h => h) (Or.inr ⟨by rfl, rfl⟩) ?_ ?_
       rotate_left
       ·simp only [Act.put, List.setIfInBounds_toArray, List.set_cons_zero, List.set_cons_succ, i64_w, i32_w]
        rfl
       refine pure_ (i := 17) (N := some 30) (v := undef) (a' := ?_) #[true, true, true, true, true, true, true, true, true, true, true, true, true, true, true, true, true, true, false, false, false, false] rfl rfl (any_of HT_.out (by kernel_rfl)) (fun _ _ _ h => h) (Or.inr ⟨by rfl, rfl⟩) ?_ ?_
       rotate_left
       ·simp only [Act.put, List.setIfInBounds_toArray, List.set_cons_zero, List.set_cons_succ, i64_w, i32_w]
        rfl
       refine pure_ (i := 18) (N := some 31) (v := undef) (a' := ?_) #[true, true, true, true, true, true, true, true, true, true, true, true, true, true, true, true, true, true, true, false, false, false] rfl rfl (any_of HT_.out (by kernel_rfl)) (fun _ _ _ h => h) (Or.inr ⟨by rfl, rfl⟩) ?_ ?_
       rotate_left
       ·simp only [Act.put, List.setIfInBounds_toArray, List.set_cons_zero, List.set_cons_succ, i64_w, i32_w]
        rfl
       refine pure_ (i := 19) (N := some 32) (v := undef) (a' := ?_) #[true, true, true, true, true, true, true, true, true, true, true, true, true, true, true, true, true, true, true, true, false, false] rfl rfl (any_of HT_.out (by kernel_rfl)) (fun _ _ _ h => h) (Or.inr ⟨by rfl, rfl⟩) ?_ ?_
       rotate_left
       ·simp only [Act.put, List.setIfInBounds_toArray, List.set_cons_zero, List.set_cons_succ, i64_w, i32_w]
        rfl
       refine pure_ (i := 20) (N := some 33) (v := undef) (a' := ?_) #[true, true, true, true, true, true, true, true, true, true, true, true, true, true, true, true, true, true, true, true, true, false] rfl rfl (any_of HT_.out (by kernel_rfl)) (fun _ _ _ h => h) (Or.inr ⟨by rfl, rfl⟩) ?_ ?_
       rotate_left
       ·simp only [Act.put, List.setIfInBounds_toArray, List.set_cons_zero, List.set_cons_succ, i64_w, i32_w]
        rfl
       refine pure_ (i := 21) (N := some 34) (v := ?_) (a' := ?_) #[true, true, true, true, true, true, true, true, true, true, true, true, true, true, true, true, true, true, true, true, true, true] rfl rfl (any_of HT_.out (by kernel_rfl)) (fun _ _ _ h => h) (Or.inl ⟨by rfl, ?_⟩) ?_ ?_
       rotate_left
       ·intro w'
        go_simp
        with_reducible rfl
       rotate_left
       ·simp only [Act.put, List.setIfInBounds_toArray, List.set_cons_zero, List.set_cons_succ, i64_w, i32_w]
        rfl
       refine done_ (done_of HT_.out (by kernel_rfl)) ?_
       try go_wp2
       go_ret
       exact ⟨by first | rfl | (simp [errW_none, errW_some] <;> rfl) | (simp [*, errW_none, errW_some] <;> rfl), bG⟩
     ·rw [if_neg c6] at H
      exact absurd H (by simp)
    ·rw [if_neg c5] at H
     exact absurd H (by simp)
   ·rw [if_neg c4] at H
    have c4b0 : decide (x8_1 < (l0_1.length : Int)) = false := decide_eq_false c4
    clear c4
    replace H := Option.bind_eq_some_iff.mp H
    obtain ⟨t223, A380, H⟩ := H
    replace H : (some t223) = some r := H
    have A38 := Aside0.mk A380
    clear A380
    obtain rfl := Option.some.inj H
    have hcz39_0 : wr.cell? ⟨gb218, 0, none⟩ = some (.string a0_0) := (blk_cell BK218.out 0).trans rfl
    have hcz39_1 : wr.cell? ⟨gb218, 1, none⟩ = some (.slice A0_1 l0_1.length c0_1) := (blk_cell BK218.out 1).trans rfl
    have hfz39_0 := blk_frozen BK218.out 0
    have hfz39_1 := blk_frozen BK218.out 1
    go_wp2_with (first | ((with_reducible refine gate_callee (f := 37) rfl ?_); refine goesM_ (some 38) rfl rfl Try.func37 (by kernel_rfl) rfl #[.string a0_0, .int .i64 4] rfl ?_; (with_reducible refine (impl_isWide.calls k1 a0_0 4 t223 _ A38.out).mono ?_); rintro e w' ⟨rfl, ⟨nd, rfl⟩⟩; refine ⟨_, rfl, ?_⟩))
    go_ret
    exact ⟨by first | rfl | (simp [errW_none, errW_some] <;> rfl) | (simp [*, errW_none, errW_some] <;> rfl), bG⟩
end Go.Proofs.Ytnnnglbjipiclaa.Q
end
section
namespace Go.Proofs.Ytnnnglbjipiclaa.Q
open Go.RowKit Go.Proofs.YtnnnglbjipiclaaW.PrintWords Go.Proofs.YtnnnglbjipiclaaW.PrintLast Go.Proofs.YtnnnglbjipiclaaW.PrintMore
set_option linter.unusedVariables false
set_option linter.unusedSimpArgs false
structure RInv (w0 w : World) (m : ByteArray) (V : Value) (mt : ByteArray) (g4 g8 g10 : Nat) (v : Value) (xs : List S45) (u : Value) (ns : List Int) : Prop where
  b4 : w.heap[g4]? = some (.cells #[.string m, V] 28 (0, 0))
  b8 : w.heap[g8]? = some (.cells #[.string (⟨#[]⟩ : ByteArray), .slice none 0 0] 28 (0, 0))
  b10 : w.heap[g10]? = some (.cells #[.string mt, v] 28 (0, 0))
  hv : Kd.R k45 45 w w0.heap.size (fun _ => True) v xs
  hu : Kd.R (Kd.int .i64) 3 w w0.heap.size (fun _ => True) u ns
  bel : Below w0.heap.size w0 w
theorem RInv.below {w0 w w1 : World} {m : ByteArray} {V : Value} {mt : ByteArray} {g4 g8 g10 : Nat} {v : Value} {xs : List S45} {u : Value} {ns : List Int} (h : RInv w0 w m V mt g4 g8 g10 v xs u ns) (hb : Below w.heap.size w w1) : RInv w0 w1 m V mt g4 g8 g10 v xs u ns :=
  ⟨blk_below h.b4 hb, blk_below h.b8 hb, blk_below h.b10 hb, Kd.R_below h.hv hb, Kd.R_below h.hu hb, below_step h.bel hb⟩
set_option maxHeartbeats 8000000 in
set_option maxRecDepth 100000 in
theorem put_calls (w0 w : World) (m : ByteArray) (V : Value) (mt : ByteArray) (g4 g8 g10 : Nat) (v : Value) (xs : List S45) (u : Value) (ns : List Int) (no : Int) (s : ByteArray) (h : RInv w0 w m V mt g4 g8 g10 v xs u ns) (h4 : g4 ≠ g10) (h8 : g8 ≠ g10) (hg : w0.heap.size ≤ g10) (hl : xs.length < 1000) :
    Calls Try.prog 22 #[.int .i64 no, .string s, .pointer (some ⟨g10, 0, none⟩)] w fun e w' => e = .returned (.tuple #[]) ∧ ∃ v', RInv w0 w' m V mt g4 g8 g10 v' (xs ++ [(⟨no, s⟩ : S45)]) u ns := by
  obtain ⟨b4, b8, b10, hv, hu, bel⟩ := h
  have hcz0 : w.cell? ⟨g10, 0, none⟩ = some (.string mt) := (blk_cell b10 0).trans rfl
  have hcz1 : w.cell? ⟨g10, 1, none⟩ = some v := (blk_cell b10 1).trans rfl
  have hfz0 := blk_frozen b10 0
  have hfz1 := blk_frozen b10 1
  have hu28 := Try.underlying28
  have hu45 := Try.underlying45
  have B4 := Aside0.mk b4
  have B8 := Aside0.mk b8
  have B10 := Aside0.mk b10
  have HV := Aside0.mk hv
  have HU := Aside0.mk hu
  have HB := Aside0.mk bel
  have HL := Aside0.mk hl
  obtain ⟨y, hy⟩ : ∃ y_ : List S45, y_ = xs ++ [(⟨no, s⟩ : S45)] := ⟨_, rfl⟩
  have HY := Aside0.mk hy
  rw [← hy]
  have H4 := Aside0.mk h4
  have H8 := Aside0.mk h8
  have HG := Aside0.mk hg
  clear b4 b8 b10 hv hu bel hl hy h4 h8 hg
  go_enter Try.func22, Try.ntmps22
  go_wp2_with (first | ((with_reducible refine gate_builtin (b := .append) (xs := #[.tmp 6, .tmp 10]) rfl ?_); at_builtin; refine Kd.R_append k45 (w0 := w0) w0.heap.size rfl (.tmp 6) (.tmp 10) 26 45 (.agg #[(.int .i64 0), (.string ⟨#[]⟩)]) 24 rfl Try.underlying26 info45 rfl (by decide) (by omega) v xs (⟨no, s⟩ : S45) [.int .i64 no, .string s] (fun _ => True) (fun _ => False) rfl rfl ?aP (fun _ hk => hk.elim) ?aF ?aO ?aB ?aS ?aL ?_; (case aP => exact k45_mkM _ _ _ (⟨no, s⟩ : S45)); (case aB => exact (by repeat (first | (with_reducible first | exact HB.out | apply below_alloc | apply pw_below_drewN | apply below_drew1) | exact HB.out))); (case aF => exact (fun _ _ => trivial)); (case aO => exact (by (with_reducible repeat (first | apply Kd.R_alloc | apply Kd.R_drewN | apply Kd.R_drew)); exact HV.out)); (case aS => exact (below_size (by repeat (first | (with_reducible first | exact HB.out | apply below_alloc | apply pw_below_drewN | apply below_drew1) | exact HB.out)))); (case aL => have := HL.out; omega); intro v1 w1 ho hb hg hat; rw [← HY.out] at ho; have n0_ := Aside0.mk (Kd.R_over' (by (with_reducible repeat (first | apply Kd.R_alloc | apply Kd.R_drewN | apply Kd.R_drew)); exact HU.out) (Kd.R_typed (by (with_reducible repeat (first | apply Kd.R_alloc | apply Kd.R_drewN | apply Kd.R_drew)); exact HV.out)) (by decide) hg); have n1_ := Aside0.mk (blk_grown (g := g4) (o := .cells #[.string m, V] 28 (0, 0)) (by (with_reducible repeat (first | refine blk_drewN ?_ _ | refine blk_drew ?_ | refine blk_alloc ?_ _)); exact B4.out) hg (Kd.R_ne HV.out B4.out (by decide))); have n2_ := Aside0.mk (blk_grown (g := g8) (o := .cells #[.string (⟨#[]⟩ : ByteArray), .slice none 0 0] 28 (0, 0)) (by (with_reducible repeat (first | refine blk_drewN ?_ _ | refine blk_drew ?_ | refine blk_alloc ?_ _)); exact B8.out) hg (Kd.R_ne HV.out B8.out (by decide))); have n3_ := Aside0.mk (blk_grown (g := g10) (o := .cells #[.string mt, v] 28 (0, 0)) (by (with_reducible repeat (first | refine blk_drewN ?_ _ | refine blk_drew ?_ | refine blk_alloc ?_ _)); exact B10.out) hg (Kd.R_ne HV.out B10.out (by decide))); have n4_ := Aside0.mk hb; have n5_ := Aside0.mk ho; clear HU B4 B8 B10 HB; have HU := n0_; have B4 := n1_; have B8 := n2_; have B10 := n3_; have HB := n4_; have HO := n5_; clear n0_ n1_ n2_ n3_ n4_ n5_; clear ho hb hg hat; obtain ⟨Ao, co, eo⟩ := Kd.R_slice HO.out; subst eo; have hcy0 : w1.cell? ⟨g10, 0, none⟩ = some (.string mt) := (blk_cell B10.out 0).trans rfl; have hcy1 : w1.cell? ⟨g10, 1, none⟩ = some v := (blk_cell B10.out 1).trans rfl; have hfy0 := blk_frozen B10.out 0; have hfy1 := blk_frozen B10.out 1))
  go_end0
  refine ⟨rfl, .slice Ao y.length co, ?_, ?_, ?_, ?_, ?_, ?_⟩
  · (with_reducible repeat (first | refine blk_drewN ?_ _ | refine blk_drew ?_ | refine blk_alloc ?_ _))
    refine blk_far ?_ H4.out _
    (with_reducible repeat (first | refine blk_drewN ?_ _ | refine blk_drew ?_ | refine blk_alloc ?_ _))
    exact B4.out
  · (with_reducible repeat (first | refine blk_drewN ?_ _ | refine blk_drew ?_ | refine blk_alloc ?_ _))
    refine blk_far ?_ H8.out _
    (with_reducible repeat (first | refine blk_drewN ?_ _ | refine blk_drew ?_ | refine blk_alloc ?_ _))
    exact B8.out
  · (with_reducible repeat (first | refine blk_drewN ?_ _ | refine blk_drew ?_ | refine blk_alloc ?_ _))
    refine blk_put (cs := #[.string mt, v]) ?_ 1 _ rfl
    (with_reducible repeat (first | refine blk_drewN ?_ _ | refine blk_drew ?_ | refine blk_alloc ?_ _))
    exact B10.out
  · (with_reducible repeat (first | apply Kd.R_alloc | apply Kd.R_drewN | apply Kd.R_drew))
    exact Kd.R_mono (Kd.R_far (p := ⟨g10, 1, none⟩) (Kd.R_types HO.out B10.out (by decide)) (fun _ hk => hk.2) (.slice Ao y.length co)) (fun _ hk => trivial)
  · (with_reducible repeat (first | apply Kd.R_alloc | apply Kd.R_drewN | apply Kd.R_drew))
    exact Kd.R_mono (Kd.R_far (p := ⟨g10, 1, none⟩) (Kd.R_types HU.out B10.out (by decide)) (fun _ hk => hk.2) (.slice Ao y.length co)) (fun _ hk => trivial)
  · repeat (first | (with_reducible first | exact HB.out | apply below_alloc | apply pw_below_drewN | apply below_drew1 | refine below_set ?_ HG.out) | exact HB.out)
theorem w64 {i : Int} (h0 : 0 ≤ i) (h : i ≤ 140737488351232) : wrap64 (i + 1) = i + 1 := by
  unfold wrap64
  omega
theorem drop_bt (s : ByteArray) (n : Nat) (h : n < s.size) : (bytesOf s).drop n = bt s (n : Int) :: (bytesOf s).drop (n + 1) := by
  have hl : n < (bytesOf s).length := by rw [bytesOf_length]; exact h
  rw [List.drop_eq_getElem_cons hl]
  congr 1
  rw [← rd_bytesOf]
  unfold rd
  simp [List.getD, hl]
theorem drop_rd (l : List Int) (n : Nat) (h : n < l.length) : l.drop n = rd l (n : Int) :: l.drop (n + 1) := by
  rw [List.drop_eq_getElem_cons h]
  congr 1
  unfold rd
  simp [List.getD, h]
theorem w64id {i : Int} (h0 : -9223372036854775808 ≤ i) (h : i ≤ 9223372036854775807) : wrap64 i = i := by
  unfold wrap64
  omega
theorem rd_nat (l : List Int) (n : Nat) (h : n < l.length) : rd l (n : Int) = l[n] := by
  unfold rd
  simp [List.getD, h]
theorem rd_mem (l : List Int) (n : Nat) (h : n < l.length) : rd l (n : Int) ∈ l := by
  rw [rd_nat l n h]
  exact List.getElem_mem h
theorem later {α : Type} {g : Nat → Option α} {r : α} {k0 : Nat} (hm : ∀ k, LeO (g k) (g (k + 1))) (h : g k0 = some r) (k : Nat) (hk : k0 ≤ k) : g k = some r :=
  at_rounds hm hk h
def kindOf (x : Int) : Int := if x = 2 then 3 else if x = 3 ∨ x = 4 ∨ x = 7 ∨ x = 11 ∨ x = 14 ∨ x = 49 then 1 else if x = 37 ∨ x = 38 ∨ x = 39 ∨ x = 41 ∨ x = 95 then 2 else if x = 102 ∨ x = 103 then 4 else if x = 48 ∨ x = 54 then 5 else 0
def sizeOf_ (x : Int) : Int := if x = 2 then 19 else if x = 3 ∨ x = 11 ∨ x = 38 then 6 else if x = 4 ∨ x = 37 ∨ x = 95 then 12 else if x = 7 then 10 else if x = 14 then 4 else if x = 39 then 2 else if x = 41 then 8 else if x = 49 then 3 else if x = 102 ∨ x = 103 then 20 else if x = 48 ∨ x = 54 then 60 else 0
theorem nos_cases (P : Int → Prop) (h2 : P 2) (h3 : P 3) (h4 : P 4) (h7 : P 7) (h11 : P 11) (h14 : P 14) (h37 : P 37) (h38 : P 38) (h39 : P 39) (h41 : P 41) (h48 : P 48) (h49 : P 49) (h54 : P 54) (h95 : P 95) (h102 : P 102) (h103 : P 103)
    (hno : ∀ x : Int, ¬ x = 2 → ¬ x = 3 → ¬ x = 4 → ¬ x = 7 → ¬ x = 11 → ¬ x = 14 → ¬ x = 37 → ¬ x = 38 → ¬ x = 39 → ¬ x = 41 → ¬ x = 48 → ¬ x = 49 → ¬ x = 54 → ¬ x = 95 → ¬ x = 102 → ¬ x = 103 → P x) (x : Int) : P x := by
  by_cases e2 : x = 2
  · subst e2; exact h2
  by_cases e3 : x = 3
  · subst e3; exact h3
  by_cases e4 : x = 4
  · subst e4; exact h4
  by_cases e7 : x = 7
  · subst e7; exact h7
  by_cases e11 : x = 11
  · subst e11; exact h11
  by_cases e14 : x = 14
  · subst e14; exact h14
  by_cases e37 : x = 37
  · subst e37; exact h37
  by_cases e38 : x = 38
  · subst e38; exact h38
  by_cases e39 : x = 39
  · subst e39; exact h39
  by_cases e41 : x = 41
  · subst e41; exact h41
  by_cases e48 : x = 48
  · subst e48; exact h48
  by_cases e49 : x = 49
  · subst e49; exact h49
  by_cases e54 : x = 54
  · subst e54; exact h54
  by_cases e95 : x = 95
  · subst e95; exact h95
  by_cases e102 : x = 102
  · subst e102; exact h102
  by_cases e103 : x = 103
  · subst e103; exact h103
  exact hno x e2 e3 e4 e7 e11 e14 e37 e38 e39 e41 e48 e49 e54 e95 e102 e103
theorem rowOf_none (x : Int) (l : List S63) (hl : l.length ≤ 1000) (h : ∀ r ∈ l, ¬ r.f0 = x) : ∀ (d n k : Nat), n + d = l.length → d < k →
    impl_rowOf.l0 k x l (l.length : Int) (n : Int) = some (0, 0, 0) := by
  intro d
  induction d with
  | zero =>
    intro n k hd hk
    obtain ⟨k, rfl⟩ : ∃ m, k = m + 1 := ⟨k - 1, by omega⟩
    have c1 : ¬ (n : Int) < (l.length : Int) := by omega
    simp only [impl_rowOf.l0, if_neg c1]
  | succ d ih =>
    intro n k hd hk
    obtain ⟨k, rfl⟩ : ∃ m, k = m + 1 := ⟨k - 1, by omega⟩
    have c1 : (n : Int) < (l.length : Int) := by omega
    have c2 : 0 ≤ (n : Int) := by omega
    have hn : n < l.length := by omega
    have c3 : ¬ (rd_T63 l (n : Int)).f0 = x := by
      have e : rd_T63 l (n : Int) = l[n] := by unfold rd_T63; simp [List.getD, hn]
      rw [e]
      exact h _ (List.getElem_mem hn)
    simp only [impl_rowOf.l0, if_pos c1, if_pos c2, if_neg c3, w64 c2 (by omega)]
    exact ih (n + 1) k (by omega) (by omega)
theorem rowOf_at (x : Int) (k : Nat) (hk : 20 ≤ k) : ∃ y, impl_rowOf.f k x = some (y, kindOf x, sizeOf_ x) := by
  have h : ∃ y, impl_rowOf.f 20 x = some (y, kindOf x, sizeOf_ x) := by
    refine nos_cases (fun x => ∃ y, impl_rowOf.f 20 x = some (y, kindOf x, sizeOf_ x)) ⟨2, by decide +kernel⟩ ⟨3, by decide +kernel⟩ ⟨4, by decide +kernel⟩ ⟨7, by decide +kernel⟩ ⟨11, by decide +kernel⟩ ⟨14, by decide +kernel⟩ ⟨37, by decide +kernel⟩ ⟨38, by decide +kernel⟩ ⟨39, by decide +kernel⟩ ⟨41, by decide +kernel⟩ ⟨48, by decide +kernel⟩ ⟨49, by decide +kernel⟩ ⟨54, by decide +kernel⟩ ⟨95, by decide +kernel⟩ ⟨102, by decide +kernel⟩ ⟨103, by decide +kernel⟩ ?_ x
    intro x e2 e3 e4 e7 e11 e14 e37 e38 e39 e41 e48 e49 e54 e95 e102 e103
    refine ⟨0, ?_⟩
    have hk : kindOf x = 0 := by unfold kindOf; simp [*]
    have hs : sizeOf_ x = 0 := by unfold sizeOf_; simp [*]
    rw [hk, hs]
    obtain ⟨l, hl, hn⟩ : ∃ l, impl_fieldRows.f = some l ∧ l.length = 16 ∧ ∀ r ∈ l, ¬ r.f0 = x := by
      refine ⟨_, rfl, rfl, ?_⟩
      intro r hr
      simp only [List.mem_cons, List.not_mem_nil, or_false] at hr
      rcases hr with rfl | rfl | rfl | rfl | rfl | rfl | rfl | rfl | rfl | rfl | rfl | rfl | rfl | rfl | rfl | rfl <;> (intro h; first | exact e2 h.symm | exact e3 h.symm | exact e4 h.symm | exact e7 h.symm | exact e11 h.symm | exact e14 h.symm | exact e37 h.symm | exact e38 h.symm | exact e39 h.symm | exact e41 h.symm | exact e48 h.symm | exact e49 h.symm | exact e54 h.symm | exact e95 h.symm | exact e102 h.symm | exact e103 h.symm)
    unfold impl_rowOf.f
    rw [hl]
    exact rowOf_none x l (by omega) hn.2 16 0 20 (by omega) (by omega)
  obtain ⟨y, h⟩ := h
  exact ⟨y, later (g := fun k => impl_rowOf.f k x) (fun k => impl_rowOf.mono x k) h k hk⟩
theorem spec_FieldKind_at (x : Int) (k : Nat) (hk : 20 ≤ k) : spec_FieldKind.f k x = some (kindOf x) := by
  refine later (g := fun k => spec_FieldKind.f k x) (fun k => spec_FieldKind.mono x k) ?_ k hk
  show spec_FieldKind.f 20 x = some (kindOf x)
  refine nos_cases (fun x => spec_FieldKind.f 20 x = some (kindOf x)) (by decide +kernel) (by decide +kernel) (by decide +kernel) (by decide +kernel) (by decide +kernel) (by decide +kernel) (by decide +kernel) (by decide +kernel) (by decide +kernel) (by decide +kernel) (by decide +kernel) (by decide +kernel) (by decide +kernel) (by decide +kernel) (by decide +kernel) (by decide +kernel) ?_ x
  intro x e2 e3 e4 e7 e11 e14 e37 e38 e39 e41 e48 e49 e54 e95 e102 e103
  unfold kindOf
  simp [spec_FieldKind.f, spec_FieldKind.j0, spec_FieldKind.j1, spec_FieldKind.j2, *]
theorem spec_FieldSize_at (x : Int) (k : Nat) (hk : 20 ≤ k) : spec_FieldSize.f k x = some (sizeOf_ x) := by
  refine later (g := fun k => spec_FieldSize.f k x) (fun k => spec_FieldSize.mono x k) ?_ k hk
  show spec_FieldSize.f 20 x = some (sizeOf_ x)
  refine nos_cases (fun x => spec_FieldSize.f 20 x = some (sizeOf_ x)) (by decide +kernel) (by decide +kernel) (by decide +kernel) (by decide +kernel) (by decide +kernel) (by decide +kernel) (by decide +kernel) (by decide +kernel) (by decide +kernel) (by decide +kernel) (by decide +kernel) (by decide +kernel) (by decide +kernel) (by decide +kernel) (by decide +kernel) (by decide +kernel) ?_ x
  intro x e2 e3 e4 e7 e11 e14 e37 e38 e39 e41 e48 e49 e54 e95 e102 e103
  unfold sizeOf_
  simp [spec_FieldSize.f, spec_FieldSize.j0, spec_FieldSize.j1, spec_FieldSize.j2, *]
def isDig (c : Int) : Bool := decide (48 ≤ c) && decide (c ≤ 57)
def digs (l : List Int) : Bool := l.all isDig && !l.isEmpty
theorem spec_Digits_l (s : ByteArray) (hs : s.size ≤ 140737488351232) : ∀ (d n k : Nat), n + d = s.size → d < k →
    spec_Digits.l0 k s (n : Int) = some (((bytesOf s).drop n).all isDig && decide (0 < s.size)) := by
  intro d
  induction d with
  | zero =>
    intro n k hd hk
    obtain ⟨k, rfl⟩ : ∃ m, k = m + 1 := ⟨k - 1, by omega⟩
    simp only [spec_Digits.l0]
    rw [if_neg (by omega), List.drop_of_length_le (by rw [bytesOf_length]; omega)]
    simp
  | succ d ih =>
    intro n k hd hk
    obtain ⟨k, rfl⟩ : ∃ m, k = m + 1 := ⟨k - 1, by omega⟩
    simp only [spec_Digits.l0]
    rw [if_pos (by omega), if_pos (by omega), drop_bt s n (by omega), List.all_cons]
    by_cases h1 : bt s (n : Int) < 48
    · rw [if_pos h1]
      have e : isDig (bt s (n : Int)) = false := by unfold isDig; simp; omega
      rw [e]; simp
    · rw [if_neg h1]
      by_cases h2 : bt s (n : Int) > 57
      · rw [if_pos h2]
        have e : isDig (bt s (n : Int)) = false := by unfold isDig; simp; omega
        rw [e]; simp
      · rw [if_neg h2, w64 (by omega) (by omega)]
        have e : isDig (bt s (n : Int)) = true := by unfold isDig; simp; omega
        rw [e, Bool.true_and]
        exact ih (n + 1) k (by omega) (by omega)
theorem digs_eq (s : ByteArray) : ((bytesOf s).all isDig && decide (0 < s.size)) = digs (bytesOf s) := by
  unfold digs
  congr 1
  rw [← bytesOf_length s]
  cases bytesOf s <;> simp
theorem spec_Digits_at (s : ByteArray) (hs : s.size ≤ 140737488351232) (k : Nat) (hk : s.size < k) : spec_Digits.f k s = some (digs (bytesOf s)) := by
  unfold spec_Digits.f
  have h := spec_Digits_l s hs s.size 0 k (by omega) hk
  rw [← digs_eq]
  simpa using h
theorem toList_ne (s : ByteArray) : (s.toList != ([] : List UInt8)) = decide (0 < s.size) := by
  rw [ByteArray.toList_eq, ← data_length s]
  cases s.data.toList <;> simp
theorem impl_Digits_l (s : ByteArray) (hs : s.size ≤ 140737488351232) : ∀ (d n k : Nat), n + d = s.size → d < k →
    impl_Digits.l0 k s (s.size : Int) (n : Int) = some (((bytesOf s).drop n).all isDig && decide (0 < s.size)) := by
  intro d
  induction d with
  | zero =>
    intro n k hd hk
    obtain ⟨k, rfl⟩ : ∃ m, k = m + 1 := ⟨k - 1, by omega⟩
    simp only [impl_Digits.l0]
    rw [if_neg (by omega), List.drop_of_length_le (by rw [bytesOf_length]; omega), toList_ne]
    simp
  | succ d ih =>
    intro n k hd hk
    obtain ⟨k, rfl⟩ : ∃ m, k = m + 1 := ⟨k - 1, by omega⟩
    simp only [impl_Digits.l0]
    rw [if_pos (by omega), if_pos (by omega), if_pos (by omega), drop_bt s n (by omega), List.all_cons]
    by_cases h1 : bt s (n : Int) < 48
    · rw [if_pos h1]
      have e : isDig (bt s (n : Int)) = false := by unfold isDig; simp; omega
      rw [e]; simp
    · rw [if_neg h1]
      by_cases h2 : bt s (n : Int) > 57
      · rw [if_pos h2]
        have e : isDig (bt s (n : Int)) = false := by unfold isDig; simp; omega
        rw [e]; simp
      · rw [if_neg h2, w64 (by omega) (by omega)]
        have e : isDig (bt s (n : Int)) = true := by unfold isDig; simp; omega
        rw [e, Bool.true_and]
        exact ih (n + 1) k (by omega) (by omega)
theorem impl_Digits_at (s : ByteArray) (hs : s.size ≤ 140737488351232) (k : Nat) (hk : s.size < k) : impl_Digits.f k s = some (digs (bytesOf s)) := by
  unfold impl_Digits.f
  have h := impl_Digits_l s hs s.size 0 k (by omega) hk
  rw [← digs_eq]
  simpa using h
def isPri (c : Int) : Bool := decide (32 ≤ c) && decide (c ≤ 126)
theorem spec_Printable_l (s : ByteArray) (hs : s.size ≤ 140737488351232) : ∀ (d n k : Nat), n + d = s.size → d < k →
    spec_Printable.l0 k s (n : Int) = some (((bytesOf s).drop n).all isPri) := by
  intro d
  induction d with
  | zero =>
    intro n k hd hk
    obtain ⟨k, rfl⟩ : ∃ m, k = m + 1 := ⟨k - 1, by omega⟩
    simp only [spec_Printable.l0]
    rw [if_neg (by omega), List.drop_of_length_le (by rw [bytesOf_length]; omega)]
    simp
  | succ d ih =>
    intro n k hd hk
    obtain ⟨k, rfl⟩ : ∃ m, k = m + 1 := ⟨k - 1, by omega⟩
    simp only [spec_Printable.l0]
    rw [if_pos (by omega), if_pos (by omega), drop_bt s n (by omega), List.all_cons]
    by_cases h1 : bt s (n : Int) < 32
    · rw [if_pos h1]
      have e : isPri (bt s (n : Int)) = false := by unfold isPri; simp; omega
      rw [e]; simp
    · rw [if_neg h1]
      by_cases h2 : bt s (n : Int) > 126
      · rw [if_pos h2]
        have e : isPri (bt s (n : Int)) = false := by unfold isPri; simp; omega
        rw [e]; simp
      · rw [if_neg h2, w64 (by omega) (by omega)]
        have e : isPri (bt s (n : Int)) = true := by unfold isPri; simp; omega
        rw [e, Bool.true_and]
        exact ih (n + 1) k (by omega) (by omega)
theorem spec_Printable_at (s : ByteArray) (hs : s.size ≤ 140737488351232) (k : Nat) (hk : s.size < k) : spec_Printable.f k s = some ((bytesOf s).all isPri) := by
  unfold spec_Printable.f
  have h := spec_Printable_l s hs s.size 0 k (by omega) hk
  simpa using h
theorem impl_Printable_l (s : ByteArray) (hs : s.size ≤ 140737488351232) : ∀ (d n k : Nat), n + d = s.size → d < k →
    impl_Printable.l0 k s (s.size : Int) (n : Int) = some (((bytesOf s).drop n).all isPri) := by
  intro d
  induction d with
  | zero =>
    intro n k hd hk
    obtain ⟨k, rfl⟩ : ∃ m, k = m + 1 := ⟨k - 1, by omega⟩
    simp only [impl_Printable.l0]
    rw [if_neg (by omega), List.drop_of_length_le (by rw [bytesOf_length]; omega)]
    simp
  | succ d ih =>
    intro n k hd hk
    obtain ⟨k, rfl⟩ : ∃ m, k = m + 1 := ⟨k - 1, by omega⟩
    simp only [impl_Printable.l0]
    rw [if_pos (by omega), if_pos (by omega), if_pos (by omega), drop_bt s n (by omega), List.all_cons]
    by_cases h1 : bt s (n : Int) < 32
    · rw [if_pos h1]
      have e : isPri (bt s (n : Int)) = false := by unfold isPri; simp; omega
      rw [e]; simp
    · rw [if_neg h1]
      by_cases h2 : bt s (n : Int) > 126
      · rw [if_pos h2]
        have e : isPri (bt s (n : Int)) = false := by unfold isPri; simp; omega
        rw [e]; simp
      · rw [if_neg h2, w64 (by omega) (by omega)]
        have e : isPri (bt s (n : Int)) = true := by unfold isPri; simp; omega
        rw [e, Bool.true_and]
        exact ih (n + 1) k (by omega) (by omega)
theorem impl_Printable_at (s : ByteArray) (hs : s.size ≤ 140737488351232) (k : Nat) (hk : s.size < k) : impl_Printable.f k s = some ((bytesOf s).all isPri) := by
  unfold impl_Printable.f
  have h := impl_Printable_l s hs s.size 0 k (by omega) hk
  simpa using h
def isByte (c : Int) : Prop := 0 ≤ c ∧ c ≤ 255
theorem bytesOf_range (s : ByteArray) : ∀ c ∈ bytesOf s, isByte c := by
  intro c hc
  unfold bytesOf at hc
  obtain ⟨b, _, rfl⟩ := List.mem_map.1 hc
  have := b.toNat_lt
  exact ⟨by omega, by omega⟩
theorem bytesOf_inj {s t : ByteArray} (h : bytesOf s = bytesOf t) : s = t := by
  have e : s.data.toList = t.data.toList := by
    unfold bytesOf at h
    have := congrArg (List.map fun n : Int => UInt8.ofNat n.toNat) h
    simpa [List.map_map, Function.comp_def] using this
  cases s; cases t
  congr 1
  exact Array.toList_inj.1 e
theorem bytesOf_append (s t : ByteArray) : bytesOf (s ++ t) = bytesOf s ++ bytesOf t := by
  unfold bytesOf
  simp
theorem bytesOf_strOfNums (l : List Int) (h : ∀ c ∈ l, isByte c) : bytesOf (strOfNums l) = l := by
  unfold bytesOf
  rw [strOfNums_data, List.map_map]
  have : ∀ c ∈ l, ((fun b : UInt8 => (b.toNat : Int)) ∘ fun n : Int => UInt8.ofNat n.toNat) c = c := by
    intro c hc
    obtain ⟨h0, h1⟩ := h c hc
    have e : (UInt8.ofNat c.toNat).toNat = c.toNat := by simp [UInt8.toNat_ofNat']; omega
    simp only [Function.comp, e]
    omega
  rw [List.map_congr_left this]
  simp
theorem strOfNums_bytesOf (s : ByteArray) : strOfNums (bytesOf s) = s := bytesOf_inj (bytesOf_strOfNums _ (bytesOf_range s))
theorem strOfNums_append (a b : List Int) : strOfNums (a ++ b) = strOfNums a ++ strOfNums b := by
  have e : (strOfNums (a ++ b)).data.toList = (strOfNums a ++ strOfNums b).data.toList := by
    rw [strOfNums_data, ByteArray.toList_data_append, strOfNums_data, strOfNums_data, List.map_append]
  revert e
  generalize strOfNums (a ++ b) = x
  generalize strOfNums a ++ strOfNums b = y
  intro e
  cases x; cases y
  congr 1
  exact Array.toList_inj.1 e
theorem size_eq (s : ByteArray) : s.size = (bytesOf s).length := (bytesOf_length s).symm
theorem bytesOf_extract (s : ByteArray) (a b : Nat) : bytesOf (s.extract a b) = ((bytesOf s).take b).drop a := by
  unfold bytesOf
  rw [ByteArray.data_extract, Array.toList_extract, List.extract_eq_take_drop, List.map_take, List.map_drop, List.drop_take]
theorem bt_eq (s : ByteArray) (i : Int) : bt s i = rd (bytesOf s) i := (rd_bytesOf s i).symm
theorem digs_and (l : List Int) (h : digs l = true) : l.all isDig = true ∧ 0 < l.length := by
  unfold digs at h
  cases l with
  | nil => simp at h
  | cons a t => simpa using h
def fieldOk (x : Int) (l : List Int) : Bool :=
  if kindOf x = 1 then digs l && ((l.length : Int) == sizeOf_ x)
  else if kindOf x = 2 then l.all isPri && ((l.length : Int) == sizeOf_ x)
  else if kindOf x = 3 then digs l && decide ((l.length : Int) ≤ sizeOf_ x)
  else if kindOf x = 4 ∨ kindOf x = 5 then l.all isPri && decide (1 ≤ (l.length : Int) ∧ (l.length : Int) ≤ sizeOf_ x)
  else false
theorem kind_range (x : Int) : 0 ≤ kindOf x ∧ kindOf x ≤ 5 := by
  unfold kindOf
  repeat' split
  all_goals omega
theorem spec_FieldOk_at (x : Int) (s : ByteArray) (hs : s.size ≤ 140737488351232) (k : Nat) (hk : s.size + 22 < k) : spec_FieldOk.f k x s = some (fieldOk x (bytesOf s)) := by
  unfold spec_FieldOk.f fieldOk
  rw [spec_FieldSize_at x k (by omega), spec_FieldKind_at x k (by omega)]
  simp only [Option.bind_some]
  obtain ⟨r0, r1⟩ := kind_range x
  rw [bytesOf_length]
  generalize kindOf x = t at r0 r1
  by_cases h1 : t = 1
  · rw [if_pos h1, if_pos h1, spec_Digits_at s hs k (by omega), Option.bind_some]
    cases digs (bytesOf s) <;> simp
  by_cases h2 : t = 2
  · rw [if_neg h1, if_neg h1, if_pos h2, if_pos h2, spec_Printable_at s hs k (by omega), Option.bind_some]
    cases (bytesOf s).all isPri <;> simp
  by_cases h3 : t = 3
  · rw [if_neg h1, if_neg h1, if_neg h2, if_neg h2, if_pos h3, if_pos h3, spec_Digits_at s hs k (by omega), Option.bind_some]
    cases digs (bytesOf s) <;> simp
  rw [if_neg h1, if_neg h1, if_neg h2, if_neg h2, if_neg h3, if_neg h3]
  obtain ⟨k, rfl⟩ : ∃ m, k = m + 1 := ⟨k - 1, by omega⟩
  have hp := spec_Printable_at s hs k (by omega)
  have hin : spec_l01In.f (s.size : Int) 1 (sizeOf_ x) = some (decide (1 ≤ (s.size : Int) ∧ (s.size : Int) ≤ sizeOf_ x)) := by
    unfold spec_l01In.f
    by_cases h : (s.size : Int) ≥ 1
    · have h' : 1 ≤ (s.size : Int) := h
      rw [if_pos h]; simp only [h', true_and]
    · have h' : ¬ 1 ≤ (s.size : Int) := h
      rw [if_neg h]; simp only [h', false_and, decide_false]
  by_cases h4 : t = 4 ∨ t = 5
  · rw [if_pos h4]
    have e : (if t = 4 then spec_FieldOk.j0 (k + 1) s (sizeOf_ x) (t == 4) else spec_FieldOk.j0 (k + 1) s (sizeOf_ x) (t == 5)) = spec_FieldOk.j0 (k + 1) s (sizeOf_ x) true := by
      rcases h4 with h | h
      · rw [if_pos h, h]; rfl
      · rw [if_neg (by omega), h]; rfl
    rw [e, spec_FieldOk.j0, if_pos rfl, hp, Option.bind_some, hin]
    cases (bytesOf s).all isPri <;> simp
  · rw [if_neg h4]
    have e : (if t = 4 then spec_FieldOk.j0 (k + 1) s (sizeOf_ x) (t == 4) else spec_FieldOk.j0 (k + 1) s (sizeOf_ x) (t == 5)) = spec_FieldOk.j0 (k + 1) s (sizeOf_ x) false := by
      have h5 : ¬ t = 5 := fun h => h4 (Or.inr h)
      rw [if_neg (fun h => h4 (Or.inl h)), show (t == 5) = false from by simpa using h5]
    rw [e, spec_FieldOk.j0, if_neg (by simp)]
theorem impl_FieldOk_at (x : Int) (s : ByteArray) (hs : s.size ≤ 140737488351232) (k : Nat) (hk : s.size + 22 < k) : impl_FieldOk.f k x s = some (fieldOk x (bytesOf s)) := by
  unfold impl_FieldOk.f fieldOk
  obtain ⟨y, hy⟩ := rowOf_at x k (by omega)
  rw [hy, Option.bind_some]
  simp only
  obtain ⟨r0, r1⟩ := kind_range x
  have hl := bytesOf_length s
  rw [hl]
  generalize kindOf x = t at r0 r1
  have hin : impl_within.f (s.size : Int) 1 (sizeOf_ x) = some (decide (1 ≤ (s.size : Int) ∧ (s.size : Int) ≤ sizeOf_ x)) := by
    unfold impl_within.f
    by_cases h : 1 ≤ (s.size : Int)
    · rw [if_pos h]; simp only [h, true_and]
    · rw [if_neg h]; simp only [h, false_and, decide_false]
  by_cases h1 : t = 1
  · rw [if_pos h1, if_pos h1, impl_Digits_at s hs k (by omega), Option.bind_some]
    cases digs (bytesOf s) <;> simp
  by_cases h2 : t = 2
  · rw [if_neg h1, if_neg h1, if_pos h2, if_pos h2, impl_Printable_at s hs k (by omega), Option.bind_some]
    cases (bytesOf s).all isPri <;> simp
  by_cases h3 : t = 3
  · rw [if_neg h1, if_neg h1, if_neg h2, if_neg h2, if_pos h3, if_pos h3, impl_Digits_at s hs k (by omega), Option.bind_some, hin]
    by_cases hg : digs (bytesOf s) = true
    · have := (digs_and _ hg).2
      rw [hl] at this
      have h' : 1 ≤ (s.size : Int) := by omega
      rw [if_pos hg, hg]
      simp only [h', true_and, Option.bind_some, Bool.true_and]
    · rw [if_neg hg]
      simp [hg]
  rw [if_neg h1, if_neg h1, if_neg h2, if_neg h2, if_neg h3, if_neg h3]
  obtain ⟨k, rfl⟩ : ∃ m, k = m + 1 := ⟨k - 1, by omega⟩
  have hp := impl_Printable_at s hs k (by omega)
  by_cases h4 : t = 4 ∨ t = 5
  · rw [if_pos h4]
    have e : (if t = 4 then impl_FieldOk.j0 (k + 1) s (t == 4) y t (sizeOf_ x) else impl_FieldOk.j0 (k + 1) s (t == 5) y t (sizeOf_ x)) = impl_FieldOk.j0 (k + 1) s true y t (sizeOf_ x) := by
      rcases h4 with h | h
      · rw [if_pos h, h]; rfl
      · rw [if_neg (by omega), h]; rfl
    rw [e, impl_FieldOk.j0, if_pos rfl, hp, Option.bind_some, hin]
    cases (bytesOf s).all isPri <;> simp
  · rw [if_neg h4]
    have e : (if t = 4 then impl_FieldOk.j0 (k + 1) s (t == 4) y t (sizeOf_ x) else impl_FieldOk.j0 (k + 1) s (t == 5) y t (sizeOf_ x)) = impl_FieldOk.j0 (k + 1) s false y t (sizeOf_ x) := by
      have h5 : ¬ t = 5 := fun h => h4 (Or.inr h)
      rw [if_neg (fun h => h4 (Or.inl h)), show (t == 5) = false from by simpa using h5]
    rw [e, impl_FieldOk.j0, if_neg (by simp)]
end Go.Proofs.Ytnnnglbjipiclaa.Q
end
section
namespace Go.Proofs.Ytnnnglbjipiclaa.Q
open Go.RowKit Go.Proofs.YtnnnglbjipiclaaW.PrintWords Go.Proofs.YtnnnglbjipiclaaW.PrintLast Go.Proofs.YtnnnglbjipiclaaW.PrintMore
attribute [local go_sem] max2_int min2_int max_two min_two max_three min_three max_four min_four
set_option linter.unusedVariables false
set_option linter.unusedSimpArgs false
def impl_FieldOf.l0 : Nat → Int → List (S45) → Int → Int → Option (ByteArray × Bool)
 | 0, _, _, _, _ => none
 | k + 1, x1, x9, x10, x11 => if x11 < x10 then (if 0 ≤ x11 then (if x11 < (x9.length : Int) then (if ((rd_T45 x9 x11).f0) = x1 then (some ((rd_T45 x9 x11).f1, true)) else (impl_FieldOf.l0 k x1 x9 x10 (wrap64 (x11 + 1)))) else (none)) else (none)) else (some ((⟨#[]⟩ : ByteArray), false))
def impl_FieldOf.f (k : Nat) (a0_0 : ByteArray) (l0_1 : List (S45)) (a1 : Int) : Option (ByteArray × Bool) := impl_FieldOf.l0 k a1 l0_1 (l0_1.length : Int) 0
set_option maxHeartbeats 8000000 in
set_option maxRecDepth 100000 in
theorem impl_FieldOf.calls (k : Nat) (a0_0 : ByteArray) (A0_1 : Option Addr) (c0_1 : Nat) (l0_1 : List (S45)) (a1 : Int) (r1 : ByteArray) (r2 : Bool) (w : World) (hr0_1 : Kd.C k45 w A0_1 l0_1.length l0_1) (hc0_1 : l0_1.length ≤ c0_1) (h : impl_FieldOf.f k a0_0 l0_1 a1 = some (r1, r2)) :
  Calls Try.prog 23 #[.agg #[.string a0_0, .slice A0_1 l0_1.length c0_1], .int .i64 a1] w fun e w' => e = .returned (.tuple #[.string r1, .bool r2]) ∧ Below w.heap.size w w' := by
 have hu28 := Try.underlying28
 have hu45 := Try.underlying45
 have HR0_1 := Aside0.mk hr0_1
 have HC0_1 := Aside0.mk hc0_1
 clear hr0_1 hc0_1
 have HB := Aside0.mk (Below.refl w.heap.size w)
 have H : (impl_FieldOf.l0 k a1 l0_1 (l0_1.length : Int) 0) = some (r1, r2) := h
 clear h
 have H' := Aside0.mk H
 clear H
 go_enter Try.func23, Try.ntmps23
 go_wp2_with (first | ((with_reducible refine gate_dst (N := 2) rfl ?_); refine box_event ?hg (N := 2) ?hd (cs := #[.string a0_0, .slice A0_1 l0_1.length c0_1]) (t := 28) ?hr ?_; (case hd => rfl); (case hg => rfl); (case hr => first | (go_simp; done) | (go_simp; rfl)); intro gb233 hg w3 hbox hb; have n0_ := Aside0.mk (below_step bB hb); have n1_ := Aside0.mk (hbox); have n2_ := Aside0.mk ((by rw [hg]; exact (below_size bB) : w.heap.size ≤ gb233)); have n3_ := Aside0.mk ((by rw [hg]; exact (below_size bB) : w.heap.size ≤ gb233)); clear HB; have HB := n0_; have BK233 := n1_; have GW233 := n2_; have GE233 := n3_; clear n0_ n1_ n2_ n3_; clear hb hbox hg; have hcz4_0 : w3.cell? ⟨gb233, 0, none⟩ = some (.string a0_0) := (blk_cell BK233.out 0).trans rfl; have hcz4_1 : w3.cell? ⟨gb233, 1, none⟩ = some (.slice A0_1 l0_1.length c0_1) := (blk_cell BK233.out 1).trans rfl; have hfz4_0 := blk_frozen BK233.out 0; have hfz4_1 := blk_frozen BK233.out 1))
 go_loopg [11] k (fun kq v11 w' => ∃ (x11_1 : Int), v11 = .int .i64 x11_1 ∧ Aside0 (impl_FieldOf.l0 kq a1 l0_1 (l0_1.length : Int) x11_1 = some (r1, r2)) ∧ Aside0 (kq ≤ k) ∧ Aside0 (w'.heap[gb233]? = some (.cells #[.string a0_0, (.slice A0_1 l0_1.length c0_1)] 28 (0, 0))) ∧ Aside0 (Below w.heap.size w w'))
 case atStart => exact ⟨(0), (by first | rfl | (simp; done) | (simp [*]; done) | (simp [i64_w, IntKind.wrap_u8, e256_]; done) | (simp; generalize ByteArray.toList _ = zz_; cases zz_ <;> rfl)), H', ⟨Nat.le_refl _⟩, ⟨kA BK233.out⟩, ⟨bG⟩⟩
 case round =>
  clear H'
  try clear c2
  try clear p2
  try clear hcz4_0
  try clear hcz4_1
  try clear hfz4_0
  try clear hfz4_1
  obtain ⟨x11_1, rfl, HA, HK1, BK233, HB⟩ := hrel
  cases gk with
  | zero => exact absurd HA.out (by simp [impl_FieldOf.l0])
  | succ k1 =>
   have H := HA.out
   clear HA
   simp only [impl_FieldOf.l0] at H
   by_cases c5 : x11_1 < (l0_1.length : Int)
   ·rw [if_pos c5] at H
    have c5b0 : decide (x11_1 < (l0_1.length : Int)) = true := decide_eq_true c5
    clear c5
    by_cases c6 : 0 ≤ x11_1
    ·rw [if_pos c6] at H
     have c6b0 : decide (0 ≤ x11_1) = true := decide_eq_true c6
     clear c6
     by_cases c7 : x11_1 < (l0_1.length : Int)
     ·rw [if_pos c7] at H
      have c7b0 : decide (x11_1 < (l0_1.length : Int)) = true := decide_eq_true c7
      clear c7
      by_cases c8 : ((rd_T45 l0_1 x11_1).f0) = a1
      ·rw [if_pos c8] at H
       have c8b0 : (((rd_T45 l0_1 x11_1).f0) == a1) = true := beq_iff_eq.mpr c8
       have c8b1 : (((rd_T45 l0_1 x11_1).f0) != a1) = false := bne_eq_false_iff_eq.mpr c8
       clear c8
       simp only [Option.some.injEq, Prod.mk.injEq] at H
       obtain ⟨rfl, rfl⟩ := H
       have p234 : 0 ≤ (x11_1 : Int) := of_decide_eq_true (by first | (with_reducible assumption) | assumption)
       have q234 : x11_1 < (l0_1.length : Int) := of_decide_eq_true (by first | (with_reducible assumption) | assumption)
       obtain ⟨ad234, e234, hx234_0, hx234_1⟩ := at_T45 HR0_1.out x11_1 p234 q234
       cases e234
       replace hx234_0 := (HB.out.cell (World.block_lt_of_cell? w _ hx234_0)).trans hx234_0
       replace hx234_1 := (HB.out.cell (World.block_lt_of_cell? w _ hx234_1)).trans hx234_1
       replace p234 := eq_true p234
       replace q234 := eq_true q234
       go_wp2_with (first | ((with_reducible refine gate_dst (N := 7) rfl ?_); refine box_event ?hg (N := 7) ?hd (cs := #[.int .i64 0, .string (⟨#[]⟩ : ByteArray)]) (t := 45) ?hr ?_; (case hd => rfl); (case hg => rfl); (case hr => first | (go_simp; done) | (go_simp; rfl)); intro gb235 hg w9 hbox hb; have n0_ := Aside0.mk (blk_below (g := gb233) (o := .cells #[.string a0_0, .slice (some ad234) l0_1.length c0_1] 28 (0, 0)) (kA BK233.out) hb); have n1_ := Aside0.mk (below_step bG hb); have n2_ := Aside0.mk (hbox); have n3_ := Aside0.mk ((by rw [hg]; exact (below_size bG) : w.heap.size ≤ gb235)); have n4_ := Aside0.mk ((by rw [hg]; exact (below_size bG) : w.heap.size ≤ gb235)); have n5_ := Aside0.mk ((by rw [hg]; exact Nat.ne_of_lt (blk_lt (g := gb233) (o := .cells #[.string a0_0, .slice (some ad234) l0_1.length c0_1] 28 (0, 0)) (kA BK233.out)) : gb233 ≠ gb235)); have n6_ := Aside0.mk ((by rw [hg]; exact Nat.ne_of_gt (blk_lt (g := gb233) (o := .cells #[.string a0_0, .slice (some ad234) l0_1.length c0_1] 28 (0, 0)) (kA BK233.out)) : gb235 ≠ gb233)); clear BK233; clear HB; have BK233 := n0_; have HB := n1_; have BK235 := n2_; have GW235 := n3_; have GE235 := n4_; have NB233_235 := n5_; have NB235_233 := n6_; clear n0_ n1_ n2_ n3_ n4_ n5_ n6_; clear hb hbox hg; have hnb10 := NB235_233.out; have hnc10 := NB233_235.out; have hcz11_0 : w9.cell? ⟨gb235, 0, none⟩ = some (.int .i64 0) := (blk_cell BK235.out 0).trans rfl; have hcz11_1 : w9.cell? ⟨gb235, 1, none⟩ = some (.string (⟨#[]⟩ : ByteArray)) := (blk_cell BK235.out 1).trans rfl; have hfz11_0 := blk_frozen BK235.out 0; have hfz11_1 := blk_frozen BK235.out 1))
       go_ret2
       exact ⟨by first | rfl | (simp [errW_none, errW_some] <;> rfl) | (simp [*, errW_none, errW_some] <;> rfl), bG⟩
      ·rw [if_neg c8] at H
       have c8b0 : (((rd_T45 l0_1 x11_1).f0) == a1) = false := beq_eq_false_iff_ne.mpr c8
       have c8b1 : (((rd_T45 l0_1 x11_1).f0) != a1) = true := bne_iff_ne.mpr c8
       have H' := Aside0.mk H
       clear H
       have p234 : 0 ≤ (x11_1 : Int) := of_decide_eq_true (by first | (with_reducible assumption) | assumption)
       have q234 : x11_1 < (l0_1.length : Int) := of_decide_eq_true (by first | (with_reducible assumption) | assumption)
       obtain ⟨ad234, e234, hx234_0, hx234_1⟩ := at_T45 HR0_1.out x11_1 p234 q234
       cases e234
       replace hx234_0 := (HB.out.cell (World.block_lt_of_cell? w _ hx234_0)).trans hx234_0
       replace hx234_1 := (HB.out.cell (World.block_lt_of_cell? w _ hx234_1)).trans hx234_1
       replace p234 := eq_true p234
       replace q234 := eq_true q234
       go_wp2_with (first | ((with_reducible refine gate_dst (N := 7) rfl ?_); refine box_event ?hg (N := 7) ?hd (cs := #[.int .i64 0, .string (⟨#[]⟩ : ByteArray)]) (t := 45) ?hr ?_; (case hd => rfl); (case hg => rfl); (case hr => first | (go_simp; done) | (go_simp; rfl)); intro gb235 hg w12 hbox hb; have n0_ := Aside0.mk (blk_below (g := gb233) (o := .cells #[.string a0_0, .slice (some ad234) l0_1.length c0_1] 28 (0, 0)) (kA BK233.out) hb); have n1_ := Aside0.mk (below_step bG hb); have n2_ := Aside0.mk (hbox); have n3_ := Aside0.mk ((by rw [hg]; exact (below_size bG) : w.heap.size ≤ gb235)); have n4_ := Aside0.mk ((by rw [hg]; exact (below_size bG) : w.heap.size ≤ gb235)); have n5_ := Aside0.mk ((by rw [hg]; exact Nat.ne_of_lt (blk_lt (g := gb233) (o := .cells #[.string a0_0, .slice (some ad234) l0_1.length c0_1] 28 (0, 0)) (kA BK233.out)) : gb233 ≠ gb235)); have n6_ := Aside0.mk ((by rw [hg]; exact Nat.ne_of_gt (blk_lt (g := gb233) (o := .cells #[.string a0_0, .slice (some ad234) l0_1.length c0_1] 28 (0, 0)) (kA BK233.out)) : gb235 ≠ gb233)); clear BK233; clear HB; have BK233 := n0_; have HB := n1_; have BK235 := n2_; have GW235 := n3_; have GE235 := n4_; have NB233_235 := n5_; have NB235_233 := n6_; clear n0_ n1_ n2_ n3_ n4_ n5_ n6_; clear hb hbox hg; have hnb13 := NB235_233.out; have hnc13 := NB233_235.out; have hcz14_0 : w12.cell? ⟨gb235, 0, none⟩ = some (.int .i64 0) := (blk_cell BK235.out 0).trans rfl; have hcz14_1 : w12.cell? ⟨gb235, 1, none⟩ = some (.string (⟨#[]⟩ : ByteArray)) := (blk_cell BK235.out 1).trans rfl; have hfz14_0 := blk_frozen BK235.out 0; have hfz14_1 := blk_frozen BK235.out 1))
       go_roundg k1
       case measure => have := HK1.out; omega
       case rel => exact ⟨(wrap64 (x11_1 + 1)), (by first | rfl | (simp; done) | (simp [*]; done) | (simp [i64_w, IntKind.wrap_u8, e256_]; done) | (simp; generalize ByteArray.toList _ = zz_; cases zz_ <;> rfl)), H', ⟨by have := HK1.out; omega⟩, ⟨by (with_reducible repeat (first | refine blk_drewN ?_ _ | refine blk_drew ?_ | refine blk_alloc ?_ _)); refine blk_far ?_ NB233_235.out _; (with_reducible repeat (first | refine blk_drewN ?_ _ | refine blk_drew ?_ | refine blk_alloc ?_ _)); refine blk_far ?_ NB233_235.out _; (with_reducible repeat (first | refine blk_drewN ?_ _ | refine blk_drew ?_ | refine blk_alloc ?_ _)); exact BK233.out⟩, ⟨bG⟩⟩
     ·rw [if_neg c7] at H
      exact absurd H (by simp)
    ·rw [if_neg c6] at H
     exact absurd H (by simp)
   ·rw [if_neg c5] at H
    have c5b0 : decide (x11_1 < (l0_1.length : Int)) = false := decide_eq_false c5
    clear c5
    simp only [Option.some.injEq, Prod.mk.injEq] at H
    obtain ⟨rfl, rfl⟩ := H
    go_wp2
    go_ret2
    exact ⟨by first | rfl | (simp [errW_none, errW_some] <;> rfl) | (simp [*, errW_none, errW_some] <;> rfl), bG⟩
def impl_FieldSize.f (k : Nat) (a0 : Int) : Option (Int) := (impl_rowOf.f k a0).bind fun bt236 => (some bt236.2.2)
set_option maxHeartbeats 8000000 in
set_option maxRecDepth 100000 in
theorem impl_FieldSize.calls (k : Nat) (a0 : Int) (r : Int) (w : World) (h : impl_FieldSize.f k a0 = some r) :
  Calls Try.prog 40 #[.int .i64 a0] w fun e w' => e = .returned (.int .i64 r) ∧ Below w.heap.size w w' := by
 have hfd63_2 : ∀ (x0_ x1_ x2_ : Value) (W : World), (Instr.field 63 (.agg #[x0_, x1_, x2_]) 2).run Try.prog W = .ok (x2_) W := fun _ _ _ _ => by kernel_rfl
 have HB := Aside0.mk (Below.refl w.heap.size w)
 have H : ((impl_rowOf.f k a0).bind fun bt236 => (some bt236.2.2)) = some r := h
 clear h
 replace H := Option.bind_eq_some_iff.mp H
 obtain ⟨⟨t236, t237, t238⟩, A20, H⟩ := H
 replace H : (some t238) = some r := H
 have A2 := Aside0.mk A20
 clear A20
 obtain rfl := Option.some.inj H
 go_enter Try.func40, Try.ntmps40
 go_wp2_with (first | ((with_reducible refine gate_callee (f := 45) rfl ?_); refine goesM_ (some 4) rfl rfl Try.func45 (by kernel_rfl) rfl #[.int .i64 a0] rfl ?_; (with_reducible refine (impl_rowOf.calls k a0 t236 t237 t238 _ A2.out).mono ?_); rintro e w3 ⟨rfl, hb⟩; refine ⟨_, rfl, ?_⟩; have n0_ := Aside0.mk (below_step bB hb); clear HB; have HB := n0_; clear n0_; (try clear hb); (try clear hb2); (try clear hk); (try clear hi)))
 go_ret
 exact ⟨by first | rfl | (simp [errW_none, errW_some] <;> rfl) | (simp [*, errW_none, errW_some] <;> rfl), bB⟩
def impl_FieldKind.f (k : Nat) (a0 : Int) : Option (Int) := (impl_rowOf.f k a0).bind fun bt239 => (some bt239.2.1)
set_option maxHeartbeats 8000000 in
set_option maxRecDepth 100000 in
theorem impl_FieldKind.calls (k : Nat) (a0 : Int) (r : Int) (w : World) (h : impl_FieldKind.f k a0 = some r) :
  Calls Try.prog 41 #[.int .i64 a0] w fun e w' => e = .returned (.int .i64 r) ∧ Below w.heap.size w w' := by
 have hfd63_1 : ∀ (x0_ x1_ x2_ : Value) (W : World), (Instr.field 63 (.agg #[x0_, x1_, x2_]) 1).run Try.prog W = .ok (x1_) W := fun _ _ _ _ => by kernel_rfl
 have HB := Aside0.mk (Below.refl w.heap.size w)
 have H : ((impl_rowOf.f k a0).bind fun bt239 => (some bt239.2.1)) = some r := h
 clear h
 replace H := Option.bind_eq_some_iff.mp H
 obtain ⟨⟨t239, t240, t241⟩, A20, H⟩ := H
 replace H : (some t240) = some r := H
 have A2 := Aside0.mk A20
 clear A20
 obtain rfl := Option.some.inj H
 go_enter Try.func41, Try.ntmps41
 go_wp2_with (first | ((with_reducible refine gate_callee (f := 45) rfl ?_); refine goesM_ (some 4) rfl rfl Try.func45 (by kernel_rfl) rfl #[.int .i64 a0] rfl ?_; (with_reducible refine (impl_rowOf.calls k a0 t239 t240 t241 _ A2.out).mono ?_); rintro e w3 ⟨rfl, hb⟩; refine ⟨_, rfl, ?_⟩; have n0_ := Aside0.mk (below_step bB hb); clear HB; have HB := n0_; clear n0_; (try clear hb); (try clear hb2); (try clear hk); (try clear hi)))
 go_ret
 exact ⟨by first | rfl | (simp [errW_none, errW_some] <;> rfl) | (simp [*, errW_none, errW_some] <;> rfl), bB⟩
end Go.Proofs.Ytnnnglbjipiclaa.Q
end
section
namespace Go.Proofs.Ytnnnglbjipiclaa.Q
open Go.RowKit Go.Proofs.YtnnnglbjipiclaaW.PrintWords Go.Proofs.YtnnnglbjipiclaaW.PrintLast Go.Proofs.YtnnnglbjipiclaaW.PrintMore
set_option linter.unusedVariables false
set_option linter.unusedSimpArgs false
theorem impl_FieldKind_at (x : Int) (k : Nat) (hk : 20 ≤ k) : impl_FieldKind.f k x = some (kindOf x) := by
  obtain ⟨y, h⟩ := rowOf_at x k hk
  unfold impl_FieldKind.f
  rw [h]; rfl
theorem impl_FieldSize_at (x : Int) (k : Nat) (hk : 20 ≤ k) : impl_FieldSize.f k x = some (sizeOf_ x) := by
  obtain ⟨y, h⟩ := rowOf_at x k hk
  unfold impl_FieldSize.f
  rw [h]; rfl
end Go.Proofs.Ytnnnglbjipiclaa.Q
end
section
namespace Go.Proofs
open Go.Shelf
def Try.lays105_ren : Go.Shelf.Ren := ⟨fun | 105 => 42 | 212 => 48 | 99 => 49 | 165 => 50 | 166 => 51 | 170 => 52 | 169 => 53 | 263 => 55 | 264 => 56 | 206 => 57 | 240 => 58 | 241 => 59 | 276 => 60 | 277 => 61 | n => n, fun | 9 => 9 | 3 => 3 | 4 => 4 | 20 => 20 | 0 => 0 | 46 => 65 | 109 => 66 | 5 => 5 | 72 => 71 | 76 => 75 | 51 => 81 | 146 => 82 | 53 => 84 | 148 => 85 | 70 => 69 | 37 => 53 | 75 => 74 | 127 => 87 | 164 => 88 | 80 => 78 | n => n, fun | n => n⟩
theorem Try.lays105 : Go.Proofs.Lays.n105 Try.prog Try.lays105_ren := {
  mixed := by kernel_rfl
  f99 := Try.func49.trans (congrArg some (by kernel_rfl))
  f105 := Try.func42.trans (congrArg some (by kernel_rfl))
  f165 := Try.func50.trans (congrArg some (by kernel_rfl))
  f166 := Try.func51.trans (congrArg some (by kernel_rfl))
  f169 := Try.func53.trans (congrArg some (by kernel_rfl))
  f170 := Try.func52.trans (congrArg some (by kernel_rfl))
  f206 := Try.func57.trans (congrArg some (by kernel_rfl))
  f212 := Try.func48.trans (congrArg some (by kernel_rfl))
  f240 := Try.func58.trans (congrArg some (by kernel_rfl))
  f241 := Try.func59.trans (congrArg some (by kernel_rfl))
  f263 := Try.func55.trans (congrArg some (by kernel_rfl))
  f264 := Try.func56.trans (congrArg some (by kernel_rfl))
  f276 := Try.func60.trans (congrArg some (by kernel_rfl))
  f277 := Try.func61.trans (congrArg some (by kernel_rfl))
  t0 := Try.underlying0
  a0 := Try.isAgg0
  z0 := Try.sizeOf0
  v0 := Try.zeroValue0
  t3 := Try.underlying3
  a3 := Try.isAgg3
  z3 := Try.sizeOf3
  v3 := Try.zeroValue3
  t4 := Try.underlying4
  a4 := Try.isAgg4
  z4 := Try.sizeOf4
  v4 := Try.zeroValue4
  t5 := Try.underlying5
  a5 := Try.isAgg5
  z5 := Try.sizeOf5
  v5 := Try.zeroValue5
  t9 := Try.underlying9
  a9 := Try.isAgg9
  z9 := Try.sizeOf9
  v9 := Try.zeroValue9
  t20 := Try.underlying20
  a20 := Try.isAgg20
  z20 := Try.sizeOf20
  v20 := Try.zeroValue20
  t37 := Try.underlying53
  a37 := Try.isAgg53
  z37 := Try.sizeOf53
  v37 := Try.zeroValue53
  t46 := Try.underlying65
  a46 := Try.isAgg65
  z46 := Try.sizeOf65
  v46 := Try.zeroValue65
  t51 := Try.underlying81
  a51 := Try.isAgg81
  z51 := Try.sizeOf81
  v51 := Try.zeroValue81
  t53 := Try.underlying84
  a53 := Try.isAgg84
  z53 := Try.sizeOf84
  v53 := Try.zeroValue84
  t70 := Try.underlying69
  a70 := Try.isAgg69
  z70 := Try.sizeOf69
  v70 := Try.zeroValue69
  t72 := Try.underlying71
  a72 := Try.isAgg71
  z72 := Try.sizeOf71
  v72 := Try.zeroValue71
  t75 := Try.underlying74
  a75 := Try.isAgg74
  z75 := Try.sizeOf74
  v75 := Try.zeroValue74
  t76 := Try.underlying75
  a76 := Try.isAgg75
  z76 := Try.sizeOf75
  v76 := Try.zeroValue75
  t109 := Try.underlying66
  a109 := Try.isAgg66
  z109 := Try.sizeOf66
  v109 := Try.zeroValue66
  t127 := Try.underlying87
  a127 := Try.isAgg87
  z127 := Try.sizeOf87
  v127 := Try.zeroValue87
  t146 := Try.underlying82
  a146 := Try.isAgg82
  z146 := Try.sizeOf82
  v146 := Try.zeroValue82
  t148 := Try.underlying85
  a148 := Try.isAgg85
  z148 := Try.sizeOf85
  v148 := Try.zeroValue85
  t164 := Try.underlying88
  a164 := Try.isAgg88
  z164 := Try.sizeOf88
  v164 := Try.zeroValue88 }
theorem Try.Builder_Extra_105 : Builder.Extra Try.prog Try.lays105_ren := {
  sizeBuilder := by kernel_rfl
  liesBuilder := by kernel_rfl
  t5 := Try.underlying5
  a5 := Try.isAgg5
  z5 := Try.sizeOf5
  v5 := Try.zeroValue5
  infoByte := by kernel_rfl
  cellsByte := by kernel_rfl
  sizeByte := by kernel_rfl
  neB5 := by decide }
open Go.RowKit Go.Lib in
theorem Try.strings_Repeat (s : ByteArray) (c : Nat) (w : World) (hc : c ≤ 9223372036854775807) (hlen : s.size * c ≤ 140737488355328) :
    Calls Try.prog 42 #[.string s, .int .i64 c] w fun e w' => e = .returned (.string ⟨(Lib.repeatL s.data.toList c).toArray⟩) ∧ Below w.heap.size w w' := Any.strings_Repeat Try.lays105 Try.Builder_Extra_105 s c w hc hlen
end Go.Proofs
end
section
namespace Go.Proofs.Ytnnnglbjipiclaa.Q
open Go.RowKit Go.Proofs.YtnnnglbjipiclaaW.PrintWords Go.Proofs.YtnnnglbjipiclaaW.PrintLast Go.Proofs.YtnnnglbjipiclaaW.PrintMore
def strings_Repeat.f (a0 : ByteArray) (a1 : Int) : Option ByteArray := if 0 ≤ a1 ∧ a1 ≤ 9223372036854775807 ∧ a0.size * a1.toNat ≤ 140737488355328 then some ⟨(Lib.repeatL a0.data.toList a1.toNat).toArray⟩ else none
theorem strings_Repeat.calls (a0 : ByteArray) (a1 : Int) (r : ByteArray) (w : World) (h : strings_Repeat.f a0 a1 = some r) :
    Calls Try.prog 42 #[.string a0, .int .i64 a1] w fun e w' => e = .returned (.string r) ∧ Below w.heap.size w w' := by
  unfold strings_Repeat.f at h
  by_cases q : 0 ≤ a1 ∧ a1 ≤ 9223372036854775807 ∧ a0.size * a1.toNat ≤ 140737488355328
  · rw [if_pos q] at h
    obtain rfl := Option.some.inj h
    have e : ((a1.toNat : Nat) : Int) = a1 := by omega
    have hc := Try.strings_Repeat a0 a1.toNat w (by omega) q.2.2
    rw [e] at hc
    exact hc
  · rw [if_neg q] at h
    exact absurd h (by simp)
end Go.Proofs.Ytnnnglbjipiclaa.Q
end
section
namespace Go.Proofs.Ytnnnglbjipiclaa.Q
open Go.RowKit Go.Proofs.YtnnnglbjipiclaaW.PrintWords Go.Proofs.YtnnnglbjipiclaaW.PrintLast Go.Proofs.YtnnnglbjipiclaaW.PrintMore
set_option linter.unusedVariables false
set_option linter.unusedSimpArgs false
def rep (b : UInt8) (n : Nat) : ByteArray := ⟨(List.replicate n b).toArray⟩
theorem bytesOf_rep (b : UInt8) (n : Nat) : bytesOf (rep b n) = List.replicate n (b.toNat : Int) := by
  unfold bytesOf rep
  simp
theorem rep_size (b : UInt8) (n : Nat) : (rep b n).size = n := by rw [size_eq, bytesOf_rep, List.length_replicate]
theorem rep_zero (b : UInt8) : rep b 0 = ⟨#[]⟩ := rfl
theorem rep_front (b : UInt8) (n : Nat) : rep b n ++ (⟨#[b]⟩ : ByteArray) = rep b (n + 1) := by
  apply bytesOf_inj
  rw [bytesOf_append, bytesOf_rep, bytesOf_rep, List.replicate_succ']
  rfl
theorem rep_back (b : UInt8) (n : Nat) : (⟨#[b]⟩ : ByteArray) ++ rep b n = rep b (n + 1) := by
  apply bytesOf_inj
  rw [bytesOf_append, bytesOf_rep, bytesOf_rep, List.replicate_succ]
  rfl
theorem app_assoc (a b c : ByteArray) : (a ++ b) ++ c = a ++ (b ++ c) := by
  apply bytesOf_inj
  rw [bytesOf_append, bytesOf_append, bytesOf_append, bytesOf_append, List.append_assoc]
theorem app_nil (a : ByteArray) : a ++ (⟨#[]⟩ : ByteArray) = a := by
  apply bytesOf_inj
  rw [bytesOf_append]
  exact List.append_nil _
theorem nil_app (a : ByteArray) : (⟨#[]⟩ : ByteArray) ++ a = a := by
  apply bytesOf_inj
  rw [bytesOf_append]
  rfl
theorem repeat_one (b : UInt8) (n : Nat) : (⟨(Lib.repeatL [b] n).toArray⟩ : ByteArray) = rep b n := by
  unfold rep
  congr 2
  induction n with
  | zero => rfl
  | succ n ih => rw [Lib.repeatL, ih, List.replicate_succ]; rfl
theorem repeat_at (b : UInt8) (n : Int) (h0 : 0 ≤ n) (h1 : n ≤ 1000000) : strings_Repeat.f (⟨#[b]⟩ : ByteArray) n = some (rep b n.toNat) := by
  unfold strings_Repeat.f
  have hs : (⟨#[b]⟩ : ByteArray).size = 1 := rfl
  rw [if_pos ⟨h0, by omega, by rw [hs]; omega⟩]
  congr 1
  exact repeat_one b n.toNat
theorem size_range (x : Int) : 0 ≤ sizeOf_ x ∧ sizeOf_ x ≤ 60 := by
  unfold sizeOf_
  repeat' split
  all_goals omega
end Go.Proofs.Ytnnnglbjipiclaa.Q
end
section
namespace Go.Proofs.Ytnnnglbjipiclaa.Q
open Go.RowKit Go.Proofs.YtnnnglbjipiclaaW.PrintWords Go.Proofs.YtnnnglbjipiclaaW.PrintLast Go.Proofs.YtnnnglbjipiclaaW.PrintMore
attribute [local go_sem] max2_int min2_int max_two min_two max_three min_three max_four min_four
set_option linter.unusedVariables false
set_option linter.unusedSimpArgs false
def impl_FieldFit.f (k : Nat) (a0 : Int) (a1 : ByteArray) : Option (ByteArray) := (impl_FieldSize.f k a0).bind fun t242 => ((impl_FieldKind.f k a0).bind fun t243 => (if t243 = 1 then ((strings_Repeat.f (⟨#[48]⟩ : ByteArray) (mx (wrap64 (t242 - (a1.size : Int))) 0)).bind fun t244 => (if t244.size + a1.size ≤ 9223372036854775807 then ((impl_FieldOk.f k a0 (t244 ++ a1)).bind fun t245 => (if t245 = true then (some (t244 ++ a1)) else (some (⟨#[]⟩ : ByteArray)))) else (none))) else (if t243 = 2 then ((strings_Repeat.f (⟨#[32]⟩ : ByteArray) (mx (wrap64 (t242 - (a1.size : Int))) 0)).bind fun t246 => (if a1.size + t246.size ≤ 9223372036854775807 then ((impl_FieldOk.f k a0 (a1 ++ t246)).bind fun t247 => (if t247 = true then (some (a1 ++ t246)) else (some (⟨#[]⟩ : ByteArray)))) else (none))) else ((impl_FieldOk.f k a0 a1).bind fun t248 => (if t248 = true then (some a1) else (some (⟨#[]⟩ : ByteArray)))))))
set_option maxHeartbeats 8000000 in
set_option maxRecDepth 100000 in
theorem impl_FieldFit.calls (k : Nat) (a0 : Int) (a1 : ByteArray) (r : ByteArray) (w : World) (h : impl_FieldFit.f k a0 a1 = some r) :
  Calls Try.prog 24 #[.int .i64 a0, .string a1] w fun e w' => e = .returned (.string r) ∧ Below w.heap.size w w' := by
 have HB := Aside0.mk (Below.refl w.heap.size w)
 have H : ((impl_FieldSize.f k a0).bind fun t242 => ((impl_FieldKind.f k a0).bind fun t243 => (if t243 = 1 then ((strings_Repeat.f (⟨#[48]⟩ : ByteArray) (mx (wrap64 (t242 - (a1.size : Int))) 0)).bind fun t244 => (if t244.size + a1.size ≤ 9223372036854775807 then ((impl_FieldOk.f k a0 (t244 ++ a1)).bind fun t245 => (if t245 = true then (some (t244 ++ a1)) else (some (⟨#[]⟩ : ByteArray)))) else (none))) else (if t243 = 2 then ((strings_Repeat.f (⟨#[32]⟩ : ByteArray) (mx (wrap64 (t242 - (a1.size : Int))) 0)).bind fun t246 => (if a1.size + t246.size ≤ 9223372036854775807 then ((impl_FieldOk.f k a0 (a1 ++ t246)).bind fun t247 => (if t247 = true then (some (a1 ++ t246)) else (some (⟨#[]⟩ : ByteArray)))) else (none))) else ((impl_FieldOk.f k a0 a1).bind fun t248 => (if t248 = true then (some a1) else (some (⟨#[]⟩ : ByteArray)))))))) = some r := h
 clear h
 replace H := Option.bind_eq_some_iff.mp H
 obtain ⟨t242, A30, H⟩ := H
 replace H : ((impl_FieldKind.f k a0).bind fun t243 => (if t243 = 1 then ((strings_Repeat.f (⟨#[48]⟩ : ByteArray) (mx (wrap64 (t242 - (a1.size : Int))) 0)).bind fun t244 => (if t244.size + a1.size ≤ 9223372036854775807 then ((impl_FieldOk.f k a0 (t244 ++ a1)).bind fun t245 => (if t245 = true then (some (t244 ++ a1)) else (some (⟨#[]⟩ : ByteArray)))) else (none))) else (if t243 = 2 then ((strings_Repeat.f (⟨#[32]⟩ : ByteArray) (mx (wrap64 (t242 - (a1.size : Int))) 0)).bind fun t246 => (if a1.size + t246.size ≤ 9223372036854775807 then ((impl_FieldOk.f k a0 (a1 ++ t246)).bind fun t247 => (if t247 = true then (some (a1 ++ t246)) else (some (⟨#[]⟩ : ByteArray)))) else (none))) else ((impl_FieldOk.f k a0 a1).bind fun t248 => (if t248 = true then (some a1) else (some (⟨#[]⟩ : ByteArray))))))) = some r := H
 have A3 := Aside0.mk A30
 clear A30
 obtain ⟨ji4, hji4⟩ : ∃ j_ : Int, (mx (wrap64 (t242 - (a1.size : Int))) 0) = j_ := ⟨_, rfl⟩
 replace H : ((impl_FieldKind.f k a0).bind fun t243 => (if t243 = 1 then ((strings_Repeat.f (⟨#[48]⟩ : ByteArray) (ji4)).bind fun t244 => (if t244.size + a1.size ≤ 9223372036854775807 then ((impl_FieldOk.f k a0 (t244 ++ a1)).bind fun t245 => (if t245 = true then (some (t244 ++ a1)) else (some (⟨#[]⟩ : ByteArray)))) else (none))) else (if t243 = 2 then ((strings_Repeat.f (⟨#[32]⟩ : ByteArray) (ji4)).bind fun t246 => (if a1.size + t246.size ≤ 9223372036854775807 then ((impl_FieldOk.f k a0 (a1 ++ t246)).bind fun t247 => (if t247 = true then (some (a1 ++ t246)) else (some (⟨#[]⟩ : ByteArray)))) else (none))) else ((impl_FieldOk.f k a0 a1).bind fun t248 => (if t248 = true then (some a1) else (some (⟨#[]⟩ : ByteArray))))))) = some r := by first | (rw [hji4] at H; exact H) | (simp only [hji4] at H ⊢; exact H)
 (try rw [hji4] at A3)
 (try (have hji4l : 0 ≤ ji4 := by (rw [← hji4]; unfold mx; (repeat' split) <;> omega)))
 (try (have hji4m : 0 ≤ ji4 := by omega))
 have hji4_ : (if (wrap64 (t242 - (a1.size : Int))) < 0 then 0 else (wrap64 (t242 - (a1.size : Int)))) = ji4 := hji4
 replace H := Option.bind_eq_some_iff.mp H
 obtain ⟨t243, A50, H⟩ := H
 replace H : (if t243 = 1 then ((strings_Repeat.f (⟨#[48]⟩ : ByteArray) (ji4)).bind fun t244 => (if t244.size + a1.size ≤ 9223372036854775807 then ((impl_FieldOk.f k a0 (t244 ++ a1)).bind fun t245 => (if t245 = true then (some (t244 ++ a1)) else (some (⟨#[]⟩ : ByteArray)))) else (none))) else (if t243 = 2 then ((strings_Repeat.f (⟨#[32]⟩ : ByteArray) (ji4)).bind fun t246 => (if a1.size + t246.size ≤ 9223372036854775807 then ((impl_FieldOk.f k a0 (a1 ++ t246)).bind fun t247 => (if t247 = true then (some (a1 ++ t246)) else (some (⟨#[]⟩ : ByteArray)))) else (none))) else ((impl_FieldOk.f k a0 a1).bind fun t248 => (if t248 = true then (some a1) else (some (⟨#[]⟩ : ByteArray)))))) = some r := H
 have A5 := Aside0.mk A50
 clear A50
 by_cases c6 : t243 = 1
 ·rw [if_pos c6] at H
  have c6b0 : (t243 == 1) = true := beq_iff_eq.mpr c6
  have c6b1 : (t243 != 1) = false := bne_eq_false_iff_eq.mpr c6
  clear c6
  replace H := Option.bind_eq_some_iff.mp H
  obtain ⟨t244, A70, H⟩ := H
  replace H : (if t244.size + a1.size ≤ 9223372036854775807 then ((impl_FieldOk.f k a0 (t244 ++ a1)).bind fun t245 => (if t245 = true then (some (t244 ++ a1)) else (some (⟨#[]⟩ : ByteArray)))) else (none)) = some r := H
  have A7 := Aside0.mk A70
  clear A70
  by_cases c8 : t244.size + a1.size ≤ 9223372036854775807
  ·rw [if_pos c8] at H
   have c8b0 := eq_true c8
   have c8b1 : decide (t244.size + a1.size ≤ 9223372036854775807) = true := decide_eq_true c8
   try have c8b2 : (9223372036854775807 < t244.size + a1.size) = False := eq_false (Nat.not_lt.2 c8)
   try (have c8b3 := c8b2; simp only [ByteArray.size_append, ByteArray.size_extract, Nat.sub_zero, Nat.min_self] at c8b3)
   replace H := Option.bind_eq_some_iff.mp H
   obtain ⟨t245, A90, H⟩ := H
   replace H : (if t245 = true then (some (t244 ++ a1)) else (some (⟨#[]⟩ : ByteArray))) = some r := H
   have A9 := Aside0.mk A90
   clear A90
   by_cases c10 : t245 = true
   ·subst c10
    have H1 : (some (t244 ++ a1)) = some r := by rw [if_pos rfl] at H; exact H
    clear H
    have H := H1
    clear H1
    obtain rfl := Option.some.inj H
    go_enter Try.func24, Try.ntmps24
    go_wp2_with (first | ((with_reducible refine gate_callee (f := 40) rfl ?_); refine goesM_ (some 7) rfl rfl Try.func40 (by kernel_rfl) rfl #[.int .i64 a0] rfl ?_; (with_reducible refine (impl_FieldSize.calls k a0 t242 _ A3.out).mono ?_); rintro e w11 ⟨rfl, hb⟩; refine ⟨_, rfl, ?_⟩; have n0_ := Aside0.mk (below_step bB hb); clear HB; have HB := n0_; clear n0_; (try clear hb); (try clear hb2); (try clear hk); (try clear hi)) | ((with_reducible refine gate_callee (f := 41) rfl ?_); refine goesM_ (some 13) rfl rfl Try.func41 (by kernel_rfl) rfl #[.int .i64 a0] rfl ?_; (with_reducible refine (impl_FieldKind.calls k a0 t243 _ A5.out).mono ?_); rintro e w12 ⟨rfl, hb⟩; refine ⟨_, rfl, ?_⟩; have n0_ := Aside0.mk (below_step bB hb); clear HB; have HB := n0_; clear n0_; (try clear hb); (try clear hb2); (try clear hk); (try clear hi)) | ((with_reducible refine gate_callee (f := 42) rfl ?_); refine goesL_ (some 17) rfl rfl Try.func42 (by kernel_rfl) rfl #[.string (⟨#[48]⟩ : ByteArray), .int .i64 ji4] rfl (by (try simp only [List.map_toArray, List.map_cons, List.map_nil]); first | done | (simp only [hji4]; rfl) | rfl | (simp only [List.length_drop, List.length_take]; rfl)) ?_; (with_reducible refine (strings_Repeat.calls (⟨#[48]⟩ : ByteArray) ji4 t244 _ A7.out).mono ?_); rintro e w13 ⟨rfl, hb⟩; refine ⟨_, rfl, ?_⟩; have n0_ := Aside0.mk (below_step bB hb); clear HB; have HB := n0_; clear n0_; (try clear hb); (try clear hb2); (try clear hk); (try clear hi)) | ((with_reducible refine gate_callee (f := 36) rfl ?_); refine goesM_ (some 28) rfl rfl Try.func36 (by kernel_rfl) rfl #[.int .i64 a0, .string (t244 ++ a1)] rfl ?_; (with_reducible refine (impl_FieldOk.calls k a0 (t244 ++ a1) true _ A9.out).mono ?_); rintro e w14 ⟨rfl, hb⟩; refine ⟨_, rfl, ?_⟩; have n0_ := Aside0.mk (below_step bB hb); clear HB; have HB := n0_; clear n0_; (try clear hb); (try clear hb2); (try clear hk); (try clear hi)))
    go_ret
    exact ⟨by first | rfl | (simp [errW_none, errW_some] <;> rfl) | (simp only [← hji4]; first | rfl | (simp [errW_none, errW_some] <;> rfl) | (simp [i64_w, IntKind.wrap_u8] <;> rfl)) | (simp [*, errW_none, errW_some] <;> rfl), bB⟩
   ·replace c10 := Bool.eq_false_iff.mpr c10
    subst c10
    have H1 : (some (⟨#[]⟩ : ByteArray)) = some r := by rw [if_neg (show ¬ (false = true) by decide)] at H; exact H
    clear H
    have H := H1
    clear H1
    obtain rfl := Option.some.inj H
    go_enter Try.func24, Try.ntmps24
    go_wp2_with (first | ((with_reducible refine gate_callee (f := 40) rfl ?_); refine goesM_ (some 7) rfl rfl Try.func40 (by kernel_rfl) rfl #[.int .i64 a0] rfl ?_; (with_reducible refine (impl_FieldSize.calls k a0 t242 _ A3.out).mono ?_); rintro e w15 ⟨rfl, hb⟩; refine ⟨_, rfl, ?_⟩; have n0_ := Aside0.mk (below_step bB hb); clear HB; have HB := n0_; clear n0_; (try clear hb); (try clear hb2); (try clear hk); (try clear hi)) | ((with_reducible refine gate_callee (f := 41) rfl ?_); refine goesM_ (some 13) rfl rfl Try.func41 (by kernel_rfl) rfl #[.int .i64 a0] rfl ?_; (with_reducible refine (impl_FieldKind.calls k a0 t243 _ A5.out).mono ?_); rintro e w16 ⟨rfl, hb⟩; refine ⟨_, rfl, ?_⟩; have n0_ := Aside0.mk (below_step bB hb); clear HB; have HB := n0_; clear n0_; (try clear hb); (try clear hb2); (try clear hk); (try clear hi)) | ((with_reducible refine gate_callee (f := 42) rfl ?_); refine goesL_ (some 17) rfl rfl Try.func42 (by kernel_rfl) rfl #[.string (⟨#[48]⟩ : ByteArray), .int .i64 ji4] rfl (by (try simp only [List.map_toArray, List.map_cons, List.map_nil]); first | done | (simp only [hji4]; rfl) | rfl | (simp only [List.length_drop, List.length_take]; rfl)) ?_; (with_reducible refine (strings_Repeat.calls (⟨#[48]⟩ : ByteArray) ji4 t244 _ A7.out).mono ?_); rintro e w17 ⟨rfl, hb⟩; refine ⟨_, rfl, ?_⟩; have n0_ := Aside0.mk (below_step bB hb); clear HB; have HB := n0_; clear n0_; (try clear hb); (try clear hb2); (try clear hk); (try clear hi)) | ((with_reducible refine gate_callee (f := 36) rfl ?_); refine goesM_ (some 28) rfl rfl Try.func36 (by kernel_rfl) rfl #[.int .i64 a0, .string (t244 ++ a1)] rfl ?_; (with_reducible refine (impl_FieldOk.calls k a0 (t244 ++ a1) false _ A9.out).mono ?_); rintro e w18 ⟨rfl, hb⟩; refine ⟨_, rfl, ?_⟩; have n0_ := Aside0.mk (below_step bB hb); clear HB; have HB := n0_; clear n0_; (try clear hb); (try clear hb2); (try clear hk); (try clear hi)))
    go_ret
    exact ⟨by first | rfl | (simp [errW_none, errW_some] <;> rfl) | (simp only [← hji4]; first | rfl | (simp [errW_none, errW_some] <;> rfl) | (simp [i64_w, IntKind.wrap_u8] <;> rfl)) | (simp [*, errW_none, errW_some] <;> rfl), bB⟩
  ·rw [if_neg c8] at H
   exact absurd H (by simp)
 ·rw [if_neg c6] at H
  have c6b0 : (t243 == 1) = false := beq_eq_false_iff_ne.mpr c6
  have c6b1 : (t243 != 1) = true := bne_iff_ne.mpr c6
  by_cases c19 : t243 = 2
  ·rw [if_pos c19] at H
   have c19b0 : (t243 == 2) = true := beq_iff_eq.mpr c19
   have c19b1 : (t243 != 2) = false := bne_eq_false_iff_eq.mpr c19
   clear c19
   replace H := Option.bind_eq_some_iff.mp H
   obtain ⟨t246, A200, H⟩ := H
   replace H : (if a1.size + t246.size ≤ 9223372036854775807 then ((impl_FieldOk.f k a0 (a1 ++ t246)).bind fun t247 => (if t247 = true then (some (a1 ++ t246)) else (some (⟨#[]⟩ : ByteArray)))) else (none)) = some r := H
   have A20 := Aside0.mk A200
   clear A200
   by_cases c21 : a1.size + t246.size ≤ 9223372036854775807
   ·rw [if_pos c21] at H
    have c21b0 := eq_true c21
    have c21b1 : decide (a1.size + t246.size ≤ 9223372036854775807) = true := decide_eq_true c21
    try have c21b2 : (9223372036854775807 < a1.size + t246.size) = False := eq_false (Nat.not_lt.2 c21)
    try (have c21b3 := c21b2; simp only [ByteArray.size_append, ByteArray.size_extract, Nat.sub_zero, Nat.min_self] at c21b3)
    replace H := Option.bind_eq_some_iff.mp H
    obtain ⟨t247, A220, H⟩ := H
    replace H : (if t247 = true then (some (a1 ++ t246)) else (some (⟨#[]⟩ : ByteArray))) = some r := H
    have A22 := Aside0.mk A220
    clear A220
    by_cases c23 : t247 = true
    ·subst c23
     have H1 : (some (a1 ++ t246)) = some r := by rw [if_pos rfl] at H; exact H
     clear H
     have H := H1
     clear H1
     obtain rfl := Option.some.inj H
     go_enter Try.func24, Try.ntmps24
     go_wp2_with (first | ((with_reducible refine gate_callee (f := 40) rfl ?_); refine goesM_ (some 7) rfl rfl Try.func40 (by kernel_rfl) rfl #[.int .i64 a0] rfl ?_; (with_reducible refine (impl_FieldSize.calls k a0 t242 _ A3.out).mono ?_); rintro e w24 ⟨rfl, hb⟩; refine ⟨_, rfl, ?_⟩; have n0_ := Aside0.mk (below_step bB hb); clear HB; have HB := n0_; clear n0_; (try clear hb); (try clear hb2); (try clear hk); (try clear hi)) | ((with_reducible refine gate_callee (f := 41) rfl ?_); refine goesM_ (some 13) rfl rfl Try.func41 (by kernel_rfl) rfl #[.int .i64 a0] rfl ?_; (with_reducible refine (impl_FieldKind.calls k a0 t243 _ A5.out).mono ?_); rintro e w25 ⟨rfl, hb⟩; refine ⟨_, rfl, ?_⟩; have n0_ := Aside0.mk (below_step bB hb); clear HB; have HB := n0_; clear n0_; (try clear hb); (try clear hb2); (try clear hk); (try clear hi)) | ((with_reducible refine gate_callee (f := 42) rfl ?_); refine goesL_ (some 24) rfl rfl Try.func42 (by kernel_rfl) rfl #[.string (⟨#[32]⟩ : ByteArray), .int .i64 ji4] rfl (by (try simp only [List.map_toArray, List.map_cons, List.map_nil]); first | done | (simp only [hji4]; rfl) | rfl | (simp only [List.length_drop, List.length_take]; rfl)) ?_; (with_reducible refine (strings_Repeat.calls (⟨#[32]⟩ : ByteArray) ji4 t246 _ A20.out).mono ?_); rintro e w26 ⟨rfl, hb⟩; refine ⟨_, rfl, ?_⟩; have n0_ := Aside0.mk (below_step bB hb); clear HB; have HB := n0_; clear n0_; (try clear hb); (try clear hb2); (try clear hk); (try clear hi)) | ((with_reducible refine gate_callee (f := 36) rfl ?_); refine goesM_ (some 28) rfl rfl Try.func36 (by kernel_rfl) rfl #[.int .i64 a0, .string (a1 ++ t246)] rfl ?_; (with_reducible refine (impl_FieldOk.calls k a0 (a1 ++ t246) true _ A22.out).mono ?_); rintro e w27 ⟨rfl, hb⟩; refine ⟨_, rfl, ?_⟩; have n0_ := Aside0.mk (below_step bB hb); clear HB; have HB := n0_; clear n0_; (try clear hb); (try clear hb2); (try clear hk); (try clear hi)))
     go_ret
     exact ⟨by first | rfl | (simp [errW_none, errW_some] <;> rfl) | (simp only [← hji4]; first | rfl | (simp [errW_none, errW_some] <;> rfl) | (simp [i64_w, IntKind.wrap_u8] <;> rfl)) | (simp [*, errW_none, errW_some] <;> rfl), bB⟩
    ·replace c23 := Bool.eq_false_iff.mpr c23
     subst c23
     have H1 : (some (⟨#[]⟩ : ByteArray)) = some r := by rw [if_neg (show ¬ (false = true) by decide)] at H; exact H
     clear H
     have H := H1
     clear H1
     obtain rfl := Option.some.inj H
     go_enter Try.func24, Try.ntmps24
     go_wp2_with (first | ((with_reducible refine gate_callee (f := 40) rfl ?_); refine goesM_ (some 7) rfl rfl Try.func40 (by kernel_rfl) rfl #[.int .i64 a0] rfl ?_; (with_reducible refine (impl_FieldSize.calls k a0 t242 _ A3.out).mono ?_); rintro e w28 ⟨rfl, hb⟩; refine ⟨_, rfl, ?_⟩; have n0_ := Aside0.mk (below_step bB hb); clear HB; have HB := n0_; clear n0_; (try clear hb); (try clear hb2); (try clear hk); (try clear hi)) | ((with_reducible refine gate_callee (f := 41) rfl ?_); refine goesM_ (some 13) rfl rfl Try.func41 (by kernel_rfl) rfl #[.int .i64 a0] rfl ?_; (with_reducible refine (impl_FieldKind.calls k a0 t243 _ A5.out).mono ?_); rintro e w29 ⟨rfl, hb⟩; refine ⟨_, rfl, ?_⟩; have n0_ := Aside0.mk (below_step bB hb); clear HB; have HB := n0_; clear n0_; (try clear hb); (try clear hb2); (try clear hk); (try clear hi)) | ((with_reducible refine gate_callee (f := 42) rfl ?_); refine goesL_ (some 24) rfl rfl Try.func42 (by kernel_rfl) rfl #[.string (⟨#[32]⟩ : ByteArray), .int .i64 ji4] rfl (by (try simp only [List.map_toArray, List.map_cons, List.map_nil]); first | done | (simp only [hji4]; rfl) | rfl | (simp only [List.length_drop, List.length_take]; rfl)) ?_; (with_reducible refine (strings_Repeat.calls (⟨#[32]⟩ : ByteArray) ji4 t246 _ A20.out).mono ?_); rintro e w30 ⟨rfl, hb⟩; refine ⟨_, rfl, ?_⟩; have n0_ := Aside0.mk (below_step bB hb); clear HB; have HB := n0_; clear n0_; (try clear hb); (try clear hb2); (try clear hk); (try clear hi)) | ((with_reducible refine gate_callee (f := 36) rfl ?_); refine goesM_ (some 28) rfl rfl Try.func36 (by kernel_rfl) rfl #[.int .i64 a0, .string (a1 ++ t246)] rfl ?_; (with_reducible refine (impl_FieldOk.calls k a0 (a1 ++ t246) false _ A22.out).mono ?_); rintro e w31 ⟨rfl, hb⟩; refine ⟨_, rfl, ?_⟩; have n0_ := Aside0.mk (below_step bB hb); clear HB; have HB := n0_; clear n0_; (try clear hb); (try clear hb2); (try clear hk); (try clear hi)))
     go_ret
     exact ⟨by first | rfl | (simp [errW_none, errW_some] <;> rfl) | (simp only [← hji4]; first | rfl | (simp [errW_none, errW_some] <;> rfl) | (simp [i64_w, IntKind.wrap_u8] <;> rfl)) | (simp [*, errW_none, errW_some] <;> rfl), bB⟩
   ·rw [if_neg c21] at H
    exact absurd H (by simp)
  ·rw [if_neg c19] at H
   have c19b0 : (t243 == 2) = false := beq_eq_false_iff_ne.mpr c19
   have c19b1 : (t243 != 2) = true := bne_iff_ne.mpr c19
   replace H := Option.bind_eq_some_iff.mp H
   obtain ⟨t248, A320, H⟩ := H
   replace H : (if t248 = true then (some a1) else (some (⟨#[]⟩ : ByteArray))) = some r := H
   have A32 := Aside0.mk A320
   clear A320
   by_cases c33 : t248 = true
   ·subst c33
    have H1 : (some a1) = some r := by rw [if_pos rfl] at H; exact H
    clear H
    have H := H1
    clear H1
    obtain rfl := Option.some.inj H
    go_enter Try.func24, Try.ntmps24
    go_wp2_with (first | ((with_reducible refine gate_callee (f := 40) rfl ?_); refine goesM_ (some 7) rfl rfl Try.func40 (by kernel_rfl) rfl #[.int .i64 a0] rfl ?_; (with_reducible refine (impl_FieldSize.calls k a0 t242 _ A3.out).mono ?_); rintro e w34 ⟨rfl, hb⟩; refine ⟨_, rfl, ?_⟩; have n0_ := Aside0.mk (below_step bB hb); clear HB; have HB := n0_; clear n0_; (try clear hb); (try clear hb2); (try clear hk); (try clear hi)) | ((with_reducible refine gate_callee (f := 41) rfl ?_); refine goesM_ (some 13) rfl rfl Try.func41 (by kernel_rfl) rfl #[.int .i64 a0] rfl ?_; (with_reducible refine (impl_FieldKind.calls k a0 t243 _ A5.out).mono ?_); rintro e w35 ⟨rfl, hb⟩; refine ⟨_, rfl, ?_⟩; have n0_ := Aside0.mk (below_step bB hb); clear HB; have HB := n0_; clear n0_; (try clear hb); (try clear hb2); (try clear hk); (try clear hi)) | ((with_reducible refine gate_callee (f := 36) rfl ?_); refine goesM_ (some 28) rfl rfl Try.func36 (by kernel_rfl) rfl #[.int .i64 a0, .string a1] rfl ?_; (with_reducible refine (impl_FieldOk.calls k a0 a1 true _ A32.out).mono ?_); rintro e w36 ⟨rfl, hb⟩; refine ⟨_, rfl, ?_⟩; have n0_ := Aside0.mk (below_step bB hb); clear HB; have HB := n0_; clear n0_; (try clear hb); (try clear hb2); (try clear hk); (try clear hi)))
    go_ret
    exact ⟨by first | rfl | (simp [errW_none, errW_some] <;> rfl) | (simp only [← hji4]; first | rfl | (simp [errW_none, errW_some] <;> rfl) | (simp [i64_w, IntKind.wrap_u8] <;> rfl)) | (simp [*, errW_none, errW_some] <;> rfl), bB⟩
   ·replace c33 := Bool.eq_false_iff.mpr c33
    subst c33
    have H1 : (some (⟨#[]⟩ : ByteArray)) = some r := by rw [if_neg (show ¬ (false = true) by decide)] at H; exact H
    clear H
    have H := H1
    clear H1
    obtain rfl := Option.some.inj H
    go_enter Try.func24, Try.ntmps24
    go_wp2_with (first | ((with_reducible refine gate_callee (f := 40) rfl ?_); refine goesM_ (some 7) rfl rfl Try.func40 (by kernel_rfl) rfl #[.int .i64 a0] rfl ?_; (with_reducible refine (impl_FieldSize.calls k a0 t242 _ A3.out).mono ?_); rintro e w37 ⟨rfl, hb⟩; refine ⟨_, rfl, ?_⟩; have n0_ := Aside0.mk (below_step bB hb); clear HB; have HB := n0_; clear n0_; (try clear hb); (try clear hb2); (try clear hk); (try clear hi)) | ((with_reducible refine gate_callee (f := 41) rfl ?_); refine goesM_ (some 13) rfl rfl Try.func41 (by kernel_rfl) rfl #[.int .i64 a0] rfl ?_; (with_reducible refine (impl_FieldKind.calls k a0 t243 _ A5.out).mono ?_); rintro e w38 ⟨rfl, hb⟩; refine ⟨_, rfl, ?_⟩; have n0_ := Aside0.mk (below_step bB hb); clear HB; have HB := n0_; clear n0_; (try clear hb); (try clear hb2); (try clear hk); (try clear hi)) | ((with_reducible refine gate_callee (f := 36) rfl ?_); refine goesM_ (some 28) rfl rfl Try.func36 (by kernel_rfl) rfl #[.int .i64 a0, .string a1] rfl ?_; (with_reducible refine (impl_FieldOk.calls k a0 a1 false _ A32.out).mono ?_); rintro e w39 ⟨rfl, hb⟩; refine ⟨_, rfl, ?_⟩; have n0_ := Aside0.mk (below_step bB hb); clear HB; have HB := n0_; clear n0_; (try clear hb); (try clear hb2); (try clear hk); (try clear hi)))
    go_ret
    exact ⟨by first | rfl | (simp [errW_none, errW_some] <;> rfl) | (simp only [← hji4]; first | rfl | (simp [errW_none, errW_some] <;> rfl) | (simp [i64_w, IntKind.wrap_u8] <;> rfl)) | (simp [*, errW_none, errW_some] <;> rfl), bB⟩
end Go.Proofs.Ytnnnglbjipiclaa.Q
end
section
namespace Go.Proofs.Ytnnnglbjipiclaa.Q
open Go.RowKit Go.Proofs.YtnnnglbjipiclaaW.PrintWords Go.Proofs.YtnnnglbjipiclaaW.PrintLast Go.Proofs.YtnnnglbjipiclaaW.PrintMore
set_option linter.unusedVariables false
set_option linter.unusedSimpArgs false
def fin (x : Int) (s : ByteArray) : ByteArray := if fieldOk x (bytesOf s) = true then s else ⟨#[]⟩
def fieldFit (x : Int) (s : ByteArray) : ByteArray :=
  if kindOf x = 1 then fin x (rep 48 (sizeOf_ x - s.size).toNat ++ s) else if kindOf x = 2 then fin x (s ++ rep 32 (sizeOf_ x - s.size).toNat) else fin x s
theorem spec_fin (x : Int) (s : ByteArray) (hs : s.size ≤ 100000000) (k : Nat) (hk : s.size + 30 ≤ k) :
    ((spec_FieldOk.f k x s).bind fun t => if t = true then some s else some (⟨#[]⟩ : ByteArray)) = some (fin x s) := by
  rw [spec_FieldOk_at x s (by omega) k (by omega), Option.bind_some]
  unfold fin
  split <;> rfl
theorem impl_fin (x : Int) (s : ByteArray) (hs : s.size ≤ 100000000) (k : Nat) (hk : s.size + 30 ≤ k) :
    ((impl_FieldOk.f k x s).bind fun t => if t = true then some s else some (⟨#[]⟩ : ByteArray)) = some (fin x s) := by
  rw [impl_FieldOk_at x s (by omega) k (by omega), Option.bind_some]
  unfold fin
  split <;> rfl
theorem spec_fit1 (x : Int) (h2 : kindOf x = 2) : ∀ (d k : Nat) (s : ByteArray), s.size + d ≤ 10000000 → d ≤ 60 → ((s.size : Int) + d = sizeOf_ x ∨ (d = 0 ∧ sizeOf_ x ≤ s.size)) → s.size + 2 * d + 40 ≤ k →
    spec_FieldFit.l1 k x s = some (fin x (s ++ rep 32 d)) := by
  intro d
  induction d with
  | zero =>
    intro k s hs _ hd hk
    obtain ⟨k, rfl⟩ : ∃ m, k = m + 1 := ⟨k - 1, by omega⟩
    have c1 : ¬ (s.size : Int) < sizeOf_ x := by omega
    rw [spec_FieldFit.l1, spec_FieldSize_at x k (by omega), Option.bind_some, if_neg c1, spec_fin x s (by omega) k (by omega), rep_zero, app_nil]
  | succ d ih =>
    intro k s hs hd60 hd hk
    obtain ⟨k, rfl⟩ : ∃ m, k = m + 1 := ⟨k - 1, by omega⟩
    have c1 : (s.size : Int) < sizeOf_ x := by omega
    have hz : (s ++ (⟨#[32]⟩ : ByteArray)).size = s.size + 1 := by rw [ByteArray.size_append]; rfl
    rw [spec_FieldFit.l1, spec_FieldSize_at x k (by omega), Option.bind_some, if_pos c1, spec_FieldKind_at x k (by omega), Option.bind_some, if_pos h2, if_pos (by omega), ih k _ (by omega) (by omega) (by omega) (by omega), app_assoc, rep_back]
theorem spec_fit1_no (x : Int) (h2 : ¬ kindOf x = 2) (k : Nat) (s : ByteArray) (hs : s.size ≤ 10000000) (hk : s.size + 40 ≤ k) : spec_FieldFit.l1 k x s = some (fin x s) := by
  obtain ⟨k, rfl⟩ : ∃ m, k = m + 1 := ⟨k - 1, by omega⟩
  rw [spec_FieldFit.l1, spec_FieldSize_at x k (by omega), Option.bind_some, spec_FieldKind_at x k (by omega), Option.bind_some, if_neg h2, spec_fin x s (by omega) k (by omega)]
  split <;> rfl
theorem spec_fit0 (x : Int) (h1 : kindOf x = 1) : ∀ (d k : Nat) (s : ByteArray), s.size + d ≤ 1000000 + 60 → d ≤ 60 → ((s.size : Int) + d = sizeOf_ x ∨ (d = 0 ∧ sizeOf_ x ≤ s.size)) → s.size + 3 * d + 100 ≤ k →
    spec_FieldFit.l0 k x s = some (fin x (rep 48 d ++ s)) := by
  intro d
  induction d with
  | zero =>
    intro k s hs _ hd hk
    obtain ⟨k, rfl⟩ : ∃ m, k = m + 2 := ⟨k - 2, by omega⟩
    have c1 : ¬ (s.size : Int) < sizeOf_ x := by omega
    rw [spec_FieldFit.l0, spec_FieldSize_at x _ (by omega), Option.bind_some, if_neg c1, spec_FieldFit.j1, spec_fit1_no x (by omega) k s (by omega) (by omega), rep_zero, nil_app]
  | succ d ih =>
    intro k s hs hd60 hd hk
    obtain ⟨k, rfl⟩ : ∃ m, k = m + 1 := ⟨k - 1, by omega⟩
    have c1 : (s.size : Int) < sizeOf_ x := by omega
    have hz : ((⟨#[48]⟩ : ByteArray) ++ s).size = s.size + 1 := by rw [ByteArray.size_append]; exact Nat.add_comm _ _
    have hq := size_range x
    rw [spec_FieldFit.l0, spec_FieldSize_at x k (by omega), Option.bind_some, if_pos c1, spec_FieldKind_at x k (by omega), Option.bind_some, if_pos h1, if_pos (by omega), ih k _ (by omega) (by omega) (by omega) (by omega), ← app_assoc, rep_front]
theorem spec_FieldFit_at (x : Int) (s : ByteArray) (hs : s.size ≤ 1000000 + 50000) (k : Nat) (hk : s.size + 300 ≤ k) : spec_FieldFit.f k x s = some (fieldFit x s) := by
  unfold spec_FieldFit.f fieldFit
  have hq := size_range x
  by_cases h1 : kindOf x = 1
  · rw [if_pos h1]
    by_cases hb : s.size ≤ 1000000
    · exact spec_fit0 x h1 (sizeOf_ x - s.size).toNat k s (by omega) (by omega) (by omega) (by omega)
    · have e : (sizeOf_ x - s.size).toNat = 0 := by omega
      obtain ⟨k, rfl⟩ : ∃ m, k = m + 2 := ⟨k - 2, by omega⟩
      have c1 : ¬ (s.size : Int) < sizeOf_ x := by omega
      rw [e, spec_FieldFit.l0, spec_FieldSize_at x _ (by omega), Option.bind_some, if_neg c1, spec_FieldFit.j1, spec_fit1_no x (by omega) k s (by omega) (by omega), rep_zero, nil_app]
  · rw [if_neg h1]
    obtain ⟨k, rfl⟩ : ∃ m, k = m + 2 := ⟨k - 2, by omega⟩
    have e : spec_FieldFit.l0 (k + 2) x s = spec_FieldFit.l1 k x s := by
      rw [spec_FieldFit.l0, spec_FieldSize_at x _ (by omega), Option.bind_some, spec_FieldKind_at x _ (by omega), Option.bind_some, if_neg h1, spec_FieldFit.j1]
      split <;> rfl
    rw [e]
    by_cases h2 : kindOf x = 2
    · rw [if_pos h2]
      exact spec_fit1 x h2 (sizeOf_ x - s.size).toNat k s (by omega) (by omega) (by omega) (by omega)
    · rw [if_neg h2]
      exact spec_fit1_no x h2 k s (by omega) (by omega)
theorem impl_FieldFit_at (x : Int) (s : ByteArray) (hs : s.size ≤ 1000000 + 50000) (k : Nat) (hk : s.size + 300 ≤ k) : impl_FieldFit.f k x s = some (fieldFit x s) := by
  unfold impl_FieldFit.f fieldFit
  have hq := size_range x
  have e0 : wrap64 (sizeOf_ x - (s.size : Int)) = sizeOf_ x - (s.size : Int) := w64id (by omega) (by omega)
  obtain ⟨d, hd, hd2, hd3⟩ : ∃ d : Int, mx (wrap64 (sizeOf_ x - (s.size : Int))) 0 = d ∧ 0 ≤ d ∧ d ≤ 60 ∧ d.toNat = (sizeOf_ x - s.size).toNat := by
    rw [e0]
    clear e0
    refine ⟨_, rfl, ?_⟩
    unfold mx
    split <;> omega
  clear e0
  rw [impl_FieldSize_at x k (by omega), Option.bind_some, impl_FieldKind_at x k (by omega), Option.bind_some, hd]
  clear hd
  by_cases h1 : kindOf x = 1
  · rw [if_pos h1, if_pos h1, repeat_at 48 d hd2 (by omega), Option.bind_some, hd3.2]
    have hz : (rep 48 (sizeOf_ x - s.size).toNat).size ≤ 60 := by rw [rep_size]; omega
    have hz2 : (rep 48 (sizeOf_ x - s.size).toNat ++ s).size ≤ 60 + s.size := by rw [ByteArray.size_append]; omega
    rw [if_pos (by omega), impl_fin x _ (by omega) k (by omega)]
  rw [if_neg h1, if_neg h1]
  by_cases h2 : kindOf x = 2
  · rw [if_pos h2, if_pos h2, repeat_at 32 d hd2 (by omega), Option.bind_some, hd3.2]
    have hz : (rep 32 (sizeOf_ x - s.size).toNat).size ≤ 60 := by rw [rep_size]; omega
    have hz2 : (s ++ rep 32 (sizeOf_ x - s.size).toNat).size ≤ 60 + s.size := by rw [ByteArray.size_append]; omega
    rw [if_pos (by omega), impl_fin x _ (by omega) k (by omega)]
  · rw [if_neg h2, if_neg h2, impl_fin x s (by omega) k (by omega)]
theorem dig_bounds {c : Int} (h : isDig c = true) : 48 ≤ c ∧ c ≤ 57 := by
  unfold isDig at h
  simpa using h
theorem all_at (l : List Int) (p : Int → Bool) (h : l.all p = true) (n : Nat) (hn : n < l.length) : p (rd l (n : Int)) = true := by
  rw [List.all_eq_true] at h
  exact h _ (rd_mem l n hn)
theorem digs_both (l : List Int) (h : digs l = true) : l.all isDig = true ∧ 0 < l.length := by
  unfold digs at h
  cases l with
  | nil => simp at h
  | cons a t => simpa using h
end Go.Proofs.Ytnnnglbjipiclaa.Q
end
section
namespace Go.Proofs.Ytnnnglbjipiclaa.Q
open Go.RowKit Go.Proofs.YtnnnglbjipiclaaW.PrintWords Go.Proofs.YtnnnglbjipiclaaW.PrintLast Go.Proofs.YtnnnglbjipiclaaW.PrintMore
attribute [local go_sem] max2_int min2_int max_two min_two max_three min_three max_four min_four
set_option linter.unusedVariables false
set_option linter.unusedSimpArgs false
def impl_ReplyMti.f (k : Nat) (a0 : ByteArray) : Option (ByteArray) := (impl_isWide.f k a0 4).bind fun t224 => (if t224 = true then (if 2 < (a0.size : Int) then (if ((((bt a0 2) - 48) % 256) % 2) = 1 then (some (⟨#[]⟩ : ByteArray)) else (if 0 ≤ 2 then (if 2 ≤ (a0.size : Int) then (if (a0.extract 0 2).size + (Utf8.encode (((bt a0 2) + 1) % 256)).size ≤ 9223372036854775807 then (if 3 ≤ (a0.size : Int) then (if ((a0.extract 0 2) ++ (Utf8.encode (((bt a0 2) + 1) % 256))).size + (a0.extract 3 a0.size).size ≤ 9223372036854775807 then (some (((a0.extract 0 2) ++ (Utf8.encode (((bt a0 2) + 1) % 256))) ++ (a0.extract 3 a0.size))) else (none)) else (none)) else (none)) else (none)) else (none))) else (none)) else (some (⟨#[]⟩ : ByteArray)))
set_option maxHeartbeats 8000000 in
set_option maxRecDepth 100000 in
theorem impl_ReplyMti.calls (k : Nat) (a0 : ByteArray) (r : ByteArray) (w : World) (h : impl_ReplyMti.f k a0 = some r) :
  Calls Try.prog 20 #[.string a0] w fun e w' => e = .returned (.string r) ∧ Drawn0 w w' := by
 have H : ((impl_isWide.f k a0 4).bind fun t224 => (if t224 = true then (if 2 < (a0.size : Int) then (if ((((bt a0 2) - 48) % 256) % 2) = 1 then (some (⟨#[]⟩ : ByteArray)) else (if 0 ≤ 2 then (if 2 ≤ (a0.size : Int) then (if (a0.extract 0 2).size + (Utf8.encode (((bt a0 2) + 1) % 256)).size ≤ 9223372036854775807 then (if 3 ≤ (a0.size : Int) then (if ((a0.extract 0 2) ++ (Utf8.encode (((bt a0 2) + 1) % 256))).size + (a0.extract 3 a0.size).size ≤ 9223372036854775807 then (some (((a0.extract 0 2) ++ (Utf8.encode (((bt a0 2) + 1) % 256))) ++ (a0.extract 3 a0.size))) else (none)) else (none)) else (none)) else (none)) else (none))) else (none)) else (some (⟨#[]⟩ : ByteArray)))) = some r := h
 clear h
 replace H := Option.bind_eq_some_iff.mp H
 obtain ⟨t224, A20, H⟩ := H
 replace H : (if t224 = true then (if 2 < (a0.size : Int) then (if ((((bt a0 2) - 48) % 256) % 2) = 1 then (some (⟨#[]⟩ : ByteArray)) else (if 0 ≤ 2 then (if 2 ≤ (a0.size : Int) then (if (a0.extract 0 2).size + (Utf8.encode (((bt a0 2) + 1) % 256)).size ≤ 9223372036854775807 then (if 3 ≤ (a0.size : Int) then (if ((a0.extract 0 2) ++ (Utf8.encode (((bt a0 2) + 1) % 256))).size + (a0.extract 3 a0.size).size ≤ 9223372036854775807 then (some (((a0.extract 0 2) ++ (Utf8.encode (((bt a0 2) + 1) % 256))) ++ (a0.extract 3 a0.size))) else (none)) else (none)) else (none)) else (none)) else (none))) else (none)) else (some (⟨#[]⟩ : ByteArray))) = some r := H
 have A2 := Aside0.mk A20
 clear A20
 by_cases c3 : t224 = true
 ·subst c3
  have H1 : (if 2 < (a0.size : Int) then (if ((((bt a0 2) - 48) % 256) % 2) = 1 then (some (⟨#[]⟩ : ByteArray)) else (if 0 ≤ 2 then (if 2 ≤ (a0.size : Int) then (if (a0.extract 0 2).size + (Utf8.encode (((bt a0 2) + 1) % 256)).size ≤ 9223372036854775807 then (if 3 ≤ (a0.size : Int) then (if ((a0.extract 0 2) ++ (Utf8.encode (((bt a0 2) + 1) % 256))).size + (a0.extract 3 a0.size).size ≤ 9223372036854775807 then (some (((a0.extract 0 2) ++ (Utf8.encode (((bt a0 2) + 1) % 256))) ++ (a0.extract 3 a0.size))) else (none)) else (none)) else (none)) else (none)) else (none))) else (none)) = some r := by rw [if_pos rfl] at H; exact H
  clear H
  have H := H1
  clear H1
  by_cases c4 : 2 < (a0.size : Int)
  ·rw [if_pos c4] at H
   have c4b0 : decide (2 < (a0.size : Int)) = true := decide_eq_true c4
   have c4b1 : decide (2 < a0.size) = true := decide_eq_true (by omega)
   clear c4
   by_cases c6 : ((((bt a0 2) - 48) % 256) % 2) = 1
   ·rw [if_pos c6] at H
    have c6b0 : (((((bt a0 2) - 48) % 256) % 2) == 1) = true := beq_iff_eq.mpr c6
    have c6b1 : (((((bt a0 2) - 48) % 256) % 2) != 1) = false := bne_eq_false_iff_eq.mpr c6
    clear c6
    obtain rfl := Option.some.inj H
    go_enter Try.func20, Try.ntmps20
    go_wp2_with (first | (go_at_call 37; (with_reducible refine (impl_isWide.calls k a0 4 true _ A2.out).mono ?_); rintro e w' ⟨rfl, ⟨nd, rfl⟩⟩; (try first | exact ⟨rfl, _, World.drewN_drewN _ _ _⟩ | exact ⟨rfl, _, Eq.trans (World.drewN_drewN _ _ _) (congrArg (World.drewN _) (Nat.add_assoc _ _ _))⟩); have p5 : 0 ≤ (2 : Int) := (by omega); have q5 : 2 < a0.size := (by have : (2 : Int) < (a0.size : Int) := of_decide_eq_true (by first | (with_reducible assumption) | assumption); omega); have hx5 : ∀ h : 2 < a0.size, ((a0[2]'h).toNat : Int) = bt a0 2 := bt_at a0 2; clear p5; have qi5 : (2 < (a0.size : Int)) = True := eq_true (of_decide_eq_true (by first | (with_reducible assumption) | assumption)); replace q5 := eq_true q5))
    repeat (go_quiet (first | (go_at_call 37; (with_reducible refine (impl_isWide.calls k a0 4 true _ A2.out).mono ?_); rintro e w' ⟨rfl, ⟨nd, rfl⟩⟩; (try first | exact ⟨rfl, _, World.drewN_drewN _ _ _⟩ | exact ⟨rfl, _, Eq.trans (World.drewN_drewN _ _ _) (congrArg (World.drewN _) (Nat.add_assoc _ _ _))⟩); have p5 : 0 ≤ (2 : Int) := (by omega); have q5 : 2 < a0.size := (by have : (2 : Int) < (a0.size : Int) := of_decide_eq_true (by first | (with_reducible assumption) | assumption); omega); have hx5 : ∀ h : 2 < a0.size, ((a0[2]'h).toNat : Int) = bt a0 2 := bt_at a0 2; clear p5; have qi5 : (2 < (a0.size : Int)) = True := eq_true (of_decide_eq_true (by first | (with_reducible assumption) | assumption)); replace q5 := eq_true q5)); try go_wp2_with (first | (go_at_call 37; (with_reducible refine (impl_isWide.calls k a0 4 true _ A2.out).mono ?_); rintro e w' ⟨rfl, ⟨nd, rfl⟩⟩; (try first | exact ⟨rfl, _, World.drewN_drewN _ _ _⟩ | exact ⟨rfl, _, Eq.trans (World.drewN_drewN _ _ _) (congrArg (World.drewN _) (Nat.add_assoc _ _ _))⟩); have p5 : 0 ≤ (2 : Int) := (by omega); have q5 : 2 < a0.size := (by have : (2 : Int) < (a0.size : Int) := of_decide_eq_true (by first | (with_reducible assumption) | assumption); omega); have hx5 : ∀ h : 2 < a0.size, ((a0[2]'h).toNat : Int) = bt a0 2 := bt_at a0 2; clear p5; have qi5 : (2 < (a0.size : Int)) = True := eq_true (of_decide_eq_true (by first | (with_reducible assumption) | assumption)); replace q5 := eq_true q5)))
    go_ret
    exact ⟨by first | rfl | (simp; done) | (simp [*]; done) | (simp [i64_w, IntKind.wrap_u8, e256_]; done) | (simp; generalize ByteArray.toList _ = zz_; cases zz_ <;> rfl), by repeat (first | exact Drawn0.refl _ | apply Drawn0.step)⟩
   ·rw [if_neg c6] at H
    have c6b0 : (((((bt a0 2) - 48) % 256) % 2) == 1) = false := beq_eq_false_iff_ne.mpr c6
    have c6b1 : (((((bt a0 2) - 48) % 256) % 2) != 1) = true := bne_iff_ne.mpr c6
    by_cases c7 : 0 ≤ 2
    ·rw [if_pos c7] at H
     have c7b0 := eq_true c7
     have c7b1 : decide (0 ≤ 2) = true := decide_eq_true c7
     clear c7
     by_cases c8 : 2 ≤ (a0.size : Int)
     ·rw [if_pos c8] at H
      have c8b0 := eq_true c8
      have c8b1 : decide (2 ≤ (a0.size : Int)) = true := decide_eq_true c8
      clear c8
      by_cases c10 : (a0.extract 0 2).size + (Utf8.encode (((bt a0 2) + 1) % 256)).size ≤ 9223372036854775807
      ·rw [if_pos c10] at H
       have c10b0 := eq_true c10
       have c10b1 : decide ((a0.extract 0 2).size + (Utf8.encode (((bt a0 2) + 1) % 256)).size ≤ 9223372036854775807) = true := decide_eq_true c10
       try have c10b2 : (9223372036854775807 < (a0.extract 0 2).size + (Utf8.encode (((bt a0 2) + 1) % 256)).size) = False := eq_false (Nat.not_lt.2 c10)
       try (have c10b3 := c10b2; simp only [ByteArray.size_append, ByteArray.size_extract, Nat.sub_zero, Nat.min_self] at c10b3)
       by_cases c11 : 3 ≤ (a0.size : Int)
       ·rw [if_pos c11] at H
        have c11b0 := eq_true c11
        have c11b1 : decide (3 ≤ (a0.size : Int)) = true := decide_eq_true c11
        clear c11
        by_cases c12 : ((a0.extract 0 2) ++ (Utf8.encode (((bt a0 2) + 1) % 256))).size + (a0.extract 3 a0.size).size ≤ 9223372036854775807
        ·rw [if_pos c12] at H
         have c12b0 := eq_true c12
         have c12b1 : decide (((a0.extract 0 2) ++ (Utf8.encode (((bt a0 2) + 1) % 256))).size + (a0.extract 3 a0.size).size ≤ 9223372036854775807) = true := decide_eq_true c12
         try have c12b2 : (9223372036854775807 < ((a0.extract 0 2) ++ (Utf8.encode (((bt a0 2) + 1) % 256))).size + (a0.extract 3 a0.size).size) = False := eq_false (Nat.not_lt.2 c12)
         try (have c12b3 := c12b2; simp only [ByteArray.size_append, ByteArray.size_extract, Nat.sub_zero, Nat.min_self] at c12b3)
         obtain rfl := Option.some.inj H
         go_enter Try.func20, Try.ntmps20
         go_wp2_with (first | (go_at_call 37; (with_reducible refine (impl_isWide.calls k a0 4 true _ A2.out).mono ?_); rintro e w' ⟨rfl, ⟨nd, rfl⟩⟩; (try first | exact ⟨rfl, _, World.drewN_drewN _ _ _⟩ | exact ⟨rfl, _, Eq.trans (World.drewN_drewN _ _ _) (congrArg (World.drewN _) (Nat.add_assoc _ _ _))⟩); have p5 : 0 ≤ (2 : Int) := (by omega); have q5 : 2 < a0.size := (by have : (2 : Int) < (a0.size : Int) := of_decide_eq_true (by first | (with_reducible assumption) | assumption); omega); have hx5 : ∀ h : 2 < a0.size, ((a0[2]'h).toNat : Int) = bt a0 2 := bt_at a0 2; clear p5; have qi5 : (2 < (a0.size : Int)) = True := eq_true (of_decide_eq_true (by first | (with_reducible assumption) | assumption)); replace q5 := eq_true q5; have p9 : 0 ≤ (2 : Int) := (by omega); have q9 : 2 < a0.size := (by have : (2 : Int) < (a0.size : Int) := of_decide_eq_true (by first | (with_reducible assumption) | assumption); omega); have hx9 : ∀ h : 2 < a0.size, ((a0[2]'h).toNat : Int) = bt a0 2 := bt_at a0 2; clear p9; have qi9 : (2 < (a0.size : Int)) = True := eq_true (of_decide_eq_true (by first | (with_reducible assumption) | assumption)); replace q9 := eq_true q9))
         repeat (go_quiet (first | (go_at_call 37; (with_reducible refine (impl_isWide.calls k a0 4 true _ A2.out).mono ?_); rintro e w' ⟨rfl, ⟨nd, rfl⟩⟩; (try first | exact ⟨rfl, _, World.drewN_drewN _ _ _⟩ | exact ⟨rfl, _, Eq.trans (World.drewN_drewN _ _ _) (congrArg (World.drewN _) (Nat.add_assoc _ _ _))⟩); have p5 : 0 ≤ (2 : Int) := (by omega); have q5 : 2 < a0.size := (by have : (2 : Int) < (a0.size : Int) := of_decide_eq_true (by first | (with_reducible assumption) | assumption); omega); have hx5 : ∀ h : 2 < a0.size, ((a0[2]'h).toNat : Int) = bt a0 2 := bt_at a0 2; clear p5; have qi5 : (2 < (a0.size : Int)) = True := eq_true (of_decide_eq_true (by first | (with_reducible assumption) | assumption)); replace q5 := eq_true q5; have p9 : 0 ≤ (2 : Int) := (by omega); have q9 : 2 < a0.size := (by have : (2 : Int) < (a0.size : Int) := of_decide_eq_true (by first | (with_reducible assumption) | assumption); omega); have hx9 : ∀ h : 2 < a0.size, ((a0[2]'h).toNat : Int) = bt a0 2 := bt_at a0 2; clear p9; have qi9 : (2 < (a0.size : Int)) = True := eq_true (of_decide_eq_true (by first | (with_reducible assumption) | assumption)); replace q9 := eq_true q9)); try go_wp2_with (first | (go_at_call 37; (with_reducible refine (impl_isWide.calls k a0 4 true _ A2.out).mono ?_); rintro e w' ⟨rfl, ⟨nd, rfl⟩⟩; (try first | exact ⟨rfl, _, World.drewN_drewN _ _ _⟩ | exact ⟨rfl, _, Eq.trans (World.drewN_drewN _ _ _) (congrArg (World.drewN _) (Nat.add_assoc _ _ _))⟩); have p5 : 0 ≤ (2 : Int) := (by omega); have q5 : 2 < a0.size := (by have : (2 : Int) < (a0.size : Int) := of_decide_eq_true (by first | (with_reducible assumption) | assumption); omega); have hx5 : ∀ h : 2 < a0.size, ((a0[2]'h).toNat : Int) = bt a0 2 := bt_at a0 2; clear p5; have qi5 : (2 < (a0.size : Int)) = True := eq_true (of_decide_eq_true (by first | (with_reducible assumption) | assumption)); replace q5 := eq_true q5; have p9 : 0 ≤ (2 : Int) := (by omega); have q9 : 2 < a0.size := (by have : (2 : Int) < (a0.size : Int) := of_decide_eq_true (by first | (with_reducible assumption) | assumption); omega); have hx9 : ∀ h : 2 < a0.size, ((a0[2]'h).toNat : Int) = bt a0 2 := bt_at a0 2; clear p9; have qi9 : (2 < (a0.size : Int)) = True := eq_true (of_decide_eq_true (by first | (with_reducible assumption) | assumption)); replace q9 := eq_true q9)))
         go_ret
         exact ⟨by first | rfl | (simp; done) | (simp [*]; done) | (simp [i64_w, IntKind.wrap_u8, e256_]; done) | (simp; generalize ByteArray.toList _ = zz_; cases zz_ <;> rfl), by repeat (first | exact Drawn0.refl _ | apply Drawn0.step)⟩
        ·rw [if_neg c12] at H
         exact absurd H (by simp)
       ·rw [if_neg c11] at H
        exact absurd H (by simp)
      ·rw [if_neg c10] at H
       exact absurd H (by simp)
     ·rw [if_neg c8] at H
      exact absurd H (by simp)
    ·rw [if_neg c7] at H
     exact absurd H (by simp)
  ·rw [if_neg c4] at H
   exact absurd H (by simp)
 ·replace c3 := Bool.eq_false_iff.mpr c3
  subst c3
  have H1 : (some (⟨#[]⟩ : ByteArray)) = some r := by rw [if_neg (show ¬ (false = true) by decide)] at H; exact H
  clear H
  have H := H1
  clear H1
  obtain rfl := Option.some.inj H
  go_enter Try.func20, Try.ntmps20
  go_wp2_with (first | (go_at_call 37; (with_reducible refine (impl_isWide.calls k a0 4 false _ A2.out).mono ?_); rintro e w' ⟨rfl, ⟨nd, rfl⟩⟩; (try first | exact ⟨rfl, _, World.drewN_drewN _ _ _⟩ | exact ⟨rfl, _, Eq.trans (World.drewN_drewN _ _ _) (congrArg (World.drewN _) (Nat.add_assoc _ _ _))⟩)))
  repeat (go_quiet (first | (go_at_call 37; (with_reducible refine (impl_isWide.calls k a0 4 false _ A2.out).mono ?_); rintro e w' ⟨rfl, ⟨nd, rfl⟩⟩; (try first | exact ⟨rfl, _, World.drewN_drewN _ _ _⟩ | exact ⟨rfl, _, Eq.trans (World.drewN_drewN _ _ _) (congrArg (World.drewN _) (Nat.add_assoc _ _ _))⟩))); try go_wp2_with (first | (go_at_call 37; (with_reducible refine (impl_isWide.calls k a0 4 false _ A2.out).mono ?_); rintro e w' ⟨rfl, ⟨nd, rfl⟩⟩; (try first | exact ⟨rfl, _, World.drewN_drewN _ _ _⟩ | exact ⟨rfl, _, Eq.trans (World.drewN_drewN _ _ _) (congrArg (World.drewN _) (Nat.add_assoc _ _ _))⟩))))
  go_ret
  exact ⟨by first | rfl | (simp; done) | (simp [*]; done) | (simp [i64_w, IntKind.wrap_u8, e256_]; done) | (simp; generalize ByteArray.toList _ = zz_; cases zz_ <;> rfl), by repeat (first | exact Drawn0.refl _ | apply Drawn0.step)⟩
def impl_rsTexts.f  : Option (List ByteArray) := some (([(⟨#[48, 48]⟩ : ByteArray), (⟨#[51, 48]⟩ : ByteArray), (⟨#[49, 50]⟩ : ByteArray), (⟨#[49, 52]⟩ : ByteArray), (⟨#[49, 51]⟩ : ByteArray), (⟨#[50, 53]⟩ : ByteArray), (⟨#[57, 52]⟩ : ByteArray), (⟨#[53, 49]⟩ : ByteArray), (⟨#[54, 53]⟩ : ByteArray), (⟨#[54, 49]⟩ : ByteArray), (⟨#[57, 54]⟩ : ByteArray)] : List ByteArray))
set_option maxHeartbeats 8000000 in
set_option maxRecDepth 100000 in
theorem impl_rsTexts.calls  (r : List ByteArray) (w : World) (h : impl_rsTexts.f  = some r) :
  Calls Try.prog 39 #[] w fun e w' => ∃ v0_ : Value, e = .returned (v0_) ∧ Kd.R Kd.string 9 w' w.heap.size (fun _ => True) v0_ r ∧ Below w.heap.size w w' := by
 have HB := Aside0.mk (Below.refl w.heap.size w)
 have H : (some (([(⟨#[48, 48]⟩ : ByteArray), (⟨#[51, 48]⟩ : ByteArray), (⟨#[49, 50]⟩ : ByteArray), (⟨#[49, 52]⟩ : ByteArray), (⟨#[49, 51]⟩ : ByteArray), (⟨#[50, 53]⟩ : ByteArray), (⟨#[57, 52]⟩ : ByteArray), (⟨#[53, 49]⟩ : ByteArray), (⟨#[54, 53]⟩ : ByteArray), (⟨#[54, 49]⟩ : ByteArray), (⟨#[57, 54]⟩ : ByteArray)] : List ByteArray))) = some r := h
 clear h
 obtain ⟨y225, hy225⟩ : ∃ y_ : List ByteArray, y_ = (([(⟨#[48, 48]⟩ : ByteArray), (⟨#[51, 48]⟩ : ByteArray), (⟨#[49, 50]⟩ : ByteArray), (⟨#[49, 52]⟩ : ByteArray), (⟨#[49, 51]⟩ : ByteArray), (⟨#[50, 53]⟩ : ByteArray), (⟨#[57, 52]⟩ : ByteArray), (⟨#[53, 49]⟩ : ByteArray), (⟨#[54, 53]⟩ : ByteArray), (⟨#[54, 49]⟩ : ByteArray), (⟨#[57, 54]⟩ : ByteArray)] : List ByteArray)) := ⟨_, rfl⟩
 replace H : (some y225) = some r := by first | (rw [hy225]; with_reducible exact H) | (have H2_ := (Option.bind_some _ _).symm.trans H; rw [hy225]; with_reducible exact H2_) | (have H2_ := (Option.bind_some _ _).symm.trans H; with_reducible exact H2_) | with_reducible exact H | (rw [hy225]; exact H) | exact H
 have Ny225 := Aside0.mk hy225
 clear hy225
 obtain rfl := Option.some.inj H
 go_enter Try.func39, Try.ntmps39
 go_wp2_with (first | ((with_reducible refine gate_dst (N := 1) rfl ?_); refine Kd.R_lit Kd.string _ 9 ?hg (N := 1) ?hd (xs := ([(⟨#[48, 48]⟩ : ByteArray), (⟨#[51, 48]⟩ : ByteArray), (⟨#[49, 50]⟩ : ByteArray), (⟨#[49, 52]⟩ : ByteArray), (⟨#[49, 51]⟩ : ByteArray), (⟨#[50, 53]⟩ : ByteArray), (⟨#[57, 52]⟩ : ByteArray), (⟨#[53, 49]⟩ : ByteArray), (⟨#[54, 53]⟩ : ByteArray), (⟨#[54, 49]⟩ : ByteArray), (⟨#[57, 54]⟩ : ByteArray)] : List ByteArray)) (inner := [.string (⟨#[48, 48]⟩ : ByteArray), .string (⟨#[51, 48]⟩ : ByteArray), .string (⟨#[49, 50]⟩ : ByteArray), .string (⟨#[49, 52]⟩ : ByteArray), .string (⟨#[49, 51]⟩ : ByteArray), .string (⟨#[50, 53]⟩ : ByteArray), .string (⟨#[57, 52]⟩ : ByteArray), .string (⟨#[53, 49]⟩ : ByteArray), .string (⟨#[54, 53]⟩ : ByteArray), .string (⟨#[54, 49]⟩ : ByteArray), .string (⟨#[57, 54]⟩ : ByteArray)]) (ok := fun _ => True) (okp := fun _ => True) ?hr ?hp (fun _ hk => hk) trivial (Below.refl _ _) (Nat.le_refl _) (by simp) ?_; (case hd => rfl); (case hg => rfl); (case hr => first | (go_simp; done) | (go_simp; rfl)); (case hp => exact (Reps.one (show Kd.M Kd.string _ _ _ (⟨#[48, 48]⟩ : ByteArray) [.string (⟨#[48, 48]⟩ : ByteArray)] from rfl) (Reps.one (show Kd.M Kd.string _ _ _ (⟨#[51, 48]⟩ : ByteArray) [.string (⟨#[51, 48]⟩ : ByteArray)] from rfl) (Reps.one (show Kd.M Kd.string _ _ _ (⟨#[49, 50]⟩ : ByteArray) [.string (⟨#[49, 50]⟩ : ByteArray)] from rfl) (Reps.one (show Kd.M Kd.string _ _ _ (⟨#[49, 52]⟩ : ByteArray) [.string (⟨#[49, 52]⟩ : ByteArray)] from rfl) (Reps.one (show Kd.M Kd.string _ _ _ (⟨#[49, 51]⟩ : ByteArray) [.string (⟨#[49, 51]⟩ : ByteArray)] from rfl) (Reps.one (show Kd.M Kd.string _ _ _ (⟨#[50, 53]⟩ : ByteArray) [.string (⟨#[50, 53]⟩ : ByteArray)] from rfl) (Reps.one (show Kd.M Kd.string _ _ _ (⟨#[57, 52]⟩ : ByteArray) [.string (⟨#[57, 52]⟩ : ByteArray)] from rfl) (Reps.one (show Kd.M Kd.string _ _ _ (⟨#[53, 49]⟩ : ByteArray) [.string (⟨#[53, 49]⟩ : ByteArray)] from rfl) (Reps.one (show Kd.M Kd.string _ _ _ (⟨#[54, 53]⟩ : ByteArray) [.string (⟨#[54, 53]⟩ : ByteArray)] from rfl) (Reps.one (show Kd.M Kd.string _ _ _ (⟨#[54, 49]⟩ : ByteArray) [.string (⟨#[54, 49]⟩ : ByteArray)] from rfl) (Reps.one (show Kd.M Kd.string _ _ _ (⟨#[57, 54]⟩ : ByteArray) [.string (⟨#[57, 54]⟩ : ByteArray)] from rfl) (Reps.none _ _))))))))))))); intro v226 w1 ho2 hb hg_ hnew_; clear hg_ hnew_; (first | rw [← Ny225.out] at ho2 | (simp only [Int.reduceToNat] at ho2; rw [← Ny225.out] at ho2)); have n0_ := Aside0.mk (Kd.R_lower ho2 (below_size bB)); have n1_ := Aside0.mk (below_step bB hb); clear HB; have HO227 := n0_; have HB := n1_; clear n0_ n1_; clear hb ho2))
 go_ret
 exact ⟨_, by first | rfl | (simp [errW_none, errW_some] <;> rfl) | (simp [*, errW_none, errW_some] <;> rfl), rA HO227.out, bB⟩
def impl_RsText.f (a0 : Int) : Option (ByteArray) := (impl_within.f a0 0 10).bind fun t228 => (if t228 = true then ((impl_rsTexts.f).bind fun t229 => (if 0 ≤ a0 then (if a0 < (t229.length : Int) then (some (rdOf ByteArray.empty t229 a0)) else (none)) else (none))) else (some (⟨#[]⟩ : ByteArray)))
set_option maxHeartbeats 8000000 in
set_option maxRecDepth 100000 in
theorem impl_RsText.calls (a0 : Int) (r : ByteArray) (w : World) (h : impl_RsText.f a0 = some r) :
  Calls Try.prog 21 #[.int .i64 a0] w fun e w' => e = .returned (.string r) ∧ Below w.heap.size w w' := by
 have HB := Aside0.mk (Below.refl w.heap.size w)
 have H : ((impl_within.f a0 0 10).bind fun t228 => (if t228 = true then ((impl_rsTexts.f).bind fun t229 => (if 0 ≤ a0 then (if a0 < (t229.length : Int) then (some (rdOf ByteArray.empty t229 a0)) else (none)) else (none))) else (some (⟨#[]⟩ : ByteArray)))) = some r := h
 clear h
 replace H := Option.bind_eq_some_iff.mp H
 obtain ⟨t228, A20, H⟩ := H
 replace H : (if t228 = true then ((impl_rsTexts.f).bind fun t229 => (if 0 ≤ a0 then (if a0 < (t229.length : Int) then (some (rdOf ByteArray.empty t229 a0)) else (none)) else (none))) else (some (⟨#[]⟩ : ByteArray))) = some r := H
 have A2 := Aside0.mk A20
 clear A20
 by_cases c3 : t228 = true
 ·subst c3
  have H1 : ((impl_rsTexts.f).bind fun t229 => (if 0 ≤ a0 then (if a0 < (t229.length : Int) then (some (rdOf ByteArray.empty t229 a0)) else (none)) else (none))) = some r := by rw [if_pos rfl] at H; exact H
  clear H
  have H := H1
  clear H1
  replace H := Option.bind_eq_some_iff.mp H
  obtain ⟨t229, A40, H⟩ := H
  replace H : (if 0 ≤ a0 then (if a0 < (t229.length : Int) then (some (rdOf ByteArray.empty t229 a0)) else (none)) else (none)) = some r := H
  have A4 := Aside0.mk A40
  clear A40
  by_cases c5 : 0 ≤ a0
  ·rw [if_pos c5] at H
   have c5b0 : decide (0 ≤ a0) = true := decide_eq_true c5
   clear c5
   by_cases c6 : a0 < (t229.length : Int)
   ·rw [if_pos c6] at H
    have c6b0 : decide (a0 < (t229.length : Int)) = true := decide_eq_true c6
    clear c6
    obtain rfl := Option.some.inj H
    go_enter Try.func21, Try.ntmps21
    go_wp2_with (first | ((with_reducible refine gate_callee (f := 38) rfl ?_); refine goesM_ (some 4) rfl rfl Try.func38 (by kernel_rfl) rfl #[.int .i64 a0, .int .i64 0, .int .i64 10] rfl ?_; (with_reducible refine (impl_within.calls a0 0 10 true _ A2.out).mono ?_); rintro e w' ⟨rfl, ⟨nd, rfl⟩⟩; refine ⟨_, rfl, ?_⟩) | ((with_reducible refine gate_callee (f := 39) rfl ?_); refine goesM_ (some 6) rfl rfl Try.func39 (by kernel_rfl) rfl #[] rfl ?_; (with_reducible refine (impl_rsTexts.calls  t229 _ A4.out).mono ?_); rintro e w7 ⟨v230, rfl, ho0, hb⟩; refine ⟨_, rfl, ?_⟩; have n0_ := Aside0.mk (Kd.R_lower ho0 (below_size bB)); have n1_ := Aside0.mk (below_step bB hb); clear HB; have HO231 := n0_; have HB := n1_; clear n0_ n1_; (try clear hb); (try clear hb2); (try clear hk); (try clear hi); (try clear ho0); obtain ⟨Ao8, co8, eo8⟩ := Kd.R_slice HO231.out; subst eo8; have p232 : 0 ≤ (a0 : Int) := of_decide_eq_true (by first | (with_reducible assumption) | assumption); have q232 : a0 < (t229.length : Int) := of_decide_eq_true (by first | (with_reducible assumption) | assumption); obtain ⟨ad232, e232, hx232_0⟩ := Kd.at_string (Kd.R_reads' HO231.out).2.2 a0 p232 q232; cases e232; replace p232 := eq_true p232; replace q232 := eq_true q232))
    go_ret
    exact ⟨by first | rfl | (simp [errW_none, errW_some] <;> rfl) | (simp [*, errW_none, errW_some] <;> rfl), bB⟩
   ·rw [if_neg c6] at H
    exact absurd H (by simp)
  ·rw [if_neg c5] at H
   exact absurd H (by simp)
 ·replace c3 := Bool.eq_false_iff.mpr c3
  subst c3
  have H1 : (some (⟨#[]⟩ : ByteArray)) = some r := by rw [if_neg (show ¬ (false = true) by decide)] at H; exact H
  clear H
  have H := H1
  clear H1
  obtain rfl := Option.some.inj H
  go_enter Try.func21, Try.ntmps21
  go_wp2_with (first | ((with_reducible refine gate_callee (f := 38) rfl ?_); refine goesM_ (some 4) rfl rfl Try.func38 (by kernel_rfl) rfl #[.int .i64 a0, .int .i64 0, .int .i64 10] rfl ?_; (with_reducible refine (impl_within.calls a0 0 10 false _ A2.out).mono ?_); rintro e w' ⟨rfl, ⟨nd, rfl⟩⟩; refine ⟨_, rfl, ?_⟩))
  go_ret
  exact ⟨by first | rfl | (simp [errW_none, errW_some] <;> rfl) | (simp [*, errW_none, errW_some] <;> rfl), bB⟩
end Go.Proofs.Ytnnnglbjipiclaa.Q
end
section
namespace Go.Proofs.Ytnnnglbjipiclaa.Q
open Go.RowKit Go.Proofs.YtnnnglbjipiclaaW.PrintWords Go.Proofs.YtnnnglbjipiclaaW.PrintLast Go.Proofs.YtnnnglbjipiclaaW.PrintMore
set_option linter.unusedVariables false
set_option linter.unusedSimpArgs false
def replyL (l : List Int) : List Int := if digs l && decide (l.length = 4) && decide (rd l 2 % 2 = 0) then l.take 2 ++ [rd l 2 + 1] ++ l.drop 3 else []
theorem encode_small (c : Int) (h0 : 0 ≤ c) (h1 : c < 128) : Utf8.encode c = strOfNums [c] := by
  have h : ∀ n : Fin 128, (Utf8.encode (n.val : Int)).data.toList = (strOfNums [(n.val : Int)]).data.toList := by decide +kernel
  have := h ⟨c.toNat, by omega⟩
  have e : ((c.toNat : Nat) : Int) = c := by omega
  simp only [e] at this
  revert this
  generalize Utf8.encode c = x
  generalize strOfNums [c] = y
  intro this
  cases x; cases y
  congr 1
  exact Array.toList_inj.1 this
theorem extract_str (s : ByteArray) (a b : Nat) : s.extract a b = strOfNums (((bytesOf s).take b).drop a) := by
  rw [← bytesOf_extract, strOfNums_bytesOf]
theorem spec_ReplyMti_at (s : ByteArray) (hs : s.size ≤ 10000000) (k : Nat) (hk : s.size < k) : spec_ReplyMti.f k s = some (strOfNums (replyL (bytesOf s))) := by
  unfold spec_ReplyMti.f replyL
  rw [spec_Digits_at s (by omega) k hk, bytesOf_length]
  simp only [Option.bind_some]
  by_cases h : digs (bytesOf s) = true
  · rw [if_pos h, h]
    by_cases h4 : s.size = 4
    · have c1 : (s.size : Int) = 4 := by omega
      have c2 : 2 < (s.size : Int) := by omega
      have c3 : (0 : Int) ≤ 2 := by omega
      have c4 : 2 ≤ (s.size : Int) := by omega
      have c5 : 3 ≤ (s.size : Int) := by omega
      obtain ⟨b0, b1⟩ := dig_bounds (all_at (bytesOf s) isDig (digs_both _ h).1 2 (by rw [bytesOf_length]; omega))
      have hb : bt s 2 = rd (bytesOf s) ((2 : Nat) : Int) := bt_eq s 2
      rw [if_pos c1, if_pos c2]
      simp only [if_pos c3, if_pos c4, if_pos c5, hb]
      have hb2 : rd (bytesOf s) 2 = rd (bytesOf s) ((2 : Nat) : Int) := rfl
      rw [hb2]
      generalize rd (bytesOf s) ((2 : Nat) : Int) = b at b0 b1
      have e1 : Int.tmod b 2 = b % 2 := Int.tmod_eq_emod_of_nonneg (by omega)
      have e2 : (b + 1) % 256 = b + 1 := by omega
      rw [e1]
      by_cases h5 : b % 2 = 1
      · have : ¬ b % 2 = 0 := by omega
        rw [if_pos h5]
        simp [this, h4]
        rfl
      · have h6 : b % 2 = 0 := by omega
        have z1 : (s.extract 0 2).size = 2 := by rw [ByteArray.size_extract]; omega
        have z2 : (s.extract 3 s.size).size = 1 := by rw [ByteArray.size_extract]; omega
        have z3 : (strOfNums [b + 1]).size = 1 := strOfNums_size _
        have q1 : (s.extract 0 2).size + (strOfNums [b + 1]).size ≤ 9223372036854775807 := by omega
        have q2 : ((s.extract 0 2) ++ strOfNums [b + 1]).size + (s.extract 3 s.size).size ≤ 9223372036854775807 := by rw [ByteArray.size_append]; omega
        rw [if_neg h5]
        simp only [Option.bind_some, e2, if_pos q1, if_pos q2]
        have p : (true && decide (s.size = 4) && decide (b % 2 = 0)) = true := by simp [h4, h6]
        rw [if_pos p, strOfNums_append, strOfNums_append, extract_str, extract_str, List.drop_zero, List.take_of_length_le (i := s.size) (by rw [bytesOf_length]; omega)]
        exact if_pos (by decide)
    · have c1 : ¬ (s.size : Int) = 4 := by omega
      rw [if_neg c1]
      simp [h4]
      rfl
  · rw [if_neg h]
    simp [h]
    rfl
theorem impl_isWide_at (s : ByteArray) (hs : s.size ≤ 10000000) (n : Int) (k : Nat) (hk : s.size < k) : impl_isWide.f k s n = some (digs (bytesOf s) && ((s.size : Int) == n)) := by
  unfold impl_isWide.f
  rw [impl_Digits_at s (by omega) k hk]
  simp only [Option.bind_some]
  by_cases h : digs (bytesOf s) = true
  · rw [if_pos h, h, Bool.true_and]
  · rw [if_neg h]
    simp [h]
theorem impl_ReplyMti_at (s : ByteArray) (hs : s.size ≤ 10000000) (k : Nat) (hk : s.size < k) : impl_ReplyMti.f k s = some (strOfNums (replyL (bytesOf s))) := by
  unfold impl_ReplyMti.f replyL
  rw [impl_isWide_at s hs 4 k hk, bytesOf_length]
  simp only [Option.bind_some]
  by_cases h : digs (bytesOf s) = true
  · rw [h]
    by_cases h4 : s.size = 4
    · have c0 : (true && ((s.size : Int) == 4)) = true := by simp [h4]
      have c2 : 2 < (s.size : Int) := by omega
      have c3 : (0 : Int) ≤ 2 := by omega
      have c4 : 2 ≤ (s.size : Int) := by omega
      have c5 : 3 ≤ (s.size : Int) := by omega
      obtain ⟨b0, b1⟩ := dig_bounds (all_at (bytesOf s) isDig (digs_both _ h).1 2 (by rw [bytesOf_length]; omega))
      have hb : bt s 2 = rd (bytesOf s) ((2 : Nat) : Int) := bt_eq s 2
      rw [if_pos c0, if_pos c2]
      simp only [if_pos c3, if_pos c4, if_pos c5, hb]
      have hb2 : rd (bytesOf s) 2 = rd (bytesOf s) ((2 : Nat) : Int) := rfl
      rw [hb2]
      generalize rd (bytesOf s) ((2 : Nat) : Int) = b at b0 b1
      have e1 : ((b - 48) % 256) % 2 = b % 2 := by omega
      have e2 : (b + 1) % 256 = b + 1 := by omega
      rw [e1]
      by_cases h5 : b % 2 = 1
      · have : ¬ b % 2 = 0 := by omega
        rw [if_pos h5]
        simp [this, h4]
        rfl
      · have h6 : b % 2 = 0 := by omega
        have en := encode_small (b + 1) (by omega) (by omega)
        have z1 : (s.extract 0 2).size = 2 := by rw [ByteArray.size_extract]; omega
        have z2 : (s.extract 3 s.size).size = 1 := by rw [ByteArray.size_extract]; omega
        have z3 : (strOfNums [b + 1]).size = 1 := strOfNums_size _
        have q1 : (s.extract 0 2).size + (strOfNums [b + 1]).size ≤ 9223372036854775807 := by omega
        have q2 : ((s.extract 0 2) ++ strOfNums [b + 1]).size + (s.extract 3 s.size).size ≤ 9223372036854775807 := by rw [ByteArray.size_append]; omega
        rw [if_neg h5]
        simp only [e2, en, if_pos q1, if_pos q2]
        have p : (true && decide (s.size = 4) && decide (b % 2 = 0)) = true := by simp [h4, h6]
        rw [if_pos p, strOfNums_append, strOfNums_append, extract_str, extract_str, List.drop_zero, List.take_of_length_le (i := s.size) (by rw [bytesOf_length]; omega)]
        exact if_pos (by decide)
    · have c0 : ¬ (true && ((s.size : Int) == 4)) = true := by simp; omega
      rw [if_neg c0]
      simp [h4]
      rfl
  · have c0 : ¬ (digs (bytesOf s) && ((s.size : Int) == 4)) = true := by simp [h]
    rw [if_neg c0]
    simp [h]
    rfl
abbrev LF := S51
abbrev IF := S45
theorem rdL_nat (l : List LF) (n : Nat) (h : n < l.length) : rd_T51 l (n : Int) = l[n] := by
  unfold rd_T51
  simp [List.getD, h]
theorem rdF_nat (l : List IF) (n : Nat) (h : n < l.length) : rd_T45 l (n : Int) = l[n] := by
  unfold rd_T45
  simp [List.getD, h]
theorem dropL (l : List LF) (n : Nat) (h : n < l.length) : l.drop n = rd_T51 l (n : Int) :: l.drop (n + 1) := by
  rw [List.drop_eq_getElem_cons h, rdL_nat l n h]
theorem dropF (l : List IF) (n : Nat) (h : n < l.length) : l.drop n = rd_T45 l (n : Int) :: l.drop (n + 1) := by
  rw [List.drop_eq_getElem_cons h, rdF_nat l n h]
theorem rdF_mem (l : List IF) (n : Nat) (h : n < l.length) : rd_T45 l (n : Int) ∈ l := by
  rw [rdF_nat l n h]
  exact List.getElem_mem h
theorem rdL_mem (l : List LF) (n : Nat) (h : n < l.length) : rd_T51 l (n : Int) ∈ l := by
  rw [rdL_nat l n h]
  exact List.getElem_mem h
theorem rdF_set_same (y : List IF) (n : Nat) (v : IF) (h : n < y.length) : rd_T45 (y.set n v) (n : Int) = v := by
  rw [rdF_nat _ _ (by simpa using h)]
  simp
theorem rdF_set_other (y : List IF) (n j : Nat) (v : IF) (h : j ≠ n) : rd_T45 (y.set n v) (j : Int) = rd_T45 y (j : Int) := by
  unfold rd_T45
  simp [List.getD, List.getElem?_set, Ne.symm h]
theorem intNat (n : Nat) : ((n : Int) : Int).toNat = n := by simp
theorem w64s {n : Nat} (h : n ≤ 140737488351232) : wrap64 ((n : Int) + 1) = ((n + 1 : Nat) : Int) := by unfold wrap64; omega
def okFrom : Option Int → List IF → Bool
  | _, [] => true
  | p, f :: t => fieldOk f.f0 (bytesOf f.f1) && (match p with | none => true | some q => decide (q < f.f0)) && okFrom (some f.f0) t
theorem okFrom_cons (p : Option Int) (f : IF) (t : List IF) : okFrom p (f :: t) = (fieldOk f.f0 (bytesOf f.f1) && (match p with | none => true | some q => decide (q < f.f0)) && okFrom (some f.f0) t) := by
  cases p <;> rfl
def isMti (m : ByteArray) : Bool := digs (bytesOf m) && decide (m.size = 4)
def msgOk (m : ByteArray) (l : List IF) : Bool := isMti m && okFrom none l
def prevOf (l : List IF) (n : Nat) : Option Int := if n = 0 then none else some (rd_T45 l (((n - 1 : Nat)) : Int)).f0
theorem spec_MsgOk_l (m : ByteArray) (l : List IF) (hl : l.length ≤ 10000000) (B : Nat) (hB : B ≤ 10000000) (hw : ∀ f ∈ l, f.f1.size ≤ B) : ∀ (d n k : Nat), n + d = l.length → d + B + 30 < k →
    spec_MsgOk.l0 k l (l.length : Int) (n : Int) m l = some (okFrom (prevOf l n) (l.drop n)) := by
  intro d
  induction d with
  | zero =>
    intro n k hd hk
    obtain ⟨k, rfl⟩ : ∃ m, k = m + 1 := ⟨k - 1, by omega⟩
    have c1 : ¬ (n : Int) < (l.length : Int) := by omega
    simp only [spec_MsgOk.l0, if_neg c1]
    rw [List.drop_of_length_le (by omega)]
    rfl
  | succ d ih =>
    intro n k hd hk
    obtain ⟨k, rfl⟩ : ∃ m, k = m + 1 := ⟨k - 1, by omega⟩
    have c1 : (n : Int) < (l.length : Int) := by omega
    have c2 : 0 ≤ (n : Int) := by omega
    have hs := hw _ (rdF_mem l n (by omega))
    have hp : prevOf l (n + 1) = some (rd_T45 l (n : Int)).f0 := by unfold prevOf; rw [if_neg (by omega)]; rfl
    have ih' := ih (n + 1) k (by omega) (by omega)
    rw [hp] at ih'
    rw [dropF l n (by omega), okFrom_cons]
    simp only [spec_MsgOk.l0, if_pos c1, if_pos c2, w64s (n := n) (by omega)]
    rw [spec_FieldOk_at _ _ (by omega) k (by omega), Option.bind_some]
    by_cases h : fieldOk (rd_T45 l (n : Int)).f0 (bytesOf (rd_T45 l (n : Int)).f1) = true
    · rw [if_pos h, h, Bool.true_and]
      by_cases h0 : n = 0
      · have hpn : prevOf l n = none := by unfold prevOf; rw [if_pos h0]
        rw [if_neg (by omega), hpn, ih', Bool.true_and]
      · have hpn : prevOf l n = some (rd_T45 l ((n - 1 : Nat) : Int)).f0 := by unfold prevOf; rw [if_neg h0]
        have e : wrap64 ((n : Int) - 1) = ((n - 1 : Nat) : Int) := by rw [w64id (by omega) (by omega)]; omega
        rw [if_pos (by omega), e, if_pos (by omega), if_pos (by omega), hpn, ih']
        generalize (rd_T45 l (n : Int)).f0 = u
        generalize (rd_T45 l ((n - 1 : Nat) : Int)).f0 = v
        by_cases g : v ≥ u
        · rw [if_pos g]
          have : decide (v < u) = false := decide_eq_false (by omega)
          simp only [this, Bool.false_and]
        · rw [if_neg g]
          have : decide (v < u) = true := decide_eq_true (by omega)
          simp only [this, Bool.true_and]
    · rw [if_neg h]
      simp [h]
theorem impl_MsgOk_l (m : ByteArray) (hm : m.size ≤ 10000000) (l : List IF) (hl : l.length ≤ 10000000) (B : Nat) (hB : B ≤ 10000000) (hw : ∀ f ∈ l, f.f1.size ≤ B) : ∀ (d n k : Nat), n + d = l.length → d + B + m.size + 30 < k →
    impl_MsgOk.l0 k l (l.length : Int) (n : Int) m l = some (okFrom (prevOf l n) (l.drop n) && isMti m) := by
  intro d
  induction d with
  | zero =>
    intro n k hd hk
    obtain ⟨k, rfl⟩ : ∃ m, k = m + 1 := ⟨k - 1, by omega⟩
    have c1 : ¬ (n : Int) < (l.length : Int) := by omega
    simp only [impl_MsgOk.l0, if_neg c1]
    rw [List.drop_of_length_le (by omega)]
    unfold impl_isWide.f isMti
    rw [impl_Digits_at m (by omega) k (by omega), Option.bind_some]
    have e : ((m.size : Int) == 4) = decide (m.size = 4) := by
      by_cases h : m.size = 4
      · rw [h]; rfl
      · have h' : ¬ (m.size : Int) = 4 := by omega
        rw [decide_eq_false h]
        simpa using h'
    rw [e]
    cases digs (bytesOf m) <;> simp [okFrom]
  | succ d ih =>
    intro n k hd hk
    obtain ⟨k, rfl⟩ : ∃ m, k = m + 1 := ⟨k - 1, by omega⟩
    have c1 : (n : Int) < (l.length : Int) := by omega
    have c2 : 0 ≤ (n : Int) := by omega
    have hs := hw _ (rdF_mem l n (by omega))
    have hp : prevOf l (n + 1) = some (rd_T45 l (n : Int)).f0 := by unfold prevOf; rw [if_neg (by omega)]; rfl
    have ih' := ih (n + 1) k (by omega) (by omega)
    rw [hp] at ih'
    rw [dropF l n (by omega), okFrom_cons]
    simp only [impl_MsgOk.l0, if_pos c1, if_pos c2, w64s (n := n) (by omega)]
    rw [impl_FieldOk_at _ _ (by omega) k (by omega), Option.bind_some]
    by_cases h : fieldOk (rd_T45 l (n : Int)).f0 (bytesOf (rd_T45 l (n : Int)).f1) = true
    · rw [if_pos h, h, Bool.true_and]
      by_cases h0 : n = 0
      · have hpn : prevOf l n = none := by unfold prevOf; rw [if_pos h0]
        rw [if_neg (by omega), hpn, ih', Bool.true_and]
      · have hpn : prevOf l n = some (rd_T45 l ((n - 1 : Nat) : Int)).f0 := by unfold prevOf; rw [if_neg h0]
        have e : wrap64 ((n : Int) - 1) = ((n - 1 : Nat) : Int) := by rw [w64id (by omega) (by omega)]; omega
        rw [if_pos (by omega), e, if_pos (by omega), if_pos (by omega), hpn, ih']
        generalize (rd_T45 l (n : Int)).f0 = u
        generalize (rd_T45 l ((n - 1 : Nat) : Int)).f0 = v
        by_cases g : u ≤ v
        · rw [if_pos g]
          have : decide (v < u) = false := decide_eq_false (by omega)
          simp only [this, Bool.false_and]
        · rw [if_neg g]
          have : decide (v < u) = true := decide_eq_true (by omega)
          simp only [this, Bool.true_and]
    · rw [if_neg h]
      simp [h]
theorem spec_MsgOk_at (m : ByteArray) (l : List IF) (hm : m.size ≤ 10000000) (hl : l.length ≤ 10000000) (B : Nat) (hB : B ≤ 10000000) (hw : ∀ f ∈ l, f.f1.size ≤ B) (k : Nat) (hk : l.length + B + m.size + 40 < k) : spec_MsgOk.f k m l = some (msgOk m l) := by
  obtain ⟨k, rfl⟩ : ∃ m, k = m + 1 := ⟨k - 1, by omega⟩
  unfold spec_MsgOk.f msgOk isMti
  rw [spec_Digits_at m (by omega) _ (by omega), Option.bind_some]
  by_cases h : digs (bytesOf m) = true
  · rw [if_pos h, h, Bool.true_and, spec_MsgOk.j0]
    by_cases h4 : m.size = 4
    · have e : ((m.size : Int) != 4) = false := by rw [h4]; rfl
      rw [e, decide_eq_true h4, Bool.true_and, if_neg (by simp)]
      exact spec_MsgOk_l m l hl B hB hw l.length 0 k (by omega) (by omega)
    · have e : ((m.size : Int) != 4) = true := by simp; omega
      rw [e, decide_eq_false h4, Bool.false_and, if_pos rfl]
  · rw [if_neg h, spec_MsgOk.j0, if_pos rfl]
    simp [h]
theorem impl_MsgOk_at (m : ByteArray) (l : List IF) (hm : m.size ≤ 10000000) (hl : l.length ≤ 10000000) (B : Nat) (hB : B ≤ 10000000) (hw : ∀ f ∈ l, f.f1.size ≤ B) (k : Nat) (hk : l.length + B + m.size + 40 < k) : impl_MsgOk.f k m l = some (msgOk m l) := by
  unfold impl_MsgOk.f
  have h := impl_MsgOk_l m hm l hl B hB hw l.length 0 k (by omega) (by omega)
  unfold msgOk
  rw [Bool.and_comm]
  exact h
end Go.Proofs.Ytnnnglbjipiclaa.Q
end
