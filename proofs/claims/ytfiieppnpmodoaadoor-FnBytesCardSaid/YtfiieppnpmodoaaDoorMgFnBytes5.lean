/- Texts for FnBytes, packed by a program of this session (wip/pack.py), part 5 of 7: the print's words that are used, the printed walks, the plain laws, the row; no condition. -/
import Derived.Test.YtfiieppnpmodoaaDoorMgFnBytes4
section
namespace Go.Proofs.YtfiieppnpmodoaaDoor.Q
open Go.RowKit Go.Proofs.YtfiieppnpmodoaaDoorW.PrintWords Go.Proofs.YtfiieppnpmodoaaDoorW.PrintLast Go.Proofs.YtfiieppnpmodoaaDoorW.PrintMore
attribute [local go_sem] max2_int min2_int max_two min_two max_three min_three max_four min_four
set_option linter.unusedVariables false
set_option linter.unusedSimpArgs false
def spec_l04Draw.l0 : Nat → List Int → Int → Int → List Int → Int → Int → ByteArray → List (S79) → Option (ByteArray × (List (S79)) × Int × Int)
 | 0, _, _, _, _, _, _, _, _ => none
 | k + 1, x10, x11, x12, x1000, x1001, x1002, x652000, x652001 => if x12 < x11 then (if 0 ≤ x12 then (if x12 < (x10.length : Int) then ((spec_l01Once.f x1000 x1001 x1002 3).bind fun bt656 => (if bt656.1 = true then ((spec_l03Text.f k x1000 bt656.2.1 bt656.2.2 (rd x10 x12)).bind fun bt659 => (if x652001.length < 5864062014805 then (spec_l04Draw.l0 k x10 x11 (wrap64 (x12 + 1)) x1000 bt659.2.1 bt659.2.2 x652000 (x652001 ++ [(⟨rd x10 x12, bt659.1⟩ : S79)])) else (none))) else (spec_l04Draw.l0 k x10 x11 (wrap64 (x12 + 1)) x1000 bt656.2.1 bt656.2.2 x652000 x652001))) else (none)) else (none)) else (some (x652000, x652001, x1001, x1002))
def spec_l04Draw.f (k : Nat) (s0_0 : List Int) (s0_1 : Int) (s0_2 : Int) : Option (ByteArray × (List (S79)) × Int × Int) := (spec_l01Str.f s0_0 s0_1 s0_2 (([(⟨#[48, 49, 48, 48]⟩ : ByteArray), (⟨#[48, 50, 48, 48]⟩ : ByteArray), (⟨#[48, 50, 50, 48]⟩ : ByteArray), (⟨#[48, 49, 49, 48]⟩ : ByteArray), (⟨#[48, 56, 48, 48]⟩ : ByteArray), (⟨#[49, 50, 51, 52]⟩ : ByteArray), (⟨#[48, 48, 48, 48]⟩ : ByteArray)] : List ByteArray))).bind fun bt648 => ((spec_FieldNos.f k).bind fun t652 => (spec_l04Draw.l0 k t652 (t652.length : Int) 0 s0_0 bt648.2.1 bt648.2.2 bt648.1 ([] : List (S79))))
def spec_l04Draw.T6 : Bool × List (List Nat × List Nat) := (true, [([], []), ([0], [0]), ([], []), ([], []), ([], []), ([3, 4], [3, 4]), ([2, 5], [2, 5]), ([6], [6]), ([1, 7, 5], [1, 7]), ([0, 1, 2, 3, 4, 5, 6, 7, 8], []), ([9, 8, 8, 0, 1, 2, 3, 4, 5, 6, 7, 8], [8, 9])])
def spec_l04Draw.B6 : List Nat := [0, 1, 0, 0, 0, 24, 60, 124, 255, 511, 1023]
theorem spec_l04Draw.tab6 : rtab .any (opsOf Tryd.f70 6) = spec_l04Draw.T6 := by kernel_rfl
theorem spec_l04Draw.bits6 : waitsOk spec_l04Draw.T6.2 spec_l04Draw.B6 = true := by kernel_rfl
set_option maxHeartbeats 8000000 in
set_option maxRecDepth 100000 in
theorem spec_l04Draw.calls (k : Nat) (g : Nat) (s0_0 : List Int) (s0_1 : Int) (s0_2 : Int) (r1 : ByteArray) (r2 : List (S79)) (r3 : Int) (r4 : Int) (w0 w : World) (hI : IsS71 w0 w g s0_0 s0_1 s0_2) (hB : Below w0.heap.size w0 w) (h : spec_l04Draw.f k s0_0 s0_1 s0_2 = some (r1, r2, r3, r4)) :
  Calls Tryd.prog 70 #[.pointer (some ⟨g, 0, none⟩)] w fun e w' => ∃ v1_ : Value, e = .returned (.agg #[.string r1, v1_]) ∧ Kd.R k79 79 w' w.heap.size (fun _ => True) v1_ r2 ∧ IsS71 w0 w' g s0_0 r3 r4 ∧ Below w0.heap.size w0 w' ∧ KeepBut w w' g none := by
 have hu49 := Tryd.underlying49
 have hu79 := Tryd.underlying79
 have HI0 := Aside0.mk hI
 have HK := Aside0.mk (KeepBut.refl w g none)
 have HL := Aside0.mk hB.size
 clear hI
 have HW0 := Aside0.mk hB.size
 have HB := Aside0.mk hB
 clear hB
 have H : ((spec_l01Str.f s0_0 s0_1 s0_2 (([(⟨#[48, 49, 48, 48]⟩ : ByteArray), (⟨#[48, 50, 48, 48]⟩ : ByteArray), (⟨#[48, 50, 50, 48]⟩ : ByteArray), (⟨#[48, 49, 49, 48]⟩ : ByteArray), (⟨#[48, 56, 48, 48]⟩ : ByteArray), (⟨#[49, 50, 51, 52]⟩ : ByteArray), (⟨#[48, 48, 48, 48]⟩ : ByteArray)] : List ByteArray))).bind fun bt648 => ((spec_FieldNos.f k).bind fun t652 => (spec_l04Draw.l0 k t652 (t652.length : Int) 0 s0_0 bt648.2.1 bt648.2.2 bt648.1 ([] : List (S79))))) = some (r1, r2, r3, r4) := h
 clear h
 obtain ⟨y645, hy645⟩ : ∃ y_ : List ByteArray, y_ = (([(⟨#[48, 49, 48, 48]⟩ : ByteArray), (⟨#[48, 50, 48, 48]⟩ : ByteArray), (⟨#[48, 50, 50, 48]⟩ : ByteArray), (⟨#[48, 49, 49, 48]⟩ : ByteArray), (⟨#[48, 56, 48, 48]⟩ : ByteArray), (⟨#[49, 50, 51, 52]⟩ : ByteArray), (⟨#[48, 48, 48, 48]⟩ : ByteArray)] : List ByteArray)) := ⟨_, rfl⟩
 replace H : ((spec_l01Str.f s0_0 s0_1 s0_2 y645).bind fun bt648 => ((spec_FieldNos.f k).bind fun t652 => (spec_l04Draw.l0 k t652 (t652.length : Int) 0 s0_0 bt648.2.1 bt648.2.2 bt648.1 ([] : List (S79))))) = some (r1, r2, r3, r4) := by first | (rw [hy645]; with_reducible exact H) | (have H2_ := (Option.bind_some _ _).symm.trans H; rw [hy645]; with_reducible exact H2_) | (have H2_ := (Option.bind_some _ _).symm.trans H; with_reducible exact H2_) | with_reducible exact H | (rw [hy645]; exact H) | exact H
 have Ny645 := Aside0.mk hy645
 clear hy645
 replace H := Option.bind_eq_some_iff.mp H
 obtain ⟨⟨t648, t649, t650⟩, A20, H⟩ := H
 replace H : ((spec_FieldNos.f k).bind fun t652 => (spec_l04Draw.l0 k t652 (t652.length : Int) 0 s0_0 t649 t650 t648 ([] : List (S79)))) = some (r1, r2, r3, r4) := H
 have A2 := Aside0.mk A20
 clear A20
 replace H := Option.bind_eq_some_iff.mp H
 obtain ⟨t652, A30, H⟩ := H
 replace H : (spec_l04Draw.l0 k t652 (t652.length : Int) 0 s0_0 t649 t650 t648 ([] : List (S79))) = some (r1, r2, r3, r4) := H
 have A3 := Aside0.mk A30
 clear A30
 have H' := Aside0.mk H
 clear H
 go_enter Tryd.func70, Tryd.ntmps70
 go_wp2_with (first | ((with_reducible refine gate_dst (N := 2) rfl ?_); refine box_event ?hg (N := 2) ?hd (cs := #[.string (⟨#[]⟩ : ByteArray), .slice none 0 0]) (t := 49) ?hr ?_; (case hd => rfl); (case hg => rfl); (case hr => first | (go_simp; done) | (go_simp; rfl)); intro gb644 hg w4 hbox hb; have n0_ := Aside0.mk (IsS71.below (by repeat (first | (with_reducible first | exact HI0.out | apply IsS71.alloc | apply IsS71.drewN | apply IsS71.drew | apply IsS71.set_1 | apply IsS71.set_2) | exact HI0.out)) hb); have n1_ := Aside0.mk (KeepBut.trans (by repeat (first | (with_reducible first | exact HK.out | apply KeepBut.set_ | apply keep_drewN | apply keep_drew | apply keep_alloc) | exact HK.out)) (KeepBut.of_below hb g none) (.inl rfl)); have n2_ := Aside0.mk (below_step (by repeat (first | (with_reducible first | exact HB.out | apply below_alloc | apply pw_below_drewN | apply below_drew1 | refine below_set ?_ (IsS71.ge HI0.out)) | exact HB.out)) hb); have n3_ := Aside0.mk (hbox); have n4_ := Aside0.mk ((by rw [hg]; exact (keep_size (w := w) (g := g) (row := none) (by repeat (first | (with_reducible first | exact HK.out | apply KeepBut.set_ | apply keep_drewN | apply keep_drew | apply keep_alloc) | exact HK.out))) : w.heap.size ≤ gb644)); have n5_ := Aside0.mk ((Nat.le_trans HW0.out (by rw [hg]; exact (keep_size (w := w) (g := g) (row := none) (by repeat (first | (with_reducible first | exact HK.out | apply KeepBut.set_ | apply keep_drewN | apply keep_drew | apply keep_alloc) | exact HK.out))) : w.heap.size ≤ gb644) : w0.heap.size ≤ gb644)); have n6_ := Aside0.mk ((by rw [hg]; exact Nat.ne_of_lt (IsS71.lt (show IsS71 w0 _ g s0_0 s0_1 s0_2 from by repeat (first | (with_reducible first | exact HI0.out | apply IsS71.alloc | apply IsS71.drewN | apply IsS71.drew | apply IsS71.set_1 | apply IsS71.set_2) | exact HI0.out))) : g ≠ gb644)); have n7_ := Aside0.mk ((by rw [hg]; exact Nat.ne_of_gt (IsS71.lt (show IsS71 w0 _ g s0_0 s0_1 s0_2 from by repeat (first | (with_reducible first | exact HI0.out | apply IsS71.alloc | apply IsS71.drewN | apply IsS71.drew | apply IsS71.set_1 | apply IsS71.set_2) | exact HI0.out))) : gb644 ≠ g)); clear HI0; clear HK; clear HB; have HI0 := n0_; have HK := n1_; have HB := n2_; have BK644 := n3_; have GW644 := n4_; have GE644 := n5_; have NB0_644 := n6_; have NB644_0 := n7_; clear n0_ n1_ n2_ n3_ n4_ n5_ n6_ n7_; clear hb hbox hg) | ((with_reducible refine gate_dst (N := 7) rfl ?_); refine Kd.R_lit Kd.string _ 9 ?hg (N := 7) ?hd (xs := ([(⟨#[48, 49, 48, 48]⟩ : ByteArray), (⟨#[48, 50, 48, 48]⟩ : ByteArray), (⟨#[48, 50, 50, 48]⟩ : ByteArray), (⟨#[48, 49, 49, 48]⟩ : ByteArray), (⟨#[48, 56, 48, 48]⟩ : ByteArray), (⟨#[49, 50, 51, 52]⟩ : ByteArray), (⟨#[48, 48, 48, 48]⟩ : ByteArray)] : List ByteArray)) (inner := [.string (⟨#[48, 49, 48, 48]⟩ : ByteArray), .string (⟨#[48, 50, 48, 48]⟩ : ByteArray), .string (⟨#[48, 50, 50, 48]⟩ : ByteArray), .string (⟨#[48, 49, 49, 48]⟩ : ByteArray), .string (⟨#[48, 56, 48, 48]⟩ : ByteArray), .string (⟨#[49, 50, 51, 52]⟩ : ByteArray), .string (⟨#[48, 48, 48, 48]⟩ : ByteArray)]) (ok := fun _ => True) (okp := fun _ => True) ?hr ?hp (fun _ hk => hk) trivial (Below.refl _ _) (Nat.le_refl _) (by simp) ?_; (case hd => rfl); (case hg => rfl); (case hr => first | (go_simp; done) | (go_simp; rfl)); (case hp => exact (Reps.one (show Kd.M Kd.string _ _ _ (⟨#[48, 49, 48, 48]⟩ : ByteArray) [.string (⟨#[48, 49, 48, 48]⟩ : ByteArray)] from rfl) (Reps.one (show Kd.M Kd.string _ _ _ (⟨#[48, 50, 48, 48]⟩ : ByteArray) [.string (⟨#[48, 50, 48, 48]⟩ : ByteArray)] from rfl) (Reps.one (show Kd.M Kd.string _ _ _ (⟨#[48, 50, 50, 48]⟩ : ByteArray) [.string (⟨#[48, 50, 50, 48]⟩ : ByteArray)] from rfl) (Reps.one (show Kd.M Kd.string _ _ _ (⟨#[48, 49, 49, 48]⟩ : ByteArray) [.string (⟨#[48, 49, 49, 48]⟩ : ByteArray)] from rfl) (Reps.one (show Kd.M Kd.string _ _ _ (⟨#[48, 56, 48, 48]⟩ : ByteArray) [.string (⟨#[48, 56, 48, 48]⟩ : ByteArray)] from rfl) (Reps.one (show Kd.M Kd.string _ _ _ (⟨#[49, 50, 51, 52]⟩ : ByteArray) [.string (⟨#[49, 50, 51, 52]⟩ : ByteArray)] from rfl) (Reps.one (show Kd.M Kd.string _ _ _ (⟨#[48, 48, 48, 48]⟩ : ByteArray) [.string (⟨#[48, 48, 48, 48]⟩ : ByteArray)] from rfl) (Reps.none _ _))))))))); intro v646 w5 ho6 hb hg_ hnew_; clear hg_ hnew_; (first | rw [← Ny645.out] at ho6 | (simp only [Int.reduceToNat] at ho6; rw [← Ny645.out] at ho6)); have n0_ := Aside0.mk (Kd.R_lower ho6 (keep_size (w := w) (g := g) (row := none) (by repeat (first | (with_reducible first | exact HK.out | apply KeepBut.set_ | apply keep_drewN | apply keep_drew | apply keep_alloc | refine keep_far ?_ GW644.out _) | exact HK.out)))); have n1_ := Aside0.mk (IsS71.below (by repeat (first | (with_reducible first | exact HI0.out | apply IsS71.alloc | apply IsS71.drewN | apply IsS71.drew | apply IsS71.set_1 | apply IsS71.set_2 | refine IsS71.far ?_ NB0_644.out _) | exact HI0.out)) hb); have n2_ := Aside0.mk (blk_below (g := gb644) (o := .cells #[.string (⟨#[]⟩ : ByteArray), .slice none 0 0] 49 (0, 0)) (kA BK644.out) hb); have n3_ := Aside0.mk (KeepBut.trans (by repeat (first | (with_reducible first | exact HK.out | apply KeepBut.set_ | apply keep_drewN | apply keep_drew | apply keep_alloc | refine keep_far ?_ GW644.out _) | exact HK.out)) (KeepBut.of_below hb g none) (.inl rfl)); have n4_ := Aside0.mk (below_step (by repeat (first | (with_reducible first | exact HB.out | apply below_alloc | apply pw_below_drewN | apply below_drew1 | refine below_set ?_ (IsS71.ge HI0.out) | refine below_set ?_ GE644.out) | exact HB.out)) hb); clear HI0; clear BK644; clear HK; clear HB; have HO647 := n0_; have HI0 := n1_; have BK644 := n2_; have HK := n3_; have HB := n4_; clear n0_ n1_ n2_ n3_ n4_; clear hb ho6; obtain ⟨Ao7, co7, eo7⟩ := Kd.R_slice HO647.out; subst eo7) | ((with_reducible refine gate_callee (f := 89) rfl ?_); refine goesM_ (some 8) rfl rfl Tryd.func89 (by kernel_rfl) rfl #[.pointer (some ⟨g, 0, none⟩), .slice Ao7 y645.length co7] rfl ?_; (with_reducible refine (spec_l01Str.calls g s0_0 s0_1 s0_2 _ _ y645 t648 t649 t650 w0 _ ?side1 ?side2 ?side3 ?side4 ?side5 A2.out).mono ?_); (case side1 => repeat (first | (with_reducible first | exact HI0.out | apply IsS71.alloc | apply IsS71.drewN | apply IsS71.drew | apply IsS71.set_1 | apply IsS71.set_2 | refine IsS71.far ?_ NB0_644.out _) | exact HI0.out)); (case side2 => repeat (first | (with_reducible first | exact HB.out | apply below_alloc | apply pw_below_drewN | apply below_drew1 | refine below_set ?_ (IsS71.ge HI0.out) | refine below_set ?_ GE644.out) | exact HB.out)); (case side3 => repeat (first | exact (Kd.R_reads' HO647.out).2.2 | (with_reducible refine Kd.C_alloc ?_ _) | (with_reducible refine Kd.C_drewN ?_ _) | (with_reducible refine Kd.C_drew ?_))); (case side4 => exact (Kd.R_reads' HO647.out).2.1); (case side5 => exact far_slice (IsS71.own_ne HI0.out HO647.out (by decide))); rintro e w8 ⟨rfl, hi, hb, hk⟩; refine ⟨_, rfl, ?_⟩; have n0_ := Aside0.mk (KeepBut.blk hk (g' := gb644) (o := .cells #[.string (⟨#[]⟩ : ByteArray), .slice none 0 0] 49 (0, 0)) (kA BK644.out) NB644_0.out (by simp)); have n1_ := Aside0.mk (Kd.R_mono (Kd.R_keep (IsS71.apart (show IsS71 w0 _ g s0_0 s0_1 s0_2 from by repeat (first | (with_reducible first | exact HI0.out | apply IsS71.alloc | apply IsS71.drewN | apply IsS71.drew | apply IsS71.set_1 | apply IsS71.set_2 | refine IsS71.far ?_ NB0_644.out _) | exact HI0.out)) (rA HO647.out) (by decide)) hk (fun _ h => h.2)) (fun _ h => h.1)); have n2_ := Aside0.mk (KeepBut.trans (by repeat (first | (with_reducible first | exact HK.out | apply KeepBut.set_ | apply keep_drewN | apply keep_drew | apply keep_alloc | refine keep_far ?_ GW644.out _) | exact HK.out)) hk (.inl rfl)); have n3_ := Aside0.mk (hb); have n4_ := Aside0.mk (hi); clear BK644; clear HO647; clear HK; clear HB; clear HI0; have BK644 := n0_; have HO647 := n1_; have HK := n2_; have HB := n3_; have HI0 := n4_; clear n0_ n1_ n2_ n3_ n4_; (try clear hb); (try clear hb2); (try clear hk); (try clear hi)) | ((with_reducible refine gate_dst (N := 3) rfl ?_); refine box_event ?hg (N := 3) ?hd (cs := #[.string (⟨#[]⟩ : ByteArray), .slice none 0 0]) (t := 49) ?hr ?_; (case hd => rfl); (case hg => rfl); (case hr => first | (go_simp; done) | (go_simp; rfl)); intro gb651 hg w9 hbox hb; have n0_ := Aside0.mk (Kd.R_below (rA HO647.out) hb); have n1_ := Aside0.mk (IsS71.below (by repeat (first | (with_reducible first | exact HI0.out | apply IsS71.alloc | apply IsS71.drewN | apply IsS71.drew | apply IsS71.set_1 | apply IsS71.set_2 | refine IsS71.far ?_ NB0_644.out _) | exact HI0.out)) hb); have n2_ := Aside0.mk (blk_below (g := gb644) (o := .cells #[.string (⟨#[]⟩ : ByteArray), .slice none 0 0] 49 (0, 0)) (kA BK644.out) hb); have n3_ := Aside0.mk (KeepBut.trans (by repeat (first | (with_reducible first | exact HK.out | apply KeepBut.set_ | apply keep_drewN | apply keep_drew | apply keep_alloc | refine keep_far ?_ GW644.out _) | exact HK.out)) (KeepBut.of_below hb g none) (.inl rfl)); have n4_ := Aside0.mk (below_step (by repeat (first | (with_reducible first | exact HB.out | apply below_alloc | apply pw_below_drewN | apply below_drew1 | refine below_set ?_ (IsS71.ge HI0.out) | refine below_set ?_ GE644.out) | exact HB.out)) hb); have n5_ := Aside0.mk (hbox); have n6_ := Aside0.mk ((by rw [hg]; exact (keep_size (w := w) (g := g) (row := none) (by repeat (first | (with_reducible first | exact HK.out | apply KeepBut.set_ | apply keep_drewN | apply keep_drew | apply keep_alloc | refine keep_far ?_ GW644.out _) | exact HK.out))) : w.heap.size ≤ gb651)); have n7_ := Aside0.mk ((Nat.le_trans HW0.out (by rw [hg]; exact (keep_size (w := w) (g := g) (row := none) (by repeat (first | (with_reducible first | exact HK.out | apply KeepBut.set_ | apply keep_drewN | apply keep_drew | apply keep_alloc | refine keep_far ?_ GW644.out _) | exact HK.out))) : w.heap.size ≤ gb651) : w0.heap.size ≤ gb651)); have n8_ := Aside0.mk ((by rw [hg]; exact Nat.ne_of_lt (blk_lt (g := gb644) (o := .cells #[.string (⟨#[]⟩ : ByteArray), .slice none 0 0] 49 (0, 0)) (kA BK644.out)) : gb644 ≠ gb651)); have n9_ := Aside0.mk ((by rw [hg]; exact Nat.ne_of_gt (blk_lt (g := gb644) (o := .cells #[.string (⟨#[]⟩ : ByteArray), .slice none 0 0] 49 (0, 0)) (kA BK644.out)) : gb651 ≠ gb644)); have n10_ := Aside0.mk ((by rw [hg]; exact Nat.ne_of_lt (IsS71.lt (show IsS71 w0 _ g s0_0 t649 t650 from by repeat (first | (with_reducible first | exact HI0.out | apply IsS71.alloc | apply IsS71.drewN | apply IsS71.drew | apply IsS71.set_1 | apply IsS71.set_2 | refine IsS71.far ?_ NB0_644.out _) | exact HI0.out))) : g ≠ gb651)); have n11_ := Aside0.mk ((by rw [hg]; exact Nat.ne_of_gt (IsS71.lt (show IsS71 w0 _ g s0_0 t649 t650 from by repeat (first | (with_reducible first | exact HI0.out | apply IsS71.alloc | apply IsS71.drewN | apply IsS71.drew | apply IsS71.set_1 | apply IsS71.set_2 | refine IsS71.far ?_ NB0_644.out _) | exact HI0.out))) : gb651 ≠ g)); clear HO647; clear HI0; clear BK644; clear HK; clear HB; have HO647 := n0_; have HI0 := n1_; have BK644 := n2_; have HK := n3_; have HB := n4_; have BK651 := n5_; have GW651 := n6_; have GE651 := n7_; have NB644_651 := n8_; have NB651_644 := n9_; have NB0_651 := n10_; have NB651_0 := n11_; clear n0_ n1_ n2_ n3_ n4_ n5_ n6_ n7_ n8_ n9_ n10_ n11_; clear hb hbox hg; have hnb10 := NB651_644.out; have hnc10 := NB644_651.out; have hnb11 := NB651_0.out; have hnc11 := NB0_651.out; have hcz12_0 : w9.cell? ⟨gb651, 0, none⟩ = some (.string (⟨#[]⟩ : ByteArray)) := (blk_cell BK651.out 0).trans rfl; have hcz12_1 : w9.cell? ⟨gb651, 1, none⟩ = some (.slice none 0 0) := (blk_cell BK651.out 1).trans rfl; have hfz12_0 := blk_frozen BK651.out 0; have hfz12_1 := blk_frozen BK651.out 1) | ((with_reducible refine gate_callee (f := 63) rfl ?_); refine goesM_ (some 10) rfl rfl Tryd.func63 (by kernel_rfl) rfl #[] rfl ?_; (with_reducible refine (spec_FieldNos.calls k  t652 _ A3.out).mono ?_); rintro e w13 ⟨v653, rfl, ho0, hb⟩; refine ⟨_, rfl, ?_⟩; have n0_ := Aside0.mk (Kd.R_below (by (with_reducible repeat (first | apply Kd.R_alloc | apply Kd.R_drewN | apply Kd.R_drew)); exact (Kd.R_mono (Kd.R_far (p := ⟨gb651, 1, none⟩) (Kd.R_far (p := ⟨gb651, 0, none⟩) (Kd.R_types HO647.out BK651.out (by decide)) (fun _ hk => hk.2) (.string t648)) (fun _ hk => hk.2) (.slice none 0 0)) (fun _ h_ => h_.1))) hb); have n1_ := Aside0.mk (Kd.R_lower ho0 (keep_size (w := w) (g := g) (row := none) (by repeat (first | (with_reducible first | exact HK.out | apply KeepBut.set_ | apply keep_drewN | apply keep_drew | apply keep_alloc | refine keep_far ?_ GW644.out _ | refine keep_far ?_ GW651.out _) | exact HK.out)))); have n2_ := Aside0.mk (IsS71.below (show IsS71 w0 ((w9.setCell ⟨gb651, 0, none⟩ (.string t648)).setCell ⟨gb651, 1, none⟩ (.slice none 0 0)) g s0_0 t649 t650 from by repeat (first | (with_reducible first | exact HI0.out | apply IsS71.alloc | apply IsS71.drewN | apply IsS71.drew | apply IsS71.set_1 | apply IsS71.set_2 | refine IsS71.far ?_ NB0_644.out _ | refine IsS71.far ?_ NB0_651.out _) | exact HI0.out)) hb); have n3_ := Aside0.mk (blk_below (g := gb644) (o := .cells #[.string (⟨#[]⟩ : ByteArray), .slice none 0 0] 49 (0, 0)) (by (with_reducible repeat (first | refine blk_drewN ?_ _ | refine blk_drew ?_ | refine blk_alloc ?_ _)); refine blk_far ?_ NB644_651.out _; (with_reducible repeat (first | refine blk_drewN ?_ _ | refine blk_drew ?_ | refine blk_alloc ?_ _)); refine blk_far ?_ NB644_651.out _; (with_reducible repeat (first | refine blk_drewN ?_ _ | refine blk_drew ?_ | refine blk_alloc ?_ _)); exact BK644.out) hb); have n4_ := Aside0.mk (blk_below (g := gb651) (o := .cells #[.string t648, .slice none 0 0] 49 (0, 0)) (by (with_reducible repeat (first | refine blk_drewN ?_ _ | refine blk_drew ?_ | refine blk_alloc ?_ _)); refine blk_put (cs := #[.string t648, .slice none 0 0]) ?_ 1 _ rfl; (with_reducible repeat (first | refine blk_drewN ?_ _ | refine blk_drew ?_ | refine blk_alloc ?_ _)); refine blk_put (cs := #[.string (⟨#[]⟩ : ByteArray), .slice none 0 0]) ?_ 0 _ rfl; (with_reducible repeat (first | refine blk_drewN ?_ _ | refine blk_drew ?_ | refine blk_alloc ?_ _)); exact BK651.out) hb); have n5_ := Aside0.mk (KeepBut.trans (by repeat (first | (with_reducible first | exact HK.out | apply KeepBut.set_ | apply keep_drewN | apply keep_drew | apply keep_alloc | refine keep_far ?_ GW644.out _ | refine keep_far ?_ GW651.out _) | exact HK.out)) (KeepBut.of_below hb g none) (.inl rfl)); have n6_ := Aside0.mk (below_step (by repeat (first | (with_reducible first | exact HB.out | apply below_alloc | apply pw_below_drewN | apply below_drew1 | refine below_set ?_ (IsS71.ge HI0.out) | refine below_set ?_ GE644.out | refine below_set ?_ GE651.out) | exact HB.out)) hb); clear HO647; clear HI0; clear BK644; clear BK651; clear HK; clear HB; have HO647 := n0_; have HO654 := n1_; have HI0 := n2_; have BK644 := n3_; have BK651 := n4_; have HK := n5_; have HB := n6_; clear n0_ n1_ n2_ n3_ n4_ n5_ n6_; (try clear hb); (try clear hb2); (try clear hk); (try clear hi); (try clear ho0); obtain ⟨Ao14, co14, eo14⟩ := Kd.R_slice HO654.out; subst eo14))
 go_loopg [12] k (fun kq v12 w' => ∃ (x12_1 : Int) (x1001_1 : Int) (x1002_1 : Int) (x652001_1 : List (S79)) (u652001 : Value), v12 = .int .i64 x12_1 ∧ Aside0 (spec_l04Draw.l0 kq t652 (t652.length : Int) x12_1 s0_0 x1001_1 x1002_1 t648 x652001_1 = some (r1, r2, r3, r4)) ∧ Aside0 (kq ≤ k) ∧ Aside0 (Kd.R (Kd.int .i64) 3 w' w.heap.size (fun _ => True) (.slice Ao14 t652.length co14) t652) ∧ Aside0 (Kd.R k79 79 w' w.heap.size (fun _ => True) u652001 x652001_1) ∧ Aside0 (w'.heap[gb644]? = some (.cells #[.string (⟨#[]⟩ : ByteArray), (.slice none 0 0)] 49 (0, 0))) ∧ Aside0 (w'.heap[gb651]? = some (.cells #[.string t648, u652001] 49 (0, 0))) ∧ Aside0 (IsS71 w0 w' g s0_0 x1001_1 x1002_1) ∧ Aside0 (KeepBut w w' g none) ∧ Aside0 (Below w0.heap.size w0 w'))
 case atStart => exact ⟨(0), (t649), (t650), (([] : List (S79))), (.slice none 0 0), (by first | rfl | (simp; done) | (simp [*]; done) | (simp [i64_w, IntKind.wrap_u8, e256_]; done) | (simp; generalize ByteArray.toList _ = zz_; cases zz_ <;> rfl)), H', ⟨Nat.le_refl _⟩, ⟨rA HO654.out⟩, ⟨by first | exact Kd.R_nil _ _ _ _ _ | exact Kd.N_nil _ _ _ _ _ | exact Kd.V_nil _ _ _ _ _ | exact Kd.Q_nil _ _ _ _ _ | exact Kd.S_nil _ _ _ _ _⟩, ⟨kA BK644.out⟩, ⟨kA BK651.out⟩, ⟨by repeat (first | (with_reducible first | exact HI0.out | apply IsS71.alloc | apply IsS71.drewN | apply IsS71.drew | apply IsS71.set_1 | apply IsS71.set_2 | refine IsS71.far ?_ NB0_644.out _ | refine IsS71.far ?_ NB0_651.out _) | exact HI0.out)⟩, ⟨by repeat (first | (with_reducible first | exact HK.out | apply KeepBut.set_ | apply keep_drewN | apply keep_drew | apply keep_alloc | refine keep_far ?_ GW644.out _ | refine keep_far ?_ GW651.out _) | exact HK.out)⟩, ⟨by repeat (first | (with_reducible first | exact HB.out | apply below_alloc | apply pw_below_drewN | apply below_drew1 | refine below_set ?_ (IsS71.ge HI0.out) | refine below_set ?_ GE644.out | refine below_set ?_ GE651.out) | exact HB.out)⟩⟩
 case round =>
  clear H'
  try clear c1
  try clear p2
  try clear c6
  try clear p6
  try clear c7
  try clear c8
  try clear c10
  try clear c11
  try clear hcz12_0
  try clear hcz12_1
  try clear hfz12_0
  try clear hfz12_1
  obtain ⟨x12_1, x1001_1, x1002_1, x652001_1, u652001, rfl, HA, HK1, HO_10, HO_652001, BK644, BK651, HI0, HK, HB⟩ := hrel
  cases gk with
  | zero => exact absurd HA.out (by simp [spec_l04Draw.l0])
  | succ k1 =>
   have H := HA.out
   clear HA
   simp only [spec_l04Draw.l0] at H
   by_cases c15 : x12_1 < (t652.length : Int)
   ·rw [if_pos c15] at H
    have c15b0 : decide (x12_1 < (t652.length : Int)) = true := decide_eq_true c15
    clear c15
    by_cases c16 : 0 ≤ x12_1
    ·rw [if_pos c16] at H
     have c16b0 : decide (0 ≤ x12_1) = true := decide_eq_true c16
     clear c16
     by_cases c17 : x12_1 < (t652.length : Int)
     ·rw [if_pos c17] at H
      have c17b0 : decide (x12_1 < (t652.length : Int)) = true := decide_eq_true c17
      clear c17
      replace H := Option.bind_eq_some_iff.mp H
      obtain ⟨⟨t656, t657, t658⟩, A180, H⟩ := H
      replace H : (if t656 = true then ((spec_l03Text.f k1 s0_0 t657 t658 (rd t652 x12_1)).bind fun bt659 => (if x652001_1.length < 5864062014805 then (spec_l04Draw.l0 k1 t652 (t652.length : Int) (wrap64 (x12_1 + 1)) s0_0 bt659.2.1 bt659.2.2 t648 (x652001_1 ++ [(⟨rd t652 x12_1, bt659.1⟩ : S79)])) else (none))) else (spec_l04Draw.l0 k1 t652 (t652.length : Int) (wrap64 (x12_1 + 1)) s0_0 t657 t658 t648 x652001_1)) = some (r1, r2, r3, r4) := H
      have A18 := Aside0.mk A180
      clear A180
      by_cases c19 : t656 = true
      ·subst c19
       have H1 : ((spec_l03Text.f k1 s0_0 t657 t658 (rd t652 x12_1)).bind fun bt659 => (if x652001_1.length < 5864062014805 then (spec_l04Draw.l0 k1 t652 (t652.length : Int) (wrap64 (x12_1 + 1)) s0_0 bt659.2.1 bt659.2.2 t648 (x652001_1 ++ [(⟨rd t652 x12_1, bt659.1⟩ : S79)])) else (none))) = some (r1, r2, r3, r4) := by rw [if_pos rfl] at H; exact H
       clear H
       have H := H1
       clear H1
       replace H := Option.bind_eq_some_iff.mp H
       obtain ⟨⟨t659, t660, t661⟩, A200, H⟩ := H
       replace H : (if x652001_1.length < 5864062014805 then (spec_l04Draw.l0 k1 t652 (t652.length : Int) (wrap64 (x12_1 + 1)) s0_0 t660 t661 t648 (x652001_1 ++ [(⟨rd t652 x12_1, t659⟩ : S79)])) else (none)) = some (r1, r2, r3, r4) := H
       have A20 := Aside0.mk A200
       clear A200
       by_cases c21 : x652001_1.length < 5864062014805
       ·rw [if_pos c21] at H
        have LMc21 := Aside0.mk c21
        clear c21
        obtain ⟨y662, hy662⟩ : ∃ y_ : List (S79), y_ = (x652001_1 ++ [(⟨rd t652 x12_1, t659⟩ : S79)]) := ⟨_, rfl⟩
        replace H : (spec_l04Draw.l0 k1 t652 (t652.length : Int) (wrap64 (x12_1 + 1)) s0_0 t660 t661 t648 y662) = some (r1, r2, r3, r4) := by first | (rw [hy662]; with_reducible exact H) | (have H2_ := (Option.bind_some _ _).symm.trans H; rw [hy662]; with_reducible exact H2_) | (have H2_ := (Option.bind_some _ _).symm.trans H; with_reducible exact H2_) | with_reducible exact H | (rw [hy662]; exact H) | exact H
        have Ny662 := Aside0.mk hy662
        clear hy662
        have H' := Aside0.mk H
        clear H
        have p655 : 0 ≤ (x12_1 : Int) := of_decide_eq_true (by first | (with_reducible assumption) | assumption)
        have q655 : x12_1 < (t652.length : Int) := of_decide_eq_true (by first | (with_reducible assumption) | assumption)
        obtain ⟨ad655, e655, hx655_0⟩ := Kd.at_int (Kd.R_reads' HO_10.out).2.2 x12_1 p655 q655
        cases e655
        replace p655 := eq_true p655
        replace q655 := eq_true q655
        try go_wp2_with (first | ((with_reducible refine gate_callee (f := 72) rfl ?_); refine goesM_ (some 17) rfl rfl Tryd.func72 (by kernel_rfl) rfl #[.pointer (some ⟨g, 0, none⟩), .int .i64 3] rfl ?_; (with_reducible refine (spec_l01Once.calls g s0_0 x1001_1 x1002_1 3 true t657 t658 w0 _ ?side1 ?side2 A18.out).mono ?_); (case side1 => repeat (first | (with_reducible first | exact HI0.out | apply IsS71.alloc | apply IsS71.drewN | apply IsS71.drew | apply IsS71.set_1 | apply IsS71.set_2 | refine IsS71.far ?_ NB0_644.out _ | refine IsS71.far ?_ NB0_651.out _) | exact HI0.out)); (case side2 => repeat (first | (with_reducible first | exact HB.out | apply below_alloc | apply pw_below_drewN | apply below_drew1 | refine below_set ?_ (IsS71.ge HI0.out) | refine below_set ?_ GE644.out | refine below_set ?_ GE651.out) | exact HB.out)); rintro e w22 ⟨rfl, hi, hb, hk⟩; refine ⟨_, rfl, ?_⟩; have n0_ := Aside0.mk (Kd.R_mono (Kd.R_keep (IsS71.apart (show IsS71 w0 _ g s0_0 x1001_1 x1002_1 from by repeat (first | (with_reducible first | exact HI0.out | apply IsS71.alloc | apply IsS71.drewN | apply IsS71.drew | apply IsS71.set_1 | apply IsS71.set_2 | refine IsS71.far ?_ NB0_644.out _ | refine IsS71.far ?_ NB0_651.out _) | exact HI0.out)) (rA HO_10.out) (by decide)) hk (fun _ h => h.2)) (fun _ h => h.1)); have n1_ := Aside0.mk (Kd.R_mono (Kd.R_keep (IsS71.apart (show IsS71 w0 _ g s0_0 x1001_1 x1002_1 from by repeat (first | (with_reducible first | exact HI0.out | apply IsS71.alloc | apply IsS71.drewN | apply IsS71.drew | apply IsS71.set_1 | apply IsS71.set_2 | refine IsS71.far ?_ NB0_644.out _ | refine IsS71.far ?_ NB0_651.out _) | exact HI0.out)) (rA HO_652001.out) (by decide)) hk (fun _ h => h.2)) (fun _ h => h.1)); have n2_ := Aside0.mk (KeepBut.blk hk (g' := gb644) (o := .cells #[.string (⟨#[]⟩ : ByteArray), .slice none 0 0] 49 (0, 0)) (kA BK644.out) NB644_0.out (by simp)); have n3_ := Aside0.mk (KeepBut.blk hk (g' := gb651) (o := .cells #[.string t648, u652001] 49 (0, 0)) (kA BK651.out) NB651_0.out (by simp)); have n4_ := Aside0.mk (KeepBut.trans (by repeat (first | (with_reducible first | exact HK.out | apply KeepBut.set_ | apply keep_drewN | apply keep_drew | apply keep_alloc | refine keep_far ?_ GW644.out _ | refine keep_far ?_ GW651.out _) | exact HK.out)) hk (.inl rfl)); have n5_ := Aside0.mk (hb); have n6_ := Aside0.mk (hi); clear HO_10; clear HO_652001; clear BK644; clear BK651; clear HK; clear HB; clear HI0; have HO_10 := n0_; have HO_652001 := n1_; have BK644 := n2_; have BK651 := n3_; have HK := n4_; have HB := n5_; have HI0 := n6_; clear n0_ n1_ n2_ n3_ n4_ n5_ n6_; (try clear hb); (try clear hb2); (try clear hk); (try clear hi)))
        have n0_ := Aside0.mk (Kd.R_drew HO_10.out)
        have n1_ := Aside0.mk (Kd.R_drew HO_652001.out)
        have n2_ := Aside0.mk (blk_drew BK644.out)
        have n3_ := Aside0.mk (blk_drew BK651.out)
        have n4_ := Aside0.mk (IsS71.drew HI0.out)
        have n5_ := Aside0.mk (keep_drew HK.out)
        have n6_ := Aside0.mk (below_drew1 HB.out)
        clear HO_10
        clear HO_652001
        clear BK644
        clear BK651
        clear HI0
        clear HK
        clear HB
        have HO_10 := n0_
        have HO_652001 := n1_
        have BK644 := n2_
        have BK651 := n3_
        have HI0 := n4_
        have HK := n5_
        have HB := n6_
        clear n0_ n1_ n2_ n3_ n4_ n5_ n6_
        refine start_ (n := 11) (S := fun w' => w'.cell? ⟨gb651, 0, none⟩ = some (.string t648) ∧ w'.cell? ⟨gb651, 1, none⟩ = some (u652001)) (ds := [10]) #[false, false, false, false, false, false, false, false, false, false, false] (by kernel_rfl) rfl rfl ⟨(blk_cell BK651.out 0).trans rfl, (blk_cell BK651.out 1).trans rfl⟩ (fun hHeld => ?_); refine with_tabW spec_l04Draw.tab6 spec_l04Draw.bits6 (fun HT_ HW_ => ?_)
        generalize w22.drew = w23 at HO_10 HO_652001 BK644 BK651 HI0 HK HB hHeld ⊢
        refine pure_ (i := 0) (N := some 18) (v := ?_) (a' := ?_) #[true, false, false, false, false, false, false, false, false, false, false] rfl rfl (any_of HT_.out (by kernel_rfl)) (fun _ _ _ h => h) (Or.inl ⟨by rfl, ?_⟩) ?_ ?_
        rotate_left
        ·intro w'
         go_simp
         with_reducible rfl
        rotate_left
        ·simp only [Act.put, List.setIfInBounds_toArray, List.set_cons_zero, List.set_cons_succ, i64_w, i32_w]
         rfl
        refine pure_ (i := 2) (N := some 20) (v := ?_) (a' := ?_) #[true, false, true, false, false, false, false, false, false, false, false] rfl rfl (any_of HT_.out (by kernel_rfl)) (fun _ _ _ h => h) (Or.inl ⟨by rfl, ?_⟩) ?_ ?_
        rotate_left
        ·intro w'
         go_simp
         with_reducible rfl
        rotate_left
        ·simp only [Act.put, List.setIfInBounds_toArray, List.set_cons_zero, List.set_cons_succ, i64_w, i32_w]
         rfl
        refine pure_ (i := 3) (N := some 21) (v := ?_) (a' := ?_) #[true, false, true, true, false, false, false, false, false, false, false] rfl rfl (any_of HT_.out (by kernel_rfl)) (fun _ _ _ h => h) (Or.inl ⟨by rfl, ?_⟩) ?_ ?_
        rotate_left
        ·intro w'
         go_simp
         with_reducible rfl
        rotate_left
        ·simp only [Act.put, List.setIfInBounds_toArray, List.set_cons_zero, List.set_cons_succ, i64_w, i32_w]
         rfl
        refine pure_ (i := 4) (N := some 22) (v := ?_) (a' := ?_) #[true, false, true, true, true, false, false, false, false, false, false] rfl rfl (any_of HT_.out (by kernel_rfl)) (fun _ _ _ h => h) (Or.inl ⟨by rfl, ?_⟩) ?_ ?_
        rotate_left
        ·intro w'
         go_simp
         with_reducible rfl
        rotate_left
        ·simp only [Act.put, List.setIfInBounds_toArray, List.set_cons_zero, List.set_cons_succ, i64_w, i32_w]
         rfl
        refine take_ (i := 1) (N := some 19) (v := ?_) (a' := ?_) #[true, true, true, true, true, false, false, false, false, false, false] rfl rfl (take_ofW HT_.out HW_.out (by kernel_rfl)) (fun _ _ _ h => h) (Or.inl ⟨by rfl, ?_⟩) hHeld ?_ ?_
        rotate_left
        ·rintro w' ⟨s0, s1⟩
         go_simp
         with_reducible rfl
        rotate_left
        ·simp only [Act.put, List.setIfInBounds_toArray, List.set_cons_zero, List.set_cons_succ, i64_w, i32_w]
         rfl
        refine one_ (i := 5) (N := some 23) #[true, true, true, true, true, true, false, false, false, false, false] rfl rfl (one_of HT_.out (by kernel_rfl)) (by decide) (fun K hK => ?_)
        refine goes_ Tryd.func64 (by kernel_rfl) rfl #[.pointer (some ⟨g, 0, none⟩), .int .i64 (rd t652 x12_1)] (by rfl) rfl rfl (by (try simp only [List.map_toArray, List.map_cons, List.map_nil]); first | done | rfl | (simp only [List.length_drop, List.length_take]; rfl)) ?_
        with_reducible refine (spec_l03Text.calls k1 g s0_0 t657 t658 (rd t652 x12_1) t659 t660 t661 w0 _ ?side1 ?side2 A20.out).mono ?_
        (case side1 => repeat (first | (with_reducible first | exact HI0.out | apply IsS71.alloc | apply IsS71.drewN | apply IsS71.drew | apply IsS71.set_1 | apply IsS71.set_2 | refine IsS71.far ?_ NB0_644.out _ | refine IsS71.far ?_ NB0_651.out _) | exact HI0.out))
        (case side2 => repeat (first | (with_reducible first | exact HB.out | apply below_alloc | apply pw_below_drewN | apply below_drew1 | refine below_set ?_ (IsS71.ge HI0.out) | refine below_set ?_ GE644.out | refine below_set ?_ GE651.out) | exact HB.out))
        rintro e w24 ⟨rfl, hi, hb, hk⟩
        refine ⟨_, rfl, ?_⟩
        have n0_ := Aside0.mk (Kd.R_mono (Kd.R_keep (IsS71.apart (show IsS71 w0 _ g s0_0 t657 t658 from by repeat (first | (with_reducible first | exact HI0.out | apply IsS71.alloc | apply IsS71.drewN | apply IsS71.drew | apply IsS71.set_1 | apply IsS71.set_2 | refine IsS71.far ?_ NB0_644.out _ | refine IsS71.far ?_ NB0_651.out _) | exact HI0.out)) (rA HO_10.out) (by decide)) hk (fun _ h => h.2)) (fun _ h => h.1))
        have n1_ := Aside0.mk (Kd.R_mono (Kd.R_keep (IsS71.apart (show IsS71 w0 _ g s0_0 t657 t658 from by repeat (first | (with_reducible first | exact HI0.out | apply IsS71.alloc | apply IsS71.drewN | apply IsS71.drew | apply IsS71.set_1 | apply IsS71.set_2 | refine IsS71.far ?_ NB0_644.out _ | refine IsS71.far ?_ NB0_651.out _) | exact HI0.out)) (rA HO_652001.out) (by decide)) hk (fun _ h => h.2)) (fun _ h => h.1))
        have n2_ := Aside0.mk (KeepBut.blk hk (g' := gb644) (o := .cells #[.string (⟨#[]⟩ : ByteArray), .slice none 0 0] 49 (0, 0)) (kA BK644.out) NB644_0.out (by simp))
        have n3_ := Aside0.mk (KeepBut.blk hk (g' := gb651) (o := .cells #[.string t648, u652001] 49 (0, 0)) (kA BK651.out) NB651_0.out (by simp))
        have n4_ := Aside0.mk (KeepBut.trans (by repeat (first | (with_reducible first | exact HK.out | apply KeepBut.set_ | apply keep_drewN | apply keep_drew | apply keep_alloc | refine keep_far ?_ GW644.out _ | refine keep_far ?_ GW651.out _) | exact HK.out)) hk (.inl rfl))
        have n5_ := Aside0.mk (hb)
        have n6_ := Aside0.mk (hi)
        clear HO_10
        clear HO_652001
        clear BK644
        clear BK651
        clear HK
        clear HB
        clear HI0
        have HO_10 := n0_
        have HO_652001 := n1_
        have BK644 := n2_
        have BK651 := n3_
        have HK := n4_
        have HB := n5_
        have HI0 := n6_
        clear n0_ n1_ n2_ n3_ n4_ n5_ n6_
        (try clear hb)
        (try clear hb2)
        (try clear hk)
        (try clear hi)
        refine hK.out _ _ ⟨(blk_cell BK651.out 0).trans rfl, (blk_cell BK651.out 1).trans rfl⟩ (fun hHeld => ?_)
        clear hK K
        refine norm_ (a' := ?_) ?_ ?_
        rotate_left
        ·show Act.put _ (some 23) _ = _
         simp only [Act.put, List.setIfInBounds_toArray, List.set_cons_zero, List.set_cons_succ, i64_w, i32_w]
         rfl
        refine pure_ (i := 6) (N := some 24) (v := ?_) (a' := ?_) #[true, true, true, true, true, true, true, false, false, false, false] rfl rfl (any_of HT_.out (by kernel_rfl)) (fun _ _ _ h => h) (Or.inl ⟨by rfl, ?_⟩) ?_ ?_
        rotate_left
        ·intro w'
         go_simp
         with_reducible rfl
        rotate_left
        ·simp only [Act.put, List.setIfInBounds_toArray, List.set_cons_zero, List.set_cons_succ, i64_w, i32_w]
         rfl
        refine one_ (i := 7) (N := some 25) #[true, true, true, true, true, true, true, true, false, false, false] rfl rfl (one_of HT_.out (by kernel_rfl)) (by decide) (fun K hK => ?_)
        refine value_ (w1 := ?_) (v := ?_) (by rfl) rfl ?_ ?_
        rotate_left 2
        ·go_simp
         constructor
         ·rfl
         ·rfl
        refine hK.out _ _ ⟨(blk_cell (blk_alloc BK651.out _) 0).trans rfl, (blk_cell (blk_alloc BK651.out _) 1).trans rfl⟩ (fun hHeld => ?_)
        clear hK K
        refine norm_ (a' := ?_) ?_ ?_
        rotate_left
        ·show Act.put _ (some 25) _ = _
         simp only [Act.put, List.setIfInBounds_toArray, List.set_cons_zero, List.set_cons_succ, i64_w, i32_w]
         rfl
        refine one_ (i := 8) (N := some 26) #[true, true, true, true, true, true, true, true, true, false, false] rfl rfl (one_of HT_.out (by kernel_rfl)) (by decide) (fun K hK => ?_)
        refine Kd.R_append_step k79 w.heap.size (by rfl) (.tmp 19) (.tmp 25) 47 79 (.agg #[(.int .i64 0), (.string ⟨#[]⟩)]) 24 rfl Tryd.underlying47 info79 rfl (by decide) (by omega) u652001 x652001_1 (⟨rd t652 x12_1, t659⟩ : S79) [.int .i64 (rd t652 x12_1), .string t659] (fun _ => True) (fun _ => False) rfl rfl ?aP (fun _ hk => hk.elim) ?aF ?aO (Below.refl _ _) ?aS ?aL ?_
        (case aP => exact k79_mkM _ _ _ (⟨rd t652 x12_1, t659⟩ : S79))
        (case aF => exact (fun _ _ => trivial))
        (case aO => exact (rA HO_652001.out))
        (case aS => exact (keep_size (w := w) (g := g) (row := none) (by repeat (first | (with_reducible first | exact HK.out | apply KeepBut.set_ | apply keep_drewN | apply keep_drew | apply keep_alloc | refine keep_far ?_ GW644.out _ | refine keep_far ?_ GW651.out _) | exact HK.out))))
        (case aL => have := LMc21.out; omega)
        intro v663 w25 ho hb hg hat
        rw [← Ny662.out] at ho
        have n0_ := Aside0.mk (Kd.R_over' (rA HO_10.out) (Kd.R_typed (rA HO_652001.out)) (by decide) hg)
        have n1_ := Aside0.mk (blk_grown (g := gb644) (o := .cells #[.string (⟨#[]⟩ : ByteArray), .slice none 0 0] 49 (0, 0)) (kA BK644.out) hg (Kd.R_ne HO_652001.out BK644.out (by decide)))
        have n2_ := Aside0.mk (blk_grown (g := gb651) (o := .cells #[.string t648, u652001] 49 (0, 0)) (kA BK651.out) hg (Kd.R_ne HO_652001.out BK651.out (by decide)))
        have n3_ := Aside0.mk (IsS71.grown (by repeat (first | (with_reducible first | exact HI0.out | apply IsS71.alloc | apply IsS71.drewN | apply IsS71.drew | apply IsS71.set_1 | apply IsS71.set_2 | refine IsS71.far ?_ NB0_644.out _ | refine IsS71.far ?_ NB0_651.out _) | exact HI0.out)) hg (IsS71.own_ne HI0.out HO_652001.out (by decide)))
        have n4_ := Aside0.mk (below_weaken (by repeat (first | (with_reducible first | exact HB.out | apply below_alloc | apply pw_below_drewN | apply below_drew1 | refine below_set ?_ (IsS71.ge HI0.out) | refine below_set ?_ GE644.out | refine below_set ?_ GE651.out) | exact HB.out)) HL.out hb)
        have n5_ := Aside0.mk (KeepBut.trans (by repeat (first | (with_reducible first | exact HK.out | apply KeepBut.set_ | apply keep_drewN | apply keep_drew | apply keep_alloc | refine keep_far ?_ GW644.out _ | refine keep_far ?_ GW651.out _) | exact HK.out)) (KeepBut.of_grown hg g) (Kd.R_base2 HO_652001.out))
        have n6_ := Aside0.mk (ho)
        clear HO_10
        clear BK644
        clear BK651
        clear HI0
        clear HB
        clear HK
        clear HO_652001
        have HO_10 := n0_
        have BK644 := n1_
        have BK651 := n2_
        have HI0 := n3_
        have HB := n4_
        have HK := n5_
        have HO664 := n6_
        clear n0_ n1_ n2_ n3_ n4_ n5_ n6_
        clear ho hb hg hat
        obtain ⟨Ao26, co26, eo26⟩ := Kd.R_slice HO664.out
        (first | subst eo26 | (injection eo26 with f1_ f2_ f3_; have f4_ := f1_.symm; have f5_ := f3_.symm; clear f1_ f2_ f3_; subst f4_; subst f5_))
        refine hK.out _ _ ⟨(blk_cell BK651.out 0).trans rfl, (blk_cell BK651.out 1).trans rfl⟩ (fun hHeld => ?_)
        clear hK K
        refine norm_ (a' := ?_) ?_ ?_
        rotate_left
        ·show Act.put _ (some 26) _ = _
         simp only [Act.put, List.setIfInBounds_toArray, List.set_cons_zero, List.set_cons_succ, i64_w, i32_w]
         rfl
        refine pure_ (i := 9) (N := some 27) (v := ?_) (a' := ?_) #[true, true, true, true, true, true, true, true, true, true, false] rfl rfl (any_of HT_.out (by kernel_rfl)) (fun _ _ _ h => h) (Or.inl ⟨by rfl, ?_⟩) ?_ ?_
        rotate_left
        ·intro w'
         go_simp
         with_reducible rfl
        rotate_left
        ·simp only [Act.put, List.setIfInBounds_toArray, List.set_cons_zero, List.set_cons_succ, i64_w, i32_w]
         rfl
        refine last_ (i := 10) (N := none) #[true, true, true, true, true, true, true, true, true, true, true] rfl rfl (one_of HT_.out (by kernel_rfl)) (by decide) (fun K hK => ?_)
        have hs27 : w25.cell? ⟨gb651, 1, none⟩ = some (u652001) := (blk_cell BK651.out 1).trans rfl
        have hfs27 := blk_frozen BK651.out 1
        have hns27_0 := NB644_651.out
        have hms27_0 := NB651_644.out
        refine skip_ (w1 := ?_) (by rfl) rfl ?_ ?_
        rotate_left
        ·go_simp
         rfl
        refine hK.out _ _ ?_
        clear hK K
        refine done_ (done_of HT_.out (by kernel_rfl)) ?_
        try go_wp2
        go_roundg k1
        case measure => have := HK1.out; omega
        case rel => exact ⟨(wrap64 (x12_1 + 1)), (t660), (t661), (y662), (.slice Ao26 y662.length co26), (by first | rfl | (simp; done) | (simp [*]; done) | (simp [i64_w, IntKind.wrap_u8, e256_]; done) | (simp; generalize ByteArray.toList _ = zz_; cases zz_ <;> rfl)), H', ⟨by have := HK1.out; omega⟩, ⟨by (with_reducible repeat (first | apply Kd.R_alloc | apply Kd.R_drewN | apply Kd.R_drew)); exact Kd.R_mono (Kd.R_far (p := ⟨gb651, 1, none⟩) (Kd.R_types HO_10.out BK651.out (by decide)) (fun _ hk => hk.2) (.slice Ao26 y662.length co26)) (fun _ hk => trivial)⟩, ⟨by (with_reducible repeat (first | apply Kd.R_alloc | apply Kd.R_drewN | apply Kd.R_drew)); exact Kd.R_mono (Kd.R_far (p := ⟨gb651, 1, none⟩) (Kd.R_types HO664.out BK651.out (by decide)) (fun _ hk => hk.2) (.slice Ao26 y662.length co26)) (fun _ hk => trivial)⟩, ⟨by (with_reducible repeat (first | refine blk_drewN ?_ _ | refine blk_drew ?_ | refine blk_alloc ?_ _)); refine blk_far ?_ NB644_651.out _; (with_reducible repeat (first | refine blk_drewN ?_ _ | refine blk_drew ?_ | refine blk_alloc ?_ _)); exact BK644.out⟩, ⟨by (with_reducible repeat (first | refine blk_drewN ?_ _ | refine blk_drew ?_ | refine blk_alloc ?_ _)); refine blk_put (cs := #[.string t648, u652001]) ?_ 1 _ rfl; (with_reducible repeat (first | refine blk_drewN ?_ _ | refine blk_drew ?_ | refine blk_alloc ?_ _)); exact BK651.out⟩, ⟨by repeat (first | (with_reducible first | exact HI0.out | apply IsS71.alloc | apply IsS71.drewN | apply IsS71.drew | apply IsS71.set_1 | apply IsS71.set_2 | refine IsS71.far ?_ NB0_644.out _ | refine IsS71.far ?_ NB0_651.out _) | exact HI0.out)⟩, ⟨by repeat (first | (with_reducible first | exact HK.out | apply KeepBut.set_ | apply keep_drewN | apply keep_drew | apply keep_alloc | refine keep_far ?_ GW644.out _ | refine keep_far ?_ GW651.out _) | exact HK.out)⟩, ⟨by repeat (first | (with_reducible first | exact HB.out | apply below_alloc | apply pw_below_drewN | apply below_drew1 | refine below_set ?_ (IsS71.ge HI0.out) | refine below_set ?_ GE644.out | refine below_set ?_ GE651.out) | exact HB.out)⟩⟩
       ·rw [if_neg c21] at H
        exact absurd H (by simp)
      ·replace c19 := Bool.eq_false_iff.mpr c19
       subst c19
       have H1 : (spec_l04Draw.l0 k1 t652 (t652.length : Int) (wrap64 (x12_1 + 1)) s0_0 t657 t658 t648 x652001_1) = some (r1, r2, r3, r4) := by rw [if_neg (show ¬ (false = true) by decide)] at H; exact H
       clear H
       have H := H1
       clear H1
       have H' := Aside0.mk H
       clear H
       have p655 : 0 ≤ (x12_1 : Int) := of_decide_eq_true (by first | (with_reducible assumption) | assumption)
       have q655 : x12_1 < (t652.length : Int) := of_decide_eq_true (by first | (with_reducible assumption) | assumption)
       obtain ⟨ad655, e655, hx655_0⟩ := Kd.at_int (Kd.R_reads' HO_10.out).2.2 x12_1 p655 q655
       cases e655
       replace p655 := eq_true p655
       replace q655 := eq_true q655
       go_wp2_with (first | ((with_reducible refine gate_callee (f := 72) rfl ?_); refine goesM_ (some 17) rfl rfl Tryd.func72 (by kernel_rfl) rfl #[.pointer (some ⟨g, 0, none⟩), .int .i64 3] rfl ?_; (with_reducible refine (spec_l01Once.calls g s0_0 x1001_1 x1002_1 3 false t657 t658 w0 _ ?side1 ?side2 A18.out).mono ?_); (case side1 => repeat (first | (with_reducible first | exact HI0.out | apply IsS71.alloc | apply IsS71.drewN | apply IsS71.drew | apply IsS71.set_1 | apply IsS71.set_2 | refine IsS71.far ?_ NB0_644.out _ | refine IsS71.far ?_ NB0_651.out _) | exact HI0.out)); (case side2 => repeat (first | (with_reducible first | exact HB.out | apply below_alloc | apply pw_below_drewN | apply below_drew1 | refine below_set ?_ (IsS71.ge HI0.out) | refine below_set ?_ GE644.out | refine below_set ?_ GE651.out) | exact HB.out)); rintro e w28 ⟨rfl, hi, hb, hk⟩; refine ⟨_, rfl, ?_⟩; have n0_ := Aside0.mk (Kd.R_mono (Kd.R_keep (IsS71.apart (show IsS71 w0 _ g s0_0 x1001_1 x1002_1 from by repeat (first | (with_reducible first | exact HI0.out | apply IsS71.alloc | apply IsS71.drewN | apply IsS71.drew | apply IsS71.set_1 | apply IsS71.set_2 | refine IsS71.far ?_ NB0_644.out _ | refine IsS71.far ?_ NB0_651.out _) | exact HI0.out)) (rA HO_10.out) (by decide)) hk (fun _ h => h.2)) (fun _ h => h.1)); have n1_ := Aside0.mk (Kd.R_mono (Kd.R_keep (IsS71.apart (show IsS71 w0 _ g s0_0 x1001_1 x1002_1 from by repeat (first | (with_reducible first | exact HI0.out | apply IsS71.alloc | apply IsS71.drewN | apply IsS71.drew | apply IsS71.set_1 | apply IsS71.set_2 | refine IsS71.far ?_ NB0_644.out _ | refine IsS71.far ?_ NB0_651.out _) | exact HI0.out)) (rA HO_652001.out) (by decide)) hk (fun _ h => h.2)) (fun _ h => h.1)); have n2_ := Aside0.mk (KeepBut.blk hk (g' := gb644) (o := .cells #[.string (⟨#[]⟩ : ByteArray), .slice none 0 0] 49 (0, 0)) (kA BK644.out) NB644_0.out (by simp)); have n3_ := Aside0.mk (KeepBut.blk hk (g' := gb651) (o := .cells #[.string t648, u652001] 49 (0, 0)) (kA BK651.out) NB651_0.out (by simp)); have n4_ := Aside0.mk (KeepBut.trans (by repeat (first | (with_reducible first | exact HK.out | apply KeepBut.set_ | apply keep_drewN | apply keep_drew | apply keep_alloc | refine keep_far ?_ GW644.out _ | refine keep_far ?_ GW651.out _) | exact HK.out)) hk (.inl rfl)); have n5_ := Aside0.mk (hb); have n6_ := Aside0.mk (hi); clear HO_10; clear HO_652001; clear BK644; clear BK651; clear HK; clear HB; clear HI0; have HO_10 := n0_; have HO_652001 := n1_; have BK644 := n2_; have BK651 := n3_; have HK := n4_; have HB := n5_; have HI0 := n6_; clear n0_ n1_ n2_ n3_ n4_ n5_ n6_; (try clear hb); (try clear hb2); (try clear hk); (try clear hi)))
       go_roundg k1
       case measure => have := HK1.out; omega
       case rel => exact ⟨(wrap64 (x12_1 + 1)), (t657), (t658), (x652001_1), (u652001), (by first | rfl | (simp; done) | (simp [*]; done) | (simp [i64_w, IntKind.wrap_u8, e256_]; done) | (simp; generalize ByteArray.toList _ = zz_; cases zz_ <;> rfl)), H', ⟨by have := HK1.out; omega⟩, ⟨rA HO_10.out⟩, ⟨rA HO_652001.out⟩, ⟨kA BK644.out⟩, ⟨kA BK651.out⟩, ⟨by repeat (first | (with_reducible first | exact HI0.out | apply IsS71.alloc | apply IsS71.drewN | apply IsS71.drew | apply IsS71.set_1 | apply IsS71.set_2 | refine IsS71.far ?_ NB0_644.out _ | refine IsS71.far ?_ NB0_651.out _) | exact HI0.out)⟩, ⟨by repeat (first | (with_reducible first | exact HK.out | apply KeepBut.set_ | apply keep_drewN | apply keep_drew | apply keep_alloc | refine keep_far ?_ GW644.out _ | refine keep_far ?_ GW651.out _) | exact HK.out)⟩, ⟨by repeat (first | (with_reducible first | exact HB.out | apply below_alloc | apply pw_below_drewN | apply below_drew1 | refine below_set ?_ (IsS71.ge HI0.out) | refine below_set ?_ GE644.out | refine below_set ?_ GE651.out) | exact HB.out)⟩⟩
     ·rw [if_neg c17] at H
      exact absurd H (by simp)
    ·rw [if_neg c16] at H
     exact absurd H (by simp)
   ·rw [if_neg c15] at H
    have c15b0 : decide (x12_1 < (t652.length : Int)) = false := decide_eq_false c15
    clear c15
    simp only [Option.some.injEq, Prod.mk.injEq] at H
    obtain ⟨rfl, rfl, rfl, rfl⟩ := H
    have hnb29 := NB651_644.out
    have hnc29 := NB644_651.out
    have hnb30 := NB651_0.out
    have hnc30 := NB0_651.out
    have hcz31_0 : wr.cell? ⟨gb651, 0, none⟩ = some (.string t648) := (blk_cell BK651.out 0).trans rfl
    have hcz31_1 : wr.cell? ⟨gb651, 1, none⟩ = some (u652001) := (blk_cell BK651.out 1).trans rfl
    have hfz31_0 := blk_frozen BK651.out 0
    have hfz31_1 := blk_frozen BK651.out 1
    have hnb32 := NB644_0.out
    have hnc32 := NB0_644.out
    have hcz33_0 : wr.cell? ⟨gb644, 0, none⟩ = some (.string (⟨#[]⟩ : ByteArray)) := (blk_cell BK644.out 0).trans rfl
    have hcz33_1 : wr.cell? ⟨gb644, 1, none⟩ = some (.slice none 0 0) := (blk_cell BK644.out 1).trans rfl
    have hfz33_0 := blk_frozen BK644.out 0
    have hfz33_1 := blk_frozen BK644.out 1
    obtain ⟨Ao34, co34, eo34⟩ := Kd.R_slice HO_652001.out
    subst eo34
    go_wp2
    refine bodyPost_ret (results_cell_row rfl _ _ gb644 49 #[.string t648, .slice Ao34 x652001_1.length co34] (0, 0) _ rfl (by (with_reducible repeat (first | refine blk_drewN ?_ _ | refine blk_drew ?_ | refine blk_alloc ?_ _)); refine blk_put (cs := #[.string t648, .slice none 0 0]) ?_ 1 _ rfl; (with_reducible repeat (first | refine blk_drewN ?_ _ | refine blk_drew ?_ | refine blk_alloc ?_ _)); refine blk_put (cs := #[.string (⟨#[]⟩ : ByteArray), .slice none 0 0]) ?_ 0 _ rfl; (with_reducible repeat (first | refine blk_drewN ?_ _ | refine blk_drew ?_ | refine blk_alloc ?_ _)); exact BK644.out) Tryd.underlying49 rfl (by kernel_rfl)) rfl ?_
    exact ⟨_, by first | rfl | (simp [errW_none, errW_some] <;> rfl) | (simp [*, errW_none, errW_some] <;> rfl), by (with_reducible repeat (first | apply Kd.R_alloc | apply Kd.R_drewN | apply Kd.R_drew)); exact Kd.R_mono (Kd.R_far (p := ⟨gb644, 1, none⟩) (Kd.R_far (p := ⟨gb644, 0, none⟩) (Kd.R_types HO_652001.out BK644.out (by decide)) (fun _ hk => hk.2) (.string t648)) (fun _ hk => hk.2) (.slice Ao34 x652001_1.length co34)) (fun _ hk => trivial), by repeat (first | (with_reducible first | exact HI0.out | apply IsS71.alloc | apply IsS71.drewN | apply IsS71.drew | apply IsS71.set_1 | apply IsS71.set_2 | refine IsS71.far ?_ NB0_644.out _ | refine IsS71.far ?_ NB0_651.out _) | exact HI0.out), by repeat (first | (with_reducible first | exact HB.out | apply below_alloc | apply pw_below_drewN | apply below_drew1 | refine below_set ?_ (IsS71.ge HI0.out) | refine below_set ?_ GE644.out | refine below_set ?_ GE651.out) | exact HB.out), by repeat (first | (with_reducible first | exact HK.out | apply KeepBut.set_ | apply keep_drewN | apply keep_drew | apply keep_alloc | refine keep_far ?_ GW644.out _ | refine keep_far ?_ GW651.out _) | exact HK.out)⟩
attribute [local go_sem] max2_int min2_int max_two min_two max_three min_three max_four min_four
set_option linter.unusedVariables false
set_option linter.unusedSimpArgs false
def spec_l04Bytes.f (k : Nat) (s0_0 : List Int) (s0_1 : Int) (s0_2 : Int) : Option (List Int × Int × Int) := (spec_l04Draw.f k s0_0 s0_1 s0_2).bind fun bt760 => ((spec_Encode.f k bt760.1 bt760.2.1).bind fun bt766 => ((spec_l01Below.f s0_0 bt760.2.2.1 bt760.2.2.2 8).bind fun bt770 => (if bt770.1 = 0 then ((spec_l01Below.f s0_0 bt770.2.1 bt770.2.2 (wrap64 ((bt766.1.length : Int) + 1))).bind fun bt773 => (if 0 ≤ bt773.1 then (if bt773.1 ≤ (bt766.1.length : Int) then (some ((bt766.1.take (bt773.1 : Int).toNat), bt773.2.1, bt773.2.2)) else (none)) else (none))) else (if bt770.1 = 1 then ((spec_l01Below.f s0_0 bt770.2.1 bt770.2.2 (bt766.1.length : Int)).bind fun bt779 => ((spec_l01Byte.f s0_0 bt779.2.1 bt779.2.2).bind fun bt782 => (if 0 ≤ bt779.1 then (if bt779.1 < (bt766.1.length : Int) then (some ((bt766.1.set (bt779.1 : Int).toNat ((bt782.1) % 256)), bt782.2.1, bt782.2.2)) else (none)) else (none)))) else (if bt770.1 = 2 then ((spec_l01Below.f s0_0 bt770.2.1 bt770.2.2 8).bind fun bt786 => ((spec_l01Byte.f s0_0 bt786.2.1 bt786.2.2).bind fun bt789 => (if 0 ≤ (wrap64 (2 + bt786.1)) then (if (wrap64 (2 + bt786.1)) < (bt766.1.length : Int) then (some ((bt766.1.set ((wrap64 (2 + bt786.1)) : Int).toNat ((bt789.1) % 256)), bt789.2.1, bt789.2.2)) else (none)) else (none)))) else (if bt770.1 = 3 then ((spec_l01Byte.f s0_0 bt770.2.1 bt770.2.2).bind fun bt793 => (if bt766.1.length < 140737488355328 then (some ((bt766.1 ++ [(bt793.1) % 256]), bt793.2.1, bt793.2.2)) else (none))) else (some (bt766.1, bt770.2.1, bt770.2.2))))))))
set_option maxHeartbeats 8000000 in
set_option maxRecDepth 100000 in
theorem spec_l04Bytes.calls (k : Nat) (g : Nat) (s0_0 : List Int) (s0_1 : Int) (s0_2 : Int) (r1 : List Int) (r2 : Int) (r3 : Int) (w0 w : World) (hI : IsS71 w0 w g s0_0 s0_1 s0_2) (hB : Below w0.heap.size w0 w) (h : spec_l04Bytes.f k s0_0 s0_1 s0_2 = some (r1, r2, r3)) :
  Calls Tryd.prog 74 #[.pointer (some ⟨g, 0, none⟩)] w fun e w' => ∃ v0_ : Value, e = .returned (v0_) ∧ Kd.R (Kd.int .u8) 5 w' w.heap.size (fun _ => True) v0_ r1 ∧ IsS71 w0 w' g s0_0 r2 r3 ∧ Below w0.heap.size w0 w' ∧ KeepBut w w' g none := by
 have HI0 := Aside0.mk hI
 have HK := Aside0.mk (KeepBut.refl w g none)
 have HL := Aside0.mk hB.size
 clear hI
 have HW0 := Aside0.mk hB.size
 have HB := Aside0.mk hB
 clear hB
 have H : ((spec_l04Draw.f k s0_0 s0_1 s0_2).bind fun bt760 => ((spec_Encode.f k bt760.1 bt760.2.1).bind fun bt766 => ((spec_l01Below.f s0_0 bt760.2.2.1 bt760.2.2.2 8).bind fun bt770 => (if bt770.1 = 0 then ((spec_l01Below.f s0_0 bt770.2.1 bt770.2.2 (wrap64 ((bt766.1.length : Int) + 1))).bind fun bt773 => (if 0 ≤ bt773.1 then (if bt773.1 ≤ (bt766.1.length : Int) then (some ((bt766.1.take (bt773.1 : Int).toNat), bt773.2.1, bt773.2.2)) else (none)) else (none))) else (if bt770.1 = 1 then ((spec_l01Below.f s0_0 bt770.2.1 bt770.2.2 (bt766.1.length : Int)).bind fun bt779 => ((spec_l01Byte.f s0_0 bt779.2.1 bt779.2.2).bind fun bt782 => (if 0 ≤ bt779.1 then (if bt779.1 < (bt766.1.length : Int) then (some ((bt766.1.set (bt779.1 : Int).toNat ((bt782.1) % 256)), bt782.2.1, bt782.2.2)) else (none)) else (none)))) else (if bt770.1 = 2 then ((spec_l01Below.f s0_0 bt770.2.1 bt770.2.2 8).bind fun bt786 => ((spec_l01Byte.f s0_0 bt786.2.1 bt786.2.2).bind fun bt789 => (if 0 ≤ (wrap64 (2 + bt786.1)) then (if (wrap64 (2 + bt786.1)) < (bt766.1.length : Int) then (some ((bt766.1.set ((wrap64 (2 + bt786.1)) : Int).toNat ((bt789.1) % 256)), bt789.2.1, bt789.2.2)) else (none)) else (none)))) else (if bt770.1 = 3 then ((spec_l01Byte.f s0_0 bt770.2.1 bt770.2.2).bind fun bt793 => (if bt766.1.length < 140737488355328 then (some ((bt766.1 ++ [(bt793.1) % 256]), bt793.2.1, bt793.2.2)) else (none))) else (some (bt766.1, bt770.2.1, bt770.2.2))))))))) = some (r1, r2, r3) := h
 clear h
 replace H := Option.bind_eq_some_iff.mp H
 obtain ⟨⟨t760, t761, t764, t765⟩, A20, H⟩ := H
 replace H : ((spec_Encode.f k t760 t761).bind fun bt766 => ((spec_l01Below.f s0_0 t764 t765 8).bind fun bt770 => (if bt770.1 = 0 then ((spec_l01Below.f s0_0 bt770.2.1 bt770.2.2 (wrap64 ((bt766.1.length : Int) + 1))).bind fun bt773 => (if 0 ≤ bt773.1 then (if bt773.1 ≤ (bt766.1.length : Int) then (some ((bt766.1.take (bt773.1 : Int).toNat), bt773.2.1, bt773.2.2)) else (none)) else (none))) else (if bt770.1 = 1 then ((spec_l01Below.f s0_0 bt770.2.1 bt770.2.2 (bt766.1.length : Int)).bind fun bt779 => ((spec_l01Byte.f s0_0 bt779.2.1 bt779.2.2).bind fun bt782 => (if 0 ≤ bt779.1 then (if bt779.1 < (bt766.1.length : Int) then (some ((bt766.1.set (bt779.1 : Int).toNat ((bt782.1) % 256)), bt782.2.1, bt782.2.2)) else (none)) else (none)))) else (if bt770.1 = 2 then ((spec_l01Below.f s0_0 bt770.2.1 bt770.2.2 8).bind fun bt786 => ((spec_l01Byte.f s0_0 bt786.2.1 bt786.2.2).bind fun bt789 => (if 0 ≤ (wrap64 (2 + bt786.1)) then (if (wrap64 (2 + bt786.1)) < (bt766.1.length : Int) then (some ((bt766.1.set ((wrap64 (2 + bt786.1)) : Int).toNat ((bt789.1) % 256)), bt789.2.1, bt789.2.2)) else (none)) else (none)))) else (if bt770.1 = 3 then ((spec_l01Byte.f s0_0 bt770.2.1 bt770.2.2).bind fun bt793 => (if bt766.1.length < 140737488355328 then (some ((bt766.1 ++ [(bt793.1) % 256]), bt793.2.1, bt793.2.2)) else (none))) else (some (bt766.1, bt770.2.1, bt770.2.2)))))))) = some (r1, r2, r3) := H
 have A2 := Aside0.mk A20
 clear A20
 replace H := Option.bind_eq_some_iff.mp H
 obtain ⟨⟨t766, t769⟩, A30, H⟩ := H
 replace H : ((spec_l01Below.f s0_0 t764 t765 8).bind fun bt770 => (if bt770.1 = 0 then ((spec_l01Below.f s0_0 bt770.2.1 bt770.2.2 (wrap64 ((t766.length : Int) + 1))).bind fun bt773 => (if 0 ≤ bt773.1 then (if bt773.1 ≤ (t766.length : Int) then (some ((t766.take (bt773.1 : Int).toNat), bt773.2.1, bt773.2.2)) else (none)) else (none))) else (if bt770.1 = 1 then ((spec_l01Below.f s0_0 bt770.2.1 bt770.2.2 (t766.length : Int)).bind fun bt779 => ((spec_l01Byte.f s0_0 bt779.2.1 bt779.2.2).bind fun bt782 => (if 0 ≤ bt779.1 then (if bt779.1 < (t766.length : Int) then (some ((t766.set (bt779.1 : Int).toNat ((bt782.1) % 256)), bt782.2.1, bt782.2.2)) else (none)) else (none)))) else (if bt770.1 = 2 then ((spec_l01Below.f s0_0 bt770.2.1 bt770.2.2 8).bind fun bt786 => ((spec_l01Byte.f s0_0 bt786.2.1 bt786.2.2).bind fun bt789 => (if 0 ≤ (wrap64 (2 + bt786.1)) then (if (wrap64 (2 + bt786.1)) < (t766.length : Int) then (some ((t766.set ((wrap64 (2 + bt786.1)) : Int).toNat ((bt789.1) % 256)), bt789.2.1, bt789.2.2)) else (none)) else (none)))) else (if bt770.1 = 3 then ((spec_l01Byte.f s0_0 bt770.2.1 bt770.2.2).bind fun bt793 => (if t766.length < 140737488355328 then (some ((t766 ++ [(bt793.1) % 256]), bt793.2.1, bt793.2.2)) else (none))) else (some (t766, bt770.2.1, bt770.2.2))))))) = some (r1, r2, r3) := H
 have A3 := Aside0.mk A30
 clear A30
 replace H := Option.bind_eq_some_iff.mp H
 obtain ⟨⟨t770, t771, t772⟩, A40, H⟩ := H
 replace H : (if t770 = 0 then ((spec_l01Below.f s0_0 t771 t772 (wrap64 ((t766.length : Int) + 1))).bind fun bt773 => (if 0 ≤ bt773.1 then (if bt773.1 ≤ (t766.length : Int) then (some ((t766.take (bt773.1 : Int).toNat), bt773.2.1, bt773.2.2)) else (none)) else (none))) else (if t770 = 1 then ((spec_l01Below.f s0_0 t771 t772 (t766.length : Int)).bind fun bt779 => ((spec_l01Byte.f s0_0 bt779.2.1 bt779.2.2).bind fun bt782 => (if 0 ≤ bt779.1 then (if bt779.1 < (t766.length : Int) then (some ((t766.set (bt779.1 : Int).toNat ((bt782.1) % 256)), bt782.2.1, bt782.2.2)) else (none)) else (none)))) else (if t770 = 2 then ((spec_l01Below.f s0_0 t771 t772 8).bind fun bt786 => ((spec_l01Byte.f s0_0 bt786.2.1 bt786.2.2).bind fun bt789 => (if 0 ≤ (wrap64 (2 + bt786.1)) then (if (wrap64 (2 + bt786.1)) < (t766.length : Int) then (some ((t766.set ((wrap64 (2 + bt786.1)) : Int).toNat ((bt789.1) % 256)), bt789.2.1, bt789.2.2)) else (none)) else (none)))) else (if t770 = 3 then ((spec_l01Byte.f s0_0 t771 t772).bind fun bt793 => (if t766.length < 140737488355328 then (some ((t766 ++ [(bt793.1) % 256]), bt793.2.1, bt793.2.2)) else (none))) else (some (t766, t771, t772)))))) = some (r1, r2, r3) := H
 have A4 := Aside0.mk A40
 clear A40
 by_cases c5 : t770 = 0
 ·rw [if_pos c5] at H
  have c5b0 : (t770 == 0) = true := beq_iff_eq.mpr c5
  have c5b1 : (t770 != 0) = false := bne_eq_false_iff_eq.mpr c5
  clear c5
  replace H := Option.bind_eq_some_iff.mp H
  obtain ⟨⟨t773, t774, t775⟩, A60, H⟩ := H
  replace H : (if 0 ≤ t773 then (if t773 ≤ (t766.length : Int) then (some ((t766.take (t773 : Int).toNat), t774, t775)) else (none)) else (none)) = some (r1, r2, r3) := H
  have A6 := Aside0.mk A60
  clear A60
  by_cases c7 : 0 ≤ t773
  ·rw [if_pos c7] at H
   have c7b0 := eq_true c7
   have c7b1 : decide (0 ≤ t773) = true := decide_eq_true c7
   clear c7
   by_cases c8 : t773 ≤ (t766.length : Int)
   ·rw [if_pos c8] at H
    have c8b0 := eq_true c8
    have c8b1 : decide (t773 ≤ (t766.length : Int)) = true := decide_eq_true c8
    clear c8
    obtain ⟨y776, hy776⟩ : ∃ y_ : List Int, y_ = (t766.take (t773 : Int).toNat) := ⟨_, rfl⟩
    replace H : (some (y776, t774, t775)) = some (r1, r2, r3) := by first | (rw [hy776]; with_reducible exact H) | (have H2_ := (Option.bind_some _ _).symm.trans H; rw [hy776]; with_reducible exact H2_) | (have H2_ := (Option.bind_some _ _).symm.trans H; with_reducible exact H2_) | with_reducible exact H | (rw [hy776]; exact H) | exact H
    have Ny776 := Aside0.mk hy776
    clear hy776
    simp only [Option.some.injEq, Prod.mk.injEq] at H
    obtain ⟨rfl, rfl, rfl⟩ := H
    go_enter Tryd.func74, Tryd.ntmps74
    go_wp2_with (first | ((with_reducible refine gate_callee (f := 70) rfl ?_); refine goesM_ (some 7) rfl rfl Tryd.func70 (by kernel_rfl) rfl #[.pointer (some ⟨g, 0, none⟩)] rfl ?_; (with_reducible refine (spec_l04Draw.calls k g s0_0 s0_1 s0_2 t760 t761 t764 t765 w0 _ ?side1 ?side2 A2.out).mono ?_); (case side1 => repeat (first | (with_reducible first | exact HI0.out | apply IsS71.alloc | apply IsS71.drewN | apply IsS71.drew | apply IsS71.set_1 | apply IsS71.set_2) | exact HI0.out)); (case side2 => repeat (first | (with_reducible first | exact HB.out | apply below_alloc | apply pw_below_drewN | apply below_drew1 | refine below_set ?_ (IsS71.ge HI0.out)) | exact HB.out)); rintro e w9 ⟨v762, rfl, ho0, hi, hb, hk⟩; refine ⟨_, rfl, ?_⟩; have n0_ := Aside0.mk (Kd.R_lower ho0 (keep_size (w := w) (g := g) (row := none) (by repeat (first | (with_reducible first | exact HK.out | apply KeepBut.set_ | apply keep_drewN | apply keep_drew | apply keep_alloc) | exact HK.out)))); have n1_ := Aside0.mk (KeepBut.trans (by repeat (first | (with_reducible first | exact HK.out | apply KeepBut.set_ | apply keep_drewN | apply keep_drew | apply keep_alloc) | exact HK.out)) hk (.inl rfl)); have n2_ := Aside0.mk (hb); have n3_ := Aside0.mk (hi); clear HK; clear HB; clear HI0; have HO763 := n0_; have HK := n1_; have HB := n2_; have HI0 := n3_; clear n0_ n1_ n2_ n3_; (try clear hb); (try clear hb2); (try clear hk); (try clear hi); (try clear ho0); obtain ⟨Ao10, co10, eo10⟩ := Kd.R_slice HO763.out; subst eo10) | ((with_reducible refine gate_callee (f := 27) rfl ?_); refine goesM_ (some 8) rfl rfl Tryd.func27 (by kernel_rfl) rfl #[.agg #[.string t760, .slice Ao10 t761.length co10]] rfl ?_; (with_reducible refine (spec_Encode.calls k t760 _ _ t761 t766 t769 _ ?side1 ?side2 A3.out).mono ?_); (case side1 => repeat (first | exact (Kd.R_reads' HO763.out).2.2 | (with_reducible refine Kd.C_alloc ?_ _) | (with_reducible refine Kd.C_drewN ?_ _) | (with_reducible refine Kd.C_drew ?_))); (case side2 => exact (Kd.R_reads' HO763.out).2.1); rintro e w11 ⟨v767, rfl, ho0, hb⟩; refine ⟨_, rfl, ?_⟩; have n0_ := Aside0.mk (Kd.R_below (rA HO763.out) hb); have n1_ := Aside0.mk (Kd.R_lower ho0 (keep_size (w := w) (g := g) (row := none) (by repeat (first | (with_reducible first | exact HK.out | apply KeepBut.set_ | apply keep_drewN | apply keep_drew | apply keep_alloc) | exact HK.out)))); have n2_ := Aside0.mk (IsS71.below (by repeat (first | (with_reducible first | exact HI0.out | apply IsS71.alloc | apply IsS71.drewN | apply IsS71.drew | apply IsS71.set_1 | apply IsS71.set_2) | exact HI0.out)) hb); have n3_ := Aside0.mk (KeepBut.trans (by repeat (first | (with_reducible first | exact HK.out | apply KeepBut.set_ | apply keep_drewN | apply keep_drew | apply keep_alloc) | exact HK.out)) (KeepBut.of_below hb g none) (.inl rfl)); have n4_ := Aside0.mk (below_step (by repeat (first | (with_reducible first | exact HB.out | apply below_alloc | apply pw_below_drewN | apply below_drew1 | refine below_set ?_ (IsS71.ge HI0.out)) | exact HB.out)) hb); clear HO763; clear HI0; clear HK; clear HB; have HO763 := n0_; have HO768 := n1_; have HI0 := n2_; have HK := n3_; have HB := n4_; clear n0_ n1_ n2_ n3_ n4_; (try clear hb); (try clear hb2); (try clear hk); (try clear hi); (try clear ho0)) | ((with_reducible refine gate_callee (f := 43) rfl ?_); refine goesM_ (some 12) rfl rfl Tryd.func43 (by kernel_rfl) rfl #[.pointer (some ⟨g, 0, none⟩), .int .i64 8] rfl ?_; (with_reducible refine (spec_l01Below.calls g s0_0 t764 t765 8 t770 t771 t772 w0 _ ?side1 ?side2 A4.out).mono ?_); (case side1 => repeat (first | (with_reducible first | exact HI0.out | apply IsS71.alloc | apply IsS71.drewN | apply IsS71.drew | apply IsS71.set_1 | apply IsS71.set_2) | exact HI0.out)); (case side2 => repeat (first | (with_reducible first | exact HB.out | apply below_alloc | apply pw_below_drewN | apply below_drew1 | refine below_set ?_ (IsS71.ge HI0.out)) | exact HB.out)); rintro e w12 ⟨rfl, hi, hb, hk⟩; refine ⟨_, rfl, ?_⟩; have n0_ := Aside0.mk (Kd.R_mono (Kd.R_keep (IsS71.apart (show IsS71 w0 _ g s0_0 t764 t765 from by repeat (first | (with_reducible first | exact HI0.out | apply IsS71.alloc | apply IsS71.drewN | apply IsS71.drew | apply IsS71.set_1 | apply IsS71.set_2) | exact HI0.out)) (rA HO763.out) (by decide)) hk (fun _ h => h.2)) (fun _ h => h.1)); have n1_ := Aside0.mk (Kd.R_mono (Kd.R_keep (IsS71.apart (show IsS71 w0 _ g s0_0 t764 t765 from by repeat (first | (with_reducible first | exact HI0.out | apply IsS71.alloc | apply IsS71.drewN | apply IsS71.drew | apply IsS71.set_1 | apply IsS71.set_2) | exact HI0.out)) (rA HO768.out) (by decide)) hk (fun _ h => h.2)) (fun _ h => h.1)); have n2_ := Aside0.mk (KeepBut.trans (by repeat (first | (with_reducible first | exact HK.out | apply KeepBut.set_ | apply keep_drewN | apply keep_drew | apply keep_alloc) | exact HK.out)) hk (.inl rfl)); have n3_ := Aside0.mk (hb); have n4_ := Aside0.mk (hi); clear HO763; clear HO768; clear HK; clear HB; clear HI0; have HO763 := n0_; have HO768 := n1_; have HK := n2_; have HB := n3_; have HI0 := n4_; clear n0_ n1_ n2_ n3_ n4_; (try clear hb); (try clear hb2); (try clear hk); (try clear hi); obtain ⟨Ao13, co13, eo13⟩ := Kd.R_slice HO768.out; subst eo13) | ((with_reducible refine gate_callee (f := 43) rfl ?_); refine goesM_ (some 20) rfl rfl Tryd.func43 (by kernel_rfl) rfl #[.pointer (some ⟨g, 0, none⟩), .int .i64 (wrap64 ((t766.length : Int) + 1))] rfl ?_; (with_reducible refine (spec_l01Below.calls g s0_0 t771 t772 (wrap64 ((t766.length : Int) + 1)) t773 t774 t775 w0 _ ?side1 ?side2 A6.out).mono ?_); (case side1 => repeat (first | (with_reducible first | exact HI0.out | apply IsS71.alloc | apply IsS71.drewN | apply IsS71.drew | apply IsS71.set_1 | apply IsS71.set_2) | exact HI0.out)); (case side2 => repeat (first | (with_reducible first | exact HB.out | apply below_alloc | apply pw_below_drewN | apply below_drew1 | refine below_set ?_ (IsS71.ge HI0.out)) | exact HB.out)); rintro e w14 ⟨rfl, hi, hb, hk⟩; refine ⟨_, rfl, ?_⟩; have n0_ := Aside0.mk (Kd.R_mono (Kd.R_keep (IsS71.apart (show IsS71 w0 _ g s0_0 t771 t772 from by repeat (first | (with_reducible first | exact HI0.out | apply IsS71.alloc | apply IsS71.drewN | apply IsS71.drew | apply IsS71.set_1 | apply IsS71.set_2) | exact HI0.out)) (rA HO763.out) (by decide)) hk (fun _ h => h.2)) (fun _ h => h.1)); have n1_ := Aside0.mk (Kd.R_mono (Kd.R_keep (IsS71.apart (show IsS71 w0 _ g s0_0 t771 t772 from by repeat (first | (with_reducible first | exact HI0.out | apply IsS71.alloc | apply IsS71.drewN | apply IsS71.drew | apply IsS71.set_1 | apply IsS71.set_2) | exact HI0.out)) (rA HO768.out) (by decide)) hk (fun _ h => h.2)) (fun _ h => h.1)); have n2_ := Aside0.mk (KeepBut.trans (by repeat (first | (with_reducible first | exact HK.out | apply KeepBut.set_ | apply keep_drewN | apply keep_drew | apply keep_alloc) | exact HK.out)) hk (.inl rfl)); have n3_ := Aside0.mk (hb); have n4_ := Aside0.mk (hi); clear HO763; clear HO768; clear HK; clear HB; clear HI0; have HO763 := n0_; have HO768 := n1_; have HK := n2_; have HB := n3_; have HI0 := n4_; clear n0_ n1_ n2_ n3_ n4_; (try clear hb); (try clear hb2); (try clear hk); (try clear hi); have q15 : (t773 : Int) ≤ ((t766.length : Int) : Int) := of_decide_eq_true (by first | (with_reducible assumption) | assumption); obtain ⟨i015, hi015, _, hsz15, _⟩ := info_parts info5; have hcut15 := cut_to (P := Tryd.prog) 22 5 .i64 Tryd.underlying22 hi015 Ao13 t766.length co13 t773 (of_decide_eq_true (by first | (with_reducible assumption) | assumption)) q15 (Kd.R_reads' HO768.out).2.1; have hr15 := Kd.R_take (m := (t773 : Int).toNat) HO768.out (by omega); have hy15 : y776.length = (t773 : Int).toNat := (by rw [Ny776.out, List.length_take]; omega); rw [← Ny776.out] at hr15; rw [← hy15] at hr15 hcut15; clear hy15 hi015 hsz15 HO768; have HO778 := Aside0.mk hr15; clear hr15; replace q15 := eq_true q15))
    go_ret
    exact ⟨_, by first | rfl | (simp [errW_none, errW_some] <;> rfl) | (simp [*, errW_none, errW_some] <;> rfl), rA HO778.out, by repeat (first | (with_reducible first | exact HI0.out | apply IsS71.alloc | apply IsS71.drewN | apply IsS71.drew | apply IsS71.set_1 | apply IsS71.set_2) | exact HI0.out), by repeat (first | (with_reducible first | exact HB.out | apply below_alloc | apply pw_below_drewN | apply below_drew1 | refine below_set ?_ (IsS71.ge HI0.out)) | exact HB.out), by repeat (first | (with_reducible first | exact HK.out | apply KeepBut.set_ | apply keep_drewN | apply keep_drew | apply keep_alloc) | exact HK.out)⟩
   ·rw [if_neg c8] at H
    exact absurd H (by simp)
  ·rw [if_neg c7] at H
   exact absurd H (by simp)
 ·rw [if_neg c5] at H
  have c5b0 : (t770 == 0) = false := beq_eq_false_iff_ne.mpr c5
  have c5b1 : (t770 != 0) = true := bne_iff_ne.mpr c5
  by_cases c16 : t770 = 1
  ·rw [if_pos c16] at H
   have c16b0 : (t770 == 1) = true := beq_iff_eq.mpr c16
   have c16b1 : (t770 != 1) = false := bne_eq_false_iff_eq.mpr c16
   clear c16
   replace H := Option.bind_eq_some_iff.mp H
   obtain ⟨⟨t779, t780, t781⟩, A170, H⟩ := H
   replace H : ((spec_l01Byte.f s0_0 t780 t781).bind fun bt782 => (if 0 ≤ t779 then (if t779 < (t766.length : Int) then (some ((t766.set (t779 : Int).toNat ((bt782.1) % 256)), bt782.2.1, bt782.2.2)) else (none)) else (none))) = some (r1, r2, r3) := H
   have A17 := Aside0.mk A170
   clear A170
   replace H := Option.bind_eq_some_iff.mp H
   obtain ⟨⟨t782, t783, t784⟩, A180, H⟩ := H
   replace H : (if 0 ≤ t779 then (if t779 < (t766.length : Int) then (some ((t766.set (t779 : Int).toNat ((t782) % 256)), t783, t784)) else (none)) else (none)) = some (r1, r2, r3) := H
   have A18 := Aside0.mk A180
   clear A180
   by_cases c19 : 0 ≤ t779
   ·rw [if_pos c19] at H
    have c19b0 : decide (0 ≤ t779) = true := decide_eq_true c19
    clear c19
    by_cases c20 : t779 < (t766.length : Int)
    ·rw [if_pos c20] at H
     have c20b0 : decide (t779 < (t766.length : Int)) = true := decide_eq_true c20
     clear c20
     obtain ⟨y785, hy785⟩ : ∃ y_ : List Int, y_ = (t766.set (t779 : Int).toNat ((t782) % 256)) := ⟨_, rfl⟩
     replace H : (some (y785, t783, t784)) = some (r1, r2, r3) := by first | (rw [hy785]; with_reducible exact H) | (have H2_ := (Option.bind_some _ _).symm.trans H; rw [hy785]; with_reducible exact H2_) | (have H2_ := (Option.bind_some _ _).symm.trans H; with_reducible exact H2_) | with_reducible exact H | (rw [hy785]; exact H) | exact H
     have Ny785 := Aside0.mk hy785
     clear hy785
     simp only [Option.some.injEq, Prod.mk.injEq] at H
     obtain ⟨rfl, rfl, rfl⟩ := H
     go_enter Tryd.func74, Tryd.ntmps74
     go_wp2_with (first | ((with_reducible refine gate_callee (f := 70) rfl ?_); refine goesM_ (some 7) rfl rfl Tryd.func70 (by kernel_rfl) rfl #[.pointer (some ⟨g, 0, none⟩)] rfl ?_; (with_reducible refine (spec_l04Draw.calls k g s0_0 s0_1 s0_2 t760 t761 t764 t765 w0 _ ?side1 ?side2 A2.out).mono ?_); (case side1 => repeat (first | (with_reducible first | exact HI0.out | apply IsS71.alloc | apply IsS71.drewN | apply IsS71.drew | apply IsS71.set_1 | apply IsS71.set_2) | exact HI0.out)); (case side2 => repeat (first | (with_reducible first | exact HB.out | apply below_alloc | apply pw_below_drewN | apply below_drew1 | refine below_set ?_ (IsS71.ge HI0.out)) | exact HB.out)); rintro e w22 ⟨v762, rfl, ho0, hi, hb, hk⟩; refine ⟨_, rfl, ?_⟩; have n0_ := Aside0.mk (Kd.R_lower ho0 (keep_size (w := w) (g := g) (row := none) (by repeat (first | (with_reducible first | exact HK.out | apply KeepBut.set_ | apply keep_drewN | apply keep_drew | apply keep_alloc) | exact HK.out)))); have n1_ := Aside0.mk (KeepBut.trans (by repeat (first | (with_reducible first | exact HK.out | apply KeepBut.set_ | apply keep_drewN | apply keep_drew | apply keep_alloc) | exact HK.out)) hk (.inl rfl)); have n2_ := Aside0.mk (hb); have n3_ := Aside0.mk (hi); clear HK; clear HB; clear HI0; have HO763 := n0_; have HK := n1_; have HB := n2_; have HI0 := n3_; clear n0_ n1_ n2_ n3_; (try clear hb); (try clear hb2); (try clear hk); (try clear hi); (try clear ho0); obtain ⟨Ao23, co23, eo23⟩ := Kd.R_slice HO763.out; subst eo23) | ((with_reducible refine gate_callee (f := 27) rfl ?_); refine goesM_ (some 8) rfl rfl Tryd.func27 (by kernel_rfl) rfl #[.agg #[.string t760, .slice Ao23 t761.length co23]] rfl ?_; (with_reducible refine (spec_Encode.calls k t760 _ _ t761 t766 t769 _ ?side1 ?side2 A3.out).mono ?_); (case side1 => repeat (first | exact (Kd.R_reads' HO763.out).2.2 | (with_reducible refine Kd.C_alloc ?_ _) | (with_reducible refine Kd.C_drewN ?_ _) | (with_reducible refine Kd.C_drew ?_))); (case side2 => exact (Kd.R_reads' HO763.out).2.1); rintro e w24 ⟨v767, rfl, ho0, hb⟩; refine ⟨_, rfl, ?_⟩; have n0_ := Aside0.mk (Kd.R_below (rA HO763.out) hb); have n1_ := Aside0.mk (Kd.R_lower ho0 (keep_size (w := w) (g := g) (row := none) (by repeat (first | (with_reducible first | exact HK.out | apply KeepBut.set_ | apply keep_drewN | apply keep_drew | apply keep_alloc) | exact HK.out)))); have n2_ := Aside0.mk (IsS71.below (by repeat (first | (with_reducible first | exact HI0.out | apply IsS71.alloc | apply IsS71.drewN | apply IsS71.drew | apply IsS71.set_1 | apply IsS71.set_2) | exact HI0.out)) hb); have n3_ := Aside0.mk (KeepBut.trans (by repeat (first | (with_reducible first | exact HK.out | apply KeepBut.set_ | apply keep_drewN | apply keep_drew | apply keep_alloc) | exact HK.out)) (KeepBut.of_below hb g none) (.inl rfl)); have n4_ := Aside0.mk (below_step (by repeat (first | (with_reducible first | exact HB.out | apply below_alloc | apply pw_below_drewN | apply below_drew1 | refine below_set ?_ (IsS71.ge HI0.out)) | exact HB.out)) hb); clear HO763; clear HI0; clear HK; clear HB; have HO763 := n0_; have HO768 := n1_; have HI0 := n2_; have HK := n3_; have HB := n4_; clear n0_ n1_ n2_ n3_ n4_; (try clear hb); (try clear hb2); (try clear hk); (try clear hi); (try clear ho0)) | ((with_reducible refine gate_callee (f := 43) rfl ?_); refine goesM_ (some 12) rfl rfl Tryd.func43 (by kernel_rfl) rfl #[.pointer (some ⟨g, 0, none⟩), .int .i64 8] rfl ?_; (with_reducible refine (spec_l01Below.calls g s0_0 t764 t765 8 t770 t771 t772 w0 _ ?side1 ?side2 A4.out).mono ?_); (case side1 => repeat (first | (with_reducible first | exact HI0.out | apply IsS71.alloc | apply IsS71.drewN | apply IsS71.drew | apply IsS71.set_1 | apply IsS71.set_2) | exact HI0.out)); (case side2 => repeat (first | (with_reducible first | exact HB.out | apply below_alloc | apply pw_below_drewN | apply below_drew1 | refine below_set ?_ (IsS71.ge HI0.out)) | exact HB.out)); rintro e w25 ⟨rfl, hi, hb, hk⟩; refine ⟨_, rfl, ?_⟩; have n0_ := Aside0.mk (Kd.R_mono (Kd.R_keep (IsS71.apart (show IsS71 w0 _ g s0_0 t764 t765 from by repeat (first | (with_reducible first | exact HI0.out | apply IsS71.alloc | apply IsS71.drewN | apply IsS71.drew | apply IsS71.set_1 | apply IsS71.set_2) | exact HI0.out)) (rA HO763.out) (by decide)) hk (fun _ h => h.2)) (fun _ h => h.1)); have n1_ := Aside0.mk (Kd.R_mono (Kd.R_keep (IsS71.apart (show IsS71 w0 _ g s0_0 t764 t765 from by repeat (first | (with_reducible first | exact HI0.out | apply IsS71.alloc | apply IsS71.drewN | apply IsS71.drew | apply IsS71.set_1 | apply IsS71.set_2) | exact HI0.out)) (rA HO768.out) (by decide)) hk (fun _ h => h.2)) (fun _ h => h.1)); have n2_ := Aside0.mk (KeepBut.trans (by repeat (first | (with_reducible first | exact HK.out | apply KeepBut.set_ | apply keep_drewN | apply keep_drew | apply keep_alloc) | exact HK.out)) hk (.inl rfl)); have n3_ := Aside0.mk (hb); have n4_ := Aside0.mk (hi); clear HO763; clear HO768; clear HK; clear HB; clear HI0; have HO763 := n0_; have HO768 := n1_; have HK := n2_; have HB := n3_; have HI0 := n4_; clear n0_ n1_ n2_ n3_ n4_; (try clear hb); (try clear hb2); (try clear hk); (try clear hi); obtain ⟨Ao26, co26, eo26⟩ := Kd.R_slice HO768.out; subst eo26) | ((with_reducible refine gate_callee (f := 43) rfl ?_); refine goesM_ (some 28) rfl rfl Tryd.func43 (by kernel_rfl) rfl #[.pointer (some ⟨g, 0, none⟩), .int .i64 (t766.length : Int)] rfl ?_; (with_reducible refine (spec_l01Below.calls g s0_0 t771 t772 (t766.length : Int) t779 t780 t781 w0 _ ?side1 ?side2 A17.out).mono ?_); (case side1 => repeat (first | (with_reducible first | exact HI0.out | apply IsS71.alloc | apply IsS71.drewN | apply IsS71.drew | apply IsS71.set_1 | apply IsS71.set_2) | exact HI0.out)); (case side2 => repeat (first | (with_reducible first | exact HB.out | apply below_alloc | apply pw_below_drewN | apply below_drew1 | refine below_set ?_ (IsS71.ge HI0.out)) | exact HB.out)); rintro e w27 ⟨rfl, hi, hb, hk⟩; refine ⟨_, rfl, ?_⟩; have n0_ := Aside0.mk (Kd.R_mono (Kd.R_keep (IsS71.apart (show IsS71 w0 _ g s0_0 t771 t772 from by repeat (first | (with_reducible first | exact HI0.out | apply IsS71.alloc | apply IsS71.drewN | apply IsS71.drew | apply IsS71.set_1 | apply IsS71.set_2) | exact HI0.out)) (rA HO763.out) (by decide)) hk (fun _ h => h.2)) (fun _ h => h.1)); have n1_ := Aside0.mk (Kd.R_mono (Kd.R_keep (IsS71.apart (show IsS71 w0 _ g s0_0 t771 t772 from by repeat (first | (with_reducible first | exact HI0.out | apply IsS71.alloc | apply IsS71.drewN | apply IsS71.drew | apply IsS71.set_1 | apply IsS71.set_2) | exact HI0.out)) (rA HO768.out) (by decide)) hk (fun _ h => h.2)) (fun _ h => h.1)); have n2_ := Aside0.mk (KeepBut.trans (by repeat (first | (with_reducible first | exact HK.out | apply KeepBut.set_ | apply keep_drewN | apply keep_drew | apply keep_alloc) | exact HK.out)) hk (.inl rfl)); have n3_ := Aside0.mk (hb); have n4_ := Aside0.mk (hi); clear HO763; clear HO768; clear HK; clear HB; clear HI0; have HO763 := n0_; have HO768 := n1_; have HK := n2_; have HB := n3_; have HI0 := n4_; clear n0_ n1_ n2_ n3_ n4_; (try clear hb); (try clear hb2); (try clear hk); (try clear hi)) | ((with_reducible refine gate_callee (f := 76) rfl ?_); refine goesM_ (some 30) rfl rfl Tryd.func76 (by kernel_rfl) rfl #[.pointer (some ⟨g, 0, none⟩)] rfl ?_; (with_reducible refine (spec_l01Byte.calls g s0_0 t780 t781 t782 t783 t784 w0 _ ?side1 ?side2 A18.out).mono ?_); (case side1 => repeat (first | (with_reducible first | exact HI0.out | apply IsS71.alloc | apply IsS71.drewN | apply IsS71.drew | apply IsS71.set_1 | apply IsS71.set_2) | exact HI0.out)); (case side2 => repeat (first | (with_reducible first | exact HB.out | apply below_alloc | apply pw_below_drewN | apply below_drew1 | refine below_set ?_ (IsS71.ge HI0.out)) | exact HB.out)); rintro e w28 ⟨rfl, hi, hb, hk⟩; refine ⟨_, rfl, ?_⟩; have n0_ := Aside0.mk (Kd.R_mono (Kd.R_keep (IsS71.apart (show IsS71 w0 _ g s0_0 t780 t781 from by repeat (first | (with_reducible first | exact HI0.out | apply IsS71.alloc | apply IsS71.drewN | apply IsS71.drew | apply IsS71.set_1 | apply IsS71.set_2) | exact HI0.out)) (rA HO763.out) (by decide)) hk (fun _ h => h.2)) (fun _ h => h.1)); have n1_ := Aside0.mk (Kd.R_mono (Kd.R_keep (IsS71.apart (show IsS71 w0 _ g s0_0 t780 t781 from by repeat (first | (with_reducible first | exact HI0.out | apply IsS71.alloc | apply IsS71.drewN | apply IsS71.drew | apply IsS71.set_1 | apply IsS71.set_2) | exact HI0.out)) (rA HO768.out) (by decide)) hk (fun _ h => h.2)) (fun _ h => h.1)); have n2_ := Aside0.mk (KeepBut.trans (by repeat (first | (with_reducible first | exact HK.out | apply KeepBut.set_ | apply keep_drewN | apply keep_drew | apply keep_alloc) | exact HK.out)) hk (.inl rfl)); have n3_ := Aside0.mk (hb); have n4_ := Aside0.mk (hi); clear HO763; clear HO768; clear HK; clear HB; clear HI0; have HO763 := n0_; have HO768 := n1_; have HK := n2_; have HB := n3_; have HI0 := n4_; clear n0_ n1_ n2_ n3_ n4_; (try clear hb); (try clear hb2); (try clear hk); (try clear hi); have p21 : 0 ≤ (t779 : Int) := of_decide_eq_true (by first | (with_reducible assumption) | assumption); have q21 : (t779 : Int) < ((t766.length : Int) : Int) := of_decide_eq_true (by first | (with_reducible assumption) | assumption); obtain ⟨go21, co21, eo21, gb21, gl21, cl21, HG21⟩ := Kd.R_form HO768.out (by omega); (first | cases eo21 | (injection eo21 with ea_ en_ ec_; (first | subst ea_ | (injection ea_ with ea_; subst ea_)); subst ec_; clear en_)); have GB21 := Aside0.mk gb21; have GG21 := Aside0.mk HG21; clear gb21 gl21 HG21; obtain ⟨hx21_0, hf21_0⟩ := Kd.R_celln 0 HO768.out (t779 : Int) p21 q21; replace p21 := eq_true p21; replace q21 := eq_true q21; obtain ⟨hy29_, hz29_⟩ := Kd.R_celln 0 HO768.out (t779 : Int) (of_decide_eq_true (by first | (with_reducible assumption) | assumption)) (of_decide_eq_true (by first | (with_reducible assumption) | assumption)); have HP29 := Kd.R_putg HO768.out (t779 : Int) ((t782) % 256)) | ((with_reducible refine gate_store (t := 5) (p := 32) rfl ?_); refine store_event (t := 5) (p := 32) (v := ?vo_w30) (w1 := (w28.setCell ⟨go21, (t779 : Int).toNat, none⟩ (.int .u8 ((t782) % 256)))) ?hg ?ho ?hn ?hr ?_; (case ho => rfl); (case hg => rfl); (case hn => rfl); (case hr => first | (go_simp; done) | (go_simp; rfl)); intro w30 hw; have hg : w28.grownBy w30 (some go21) := (by rw [hw]; exact HP29.2); have hp_ : Kd.R (Kd.int .u8) 5 w30 w.heap.size (fun _ => True) (.slice (some ⟨go21, 0, none⟩) t766.length co26) y785 := (by rw [hw, Ny785.out]; exact HP29.1); clear HP29; have n0_ := Aside0.mk (IsS71.grown (by repeat (first | (with_reducible first | exact HI0.out | apply IsS71.alloc | apply IsS71.drewN | apply IsS71.drew | apply IsS71.set_1 | apply IsS71.set_2) | exact HI0.out)) hg (IsS71.own_ne HI0.out HO768.out (by decide))); have n1_ := Aside0.mk (Kd.R_over' (v := (.slice (some ⟨go21, 0, none⟩) t766.length co26)) (rA HO763.out) (Kd.R_typed HO768.out) (by decide) hg); have n2_ := Aside0.mk (hp_); have n3_ := Aside0.mk ((by rw [hw]; exact below_set (HB.out) (Nat.le_trans HL.out GB21.out) : Below w0.heap.size w0 w30)); have n4_ := Aside0.mk (KeepBut.trans (by repeat (first | (with_reducible first | exact HK.out | apply KeepBut.set_ | apply keep_drewN | apply keep_drew | apply keep_alloc) | exact HK.out)) (KeepBut.of_grown hg g) (Kd.R_base2 HO768.out)); clear HI0; clear HO763; clear HO768; clear HB; clear HK; have HI0 := n0_; have HO763 := n1_; have HO768 := n2_; have HB := n3_; have HK := n4_; clear n0_ n1_ n2_ n3_ n4_; clear hg hw hp_))
     go_ret
     exact ⟨_, by first | rfl | (simp [errW_none, errW_some] <;> rfl) | (simp [*, errW_none, errW_some] <;> rfl), rA HO768.out, by repeat (first | (with_reducible first | exact HI0.out | apply IsS71.alloc | apply IsS71.drewN | apply IsS71.drew | apply IsS71.set_1 | apply IsS71.set_2) | exact HI0.out), by repeat (first | (with_reducible first | exact HB.out | apply below_alloc | apply pw_below_drewN | apply below_drew1 | refine below_set ?_ (IsS71.ge HI0.out)) | exact HB.out), by repeat (first | (with_reducible first | exact HK.out | apply KeepBut.set_ | apply keep_drewN | apply keep_drew | apply keep_alloc) | exact HK.out)⟩
    ·rw [if_neg c20] at H
     exact absurd H (by simp)
   ·rw [if_neg c19] at H
    exact absurd H (by simp)
  ·rw [if_neg c16] at H
   have c16b0 : (t770 == 1) = false := beq_eq_false_iff_ne.mpr c16
   have c16b1 : (t770 != 1) = true := bne_iff_ne.mpr c16
   by_cases c31 : t770 = 2
   ·rw [if_pos c31] at H
    have c31b0 : (t770 == 2) = true := beq_iff_eq.mpr c31
    have c31b1 : (t770 != 2) = false := bne_eq_false_iff_eq.mpr c31
    clear c31
    replace H := Option.bind_eq_some_iff.mp H
    obtain ⟨⟨t786, t787, t788⟩, A320, H⟩ := H
    replace H : ((spec_l01Byte.f s0_0 t787 t788).bind fun bt789 => (if 0 ≤ (wrap64 (2 + t786)) then (if (wrap64 (2 + t786)) < (t766.length : Int) then (some ((t766.set ((wrap64 (2 + t786)) : Int).toNat ((bt789.1) % 256)), bt789.2.1, bt789.2.2)) else (none)) else (none))) = some (r1, r2, r3) := H
    have A32 := Aside0.mk A320
    clear A320
    replace H := Option.bind_eq_some_iff.mp H
    obtain ⟨⟨t789, t790, t791⟩, A330, H⟩ := H
    replace H : (if 0 ≤ (wrap64 (2 + t786)) then (if (wrap64 (2 + t786)) < (t766.length : Int) then (some ((t766.set ((wrap64 (2 + t786)) : Int).toNat ((t789) % 256)), t790, t791)) else (none)) else (none)) = some (r1, r2, r3) := H
    have A33 := Aside0.mk A330
    clear A330
    obtain ⟨ji34, hji34⟩ : ∃ j_ : Int, (wrap64 (2 + t786)) = j_ := ⟨_, rfl⟩
    replace H : (if 0 ≤ (ji34) then (if (ji34) < (t766.length : Int) then (some ((t766.set ((ji34) : Int).toNat ((t789) % 256)), t790, t791)) else (none)) else (none)) = some (r1, r2, r3) := by first | (rw [hji34] at H; exact H) | (simp only [hji34] at H ⊢; exact H)
    (try rw [hji34] at A2)
    (try rw [hji34] at A3)
    (try rw [hji34] at A4)
    (try rw [hji34] at A32)
    (try rw [hji34] at A33)
    have hji34w : (IntKind.i64.wrap (2 + t786)) = ji34 := (i64_w _).trans hji34
    by_cases c35 : 0 ≤ (ji34)
    ·rw [if_pos c35] at H
     have c35b0 : decide (0 ≤ (ji34)) = true := decide_eq_true c35
     clear c35
     by_cases c36 : (ji34) < (t766.length : Int)
     ·rw [if_pos c36] at H
      have c36b0 : decide ((ji34) < (t766.length : Int)) = true := decide_eq_true c36
      clear c36
      obtain ⟨y792, hy792⟩ : ∃ y_ : List Int, y_ = (t766.set ((ji34) : Int).toNat ((t789) % 256)) := ⟨_, rfl⟩
      replace H : (some (y792, t790, t791)) = some (r1, r2, r3) := by first | (rw [hy792]; with_reducible exact H) | (have H2_ := (Option.bind_some _ _).symm.trans H; rw [hy792]; with_reducible exact H2_) | (have H2_ := (Option.bind_some _ _).symm.trans H; with_reducible exact H2_) | with_reducible exact H | (rw [hy792]; exact H) | exact H
      have Ny792 := Aside0.mk hy792
      clear hy792
      simp only [Option.some.injEq, Prod.mk.injEq] at H
      obtain ⟨rfl, rfl, rfl⟩ := H
      go_enter Tryd.func74, Tryd.ntmps74
      go_wp2_with (first | ((with_reducible refine gate_callee (f := 70) rfl ?_); refine goesM_ (some 7) rfl rfl Tryd.func70 (by kernel_rfl) rfl #[.pointer (some ⟨g, 0, none⟩)] rfl ?_; (with_reducible refine (spec_l04Draw.calls k g s0_0 s0_1 s0_2 t760 t761 t764 t765 w0 _ ?side1 ?side2 A2.out).mono ?_); (case side1 => repeat (first | (with_reducible first | exact HI0.out | apply IsS71.alloc | apply IsS71.drewN | apply IsS71.drew | apply IsS71.set_1 | apply IsS71.set_2) | exact HI0.out)); (case side2 => repeat (first | (with_reducible first | exact HB.out | apply below_alloc | apply pw_below_drewN | apply below_drew1 | refine below_set ?_ (IsS71.ge HI0.out)) | exact HB.out)); rintro e w38 ⟨v762, rfl, ho0, hi, hb, hk⟩; refine ⟨_, rfl, ?_⟩; have n0_ := Aside0.mk (Kd.R_lower ho0 (keep_size (w := w) (g := g) (row := none) (by repeat (first | (with_reducible first | exact HK.out | apply KeepBut.set_ | apply keep_drewN | apply keep_drew | apply keep_alloc) | exact HK.out)))); have n1_ := Aside0.mk (KeepBut.trans (by repeat (first | (with_reducible first | exact HK.out | apply KeepBut.set_ | apply keep_drewN | apply keep_drew | apply keep_alloc) | exact HK.out)) hk (.inl rfl)); have n2_ := Aside0.mk (hb); have n3_ := Aside0.mk (hi); clear HK; clear HB; clear HI0; have HO763 := n0_; have HK := n1_; have HB := n2_; have HI0 := n3_; clear n0_ n1_ n2_ n3_; (try clear hb); (try clear hb2); (try clear hk); (try clear hi); (try clear ho0); obtain ⟨Ao39, co39, eo39⟩ := Kd.R_slice HO763.out; subst eo39) | ((with_reducible refine gate_callee (f := 27) rfl ?_); refine goesM_ (some 8) rfl rfl Tryd.func27 (by kernel_rfl) rfl #[.agg #[.string t760, .slice Ao39 t761.length co39]] rfl ?_; (with_reducible refine (spec_Encode.calls k t760 _ _ t761 t766 t769 _ ?side1 ?side2 A3.out).mono ?_); (case side1 => repeat (first | exact (Kd.R_reads' HO763.out).2.2 | (with_reducible refine Kd.C_alloc ?_ _) | (with_reducible refine Kd.C_drewN ?_ _) | (with_reducible refine Kd.C_drew ?_))); (case side2 => exact (Kd.R_reads' HO763.out).2.1); rintro e w40 ⟨v767, rfl, ho0, hb⟩; refine ⟨_, rfl, ?_⟩; have n0_ := Aside0.mk (Kd.R_below (rA HO763.out) hb); have n1_ := Aside0.mk (Kd.R_lower ho0 (keep_size (w := w) (g := g) (row := none) (by repeat (first | (with_reducible first | exact HK.out | apply KeepBut.set_ | apply keep_drewN | apply keep_drew | apply keep_alloc) | exact HK.out)))); have n2_ := Aside0.mk (IsS71.below (by repeat (first | (with_reducible first | exact HI0.out | apply IsS71.alloc | apply IsS71.drewN | apply IsS71.drew | apply IsS71.set_1 | apply IsS71.set_2) | exact HI0.out)) hb); have n3_ := Aside0.mk (KeepBut.trans (by repeat (first | (with_reducible first | exact HK.out | apply KeepBut.set_ | apply keep_drewN | apply keep_drew | apply keep_alloc) | exact HK.out)) (KeepBut.of_below hb g none) (.inl rfl)); have n4_ := Aside0.mk (below_step (by repeat (first | (with_reducible first | exact HB.out | apply below_alloc | apply pw_below_drewN | apply below_drew1 | refine below_set ?_ (IsS71.ge HI0.out)) | exact HB.out)) hb); clear HO763; clear HI0; clear HK; clear HB; have HO763 := n0_; have HO768 := n1_; have HI0 := n2_; have HK := n3_; have HB := n4_; clear n0_ n1_ n2_ n3_ n4_; (try clear hb); (try clear hb2); (try clear hk); (try clear hi); (try clear ho0)) | ((with_reducible refine gate_callee (f := 43) rfl ?_); refine goesM_ (some 12) rfl rfl Tryd.func43 (by kernel_rfl) rfl #[.pointer (some ⟨g, 0, none⟩), .int .i64 8] rfl ?_; (with_reducible refine (spec_l01Below.calls g s0_0 t764 t765 8 t770 t771 t772 w0 _ ?side1 ?side2 A4.out).mono ?_); (case side1 => repeat (first | (with_reducible first | exact HI0.out | apply IsS71.alloc | apply IsS71.drewN | apply IsS71.drew | apply IsS71.set_1 | apply IsS71.set_2) | exact HI0.out)); (case side2 => repeat (first | (with_reducible first | exact HB.out | apply below_alloc | apply pw_below_drewN | apply below_drew1 | refine below_set ?_ (IsS71.ge HI0.out)) | exact HB.out)); rintro e w41 ⟨rfl, hi, hb, hk⟩; refine ⟨_, rfl, ?_⟩; have n0_ := Aside0.mk (Kd.R_mono (Kd.R_keep (IsS71.apart (show IsS71 w0 _ g s0_0 t764 t765 from by repeat (first | (with_reducible first | exact HI0.out | apply IsS71.alloc | apply IsS71.drewN | apply IsS71.drew | apply IsS71.set_1 | apply IsS71.set_2) | exact HI0.out)) (rA HO763.out) (by decide)) hk (fun _ h => h.2)) (fun _ h => h.1)); have n1_ := Aside0.mk (Kd.R_mono (Kd.R_keep (IsS71.apart (show IsS71 w0 _ g s0_0 t764 t765 from by repeat (first | (with_reducible first | exact HI0.out | apply IsS71.alloc | apply IsS71.drewN | apply IsS71.drew | apply IsS71.set_1 | apply IsS71.set_2) | exact HI0.out)) (rA HO768.out) (by decide)) hk (fun _ h => h.2)) (fun _ h => h.1)); have n2_ := Aside0.mk (KeepBut.trans (by repeat (first | (with_reducible first | exact HK.out | apply KeepBut.set_ | apply keep_drewN | apply keep_drew | apply keep_alloc) | exact HK.out)) hk (.inl rfl)); have n3_ := Aside0.mk (hb); have n4_ := Aside0.mk (hi); clear HO763; clear HO768; clear HK; clear HB; clear HI0; have HO763 := n0_; have HO768 := n1_; have HK := n2_; have HB := n3_; have HI0 := n4_; clear n0_ n1_ n2_ n3_ n4_; (try clear hb); (try clear hb2); (try clear hk); (try clear hi)) | ((with_reducible refine gate_callee (f := 43) rfl ?_); refine goesM_ (some 37) rfl rfl Tryd.func43 (by kernel_rfl) rfl #[.pointer (some ⟨g, 0, none⟩), .int .i64 8] rfl ?_; (with_reducible refine (spec_l01Below.calls g s0_0 t771 t772 8 t786 t787 t788 w0 _ ?side1 ?side2 A32.out).mono ?_); (case side1 => repeat (first | (with_reducible first | exact HI0.out | apply IsS71.alloc | apply IsS71.drewN | apply IsS71.drew | apply IsS71.set_1 | apply IsS71.set_2) | exact HI0.out)); (case side2 => repeat (first | (with_reducible first | exact HB.out | apply below_alloc | apply pw_below_drewN | apply below_drew1 | refine below_set ?_ (IsS71.ge HI0.out)) | exact HB.out)); rintro e w42 ⟨rfl, hi, hb, hk⟩; refine ⟨_, rfl, ?_⟩; have n0_ := Aside0.mk (Kd.R_mono (Kd.R_keep (IsS71.apart (show IsS71 w0 _ g s0_0 t771 t772 from by repeat (first | (with_reducible first | exact HI0.out | apply IsS71.alloc | apply IsS71.drewN | apply IsS71.drew | apply IsS71.set_1 | apply IsS71.set_2) | exact HI0.out)) (rA HO763.out) (by decide)) hk (fun _ h => h.2)) (fun _ h => h.1)); have n1_ := Aside0.mk (Kd.R_mono (Kd.R_keep (IsS71.apart (show IsS71 w0 _ g s0_0 t771 t772 from by repeat (first | (with_reducible first | exact HI0.out | apply IsS71.alloc | apply IsS71.drewN | apply IsS71.drew | apply IsS71.set_1 | apply IsS71.set_2) | exact HI0.out)) (rA HO768.out) (by decide)) hk (fun _ h => h.2)) (fun _ h => h.1)); have n2_ := Aside0.mk (KeepBut.trans (by repeat (first | (with_reducible first | exact HK.out | apply KeepBut.set_ | apply keep_drewN | apply keep_drew | apply keep_alloc) | exact HK.out)) hk (.inl rfl)); have n3_ := Aside0.mk (hb); have n4_ := Aside0.mk (hi); clear HO763; clear HO768; clear HK; clear HB; clear HI0; have HO763 := n0_; have HO768 := n1_; have HK := n2_; have HB := n3_; have HI0 := n4_; clear n0_ n1_ n2_ n3_ n4_; (try clear hb); (try clear hb2); (try clear hk); (try clear hi)) | ((with_reducible refine gate_callee (f := 76) rfl ?_); refine goesM_ (some 40) rfl rfl Tryd.func76 (by kernel_rfl) rfl #[.pointer (some ⟨g, 0, none⟩)] rfl ?_; (with_reducible refine (spec_l01Byte.calls g s0_0 t787 t788 t789 t790 t791 w0 _ ?side1 ?side2 A33.out).mono ?_); (case side1 => repeat (first | (with_reducible first | exact HI0.out | apply IsS71.alloc | apply IsS71.drewN | apply IsS71.drew | apply IsS71.set_1 | apply IsS71.set_2) | exact HI0.out)); (case side2 => repeat (first | (with_reducible first | exact HB.out | apply below_alloc | apply pw_below_drewN | apply below_drew1 | refine below_set ?_ (IsS71.ge HI0.out)) | exact HB.out)); rintro e w43 ⟨rfl, hi, hb, hk⟩; refine ⟨_, rfl, ?_⟩; have n0_ := Aside0.mk (Kd.R_mono (Kd.R_keep (IsS71.apart (show IsS71 w0 _ g s0_0 t787 t788 from by repeat (first | (with_reducible first | exact HI0.out | apply IsS71.alloc | apply IsS71.drewN | apply IsS71.drew | apply IsS71.set_1 | apply IsS71.set_2) | exact HI0.out)) (rA HO763.out) (by decide)) hk (fun _ h => h.2)) (fun _ h => h.1)); have n1_ := Aside0.mk (Kd.R_mono (Kd.R_keep (IsS71.apart (show IsS71 w0 _ g s0_0 t787 t788 from by repeat (first | (with_reducible first | exact HI0.out | apply IsS71.alloc | apply IsS71.drewN | apply IsS71.drew | apply IsS71.set_1 | apply IsS71.set_2) | exact HI0.out)) (rA HO768.out) (by decide)) hk (fun _ h => h.2)) (fun _ h => h.1)); have n2_ := Aside0.mk (KeepBut.trans (by repeat (first | (with_reducible first | exact HK.out | apply KeepBut.set_ | apply keep_drewN | apply keep_drew | apply keep_alloc) | exact HK.out)) hk (.inl rfl)); have n3_ := Aside0.mk (hb); have n4_ := Aside0.mk (hi); clear HO763; clear HO768; clear HK; clear HB; clear HI0; have HO763 := n0_; have HO768 := n1_; have HK := n2_; have HB := n3_; have HI0 := n4_; clear n0_ n1_ n2_ n3_ n4_; (try clear hb); (try clear hb2); (try clear hk); (try clear hi); have p37 : 0 ≤ ((ji34) : Int) := of_decide_eq_true (by first | (with_reducible assumption) | assumption); have q37 : ((ji34) : Int) < ((t766.length : Int) : Int) := of_decide_eq_true (by first | (with_reducible assumption) | assumption); obtain ⟨go37, co37, eo37, gb37, gl37, cl37, HG37⟩ := Kd.R_form HO768.out (by omega); (first | cases eo37 | (injection eo37 with ea_ en_ ec_; (first | subst ea_ | (injection ea_ with ea_; subst ea_)); subst ec_; clear en_)); have GB37 := Aside0.mk gb37; have GG37 := Aside0.mk HG37; clear gb37 gl37 HG37; obtain ⟨hx37_0, hf37_0⟩ := Kd.R_celln 0 HO768.out ((ji34) : Int) p37 q37; replace p37 := eq_true p37; replace q37 := eq_true q37; obtain ⟨hy44_, hz44_⟩ := Kd.R_celln 0 HO768.out ((ji34) : Int) (of_decide_eq_true (by first | (with_reducible assumption) | assumption)) (of_decide_eq_true (by first | (with_reducible assumption) | assumption)); have HP44 := Kd.R_putg HO768.out ((ji34) : Int) ((t789) % 256)) | ((with_reducible refine gate_store (t := 5) (p := 42) rfl ?_); refine store_event (t := 5) (p := 42) (v := ?vo_w45) (w1 := (w43.setCell ⟨go37, ((ji34) : Int).toNat, none⟩ (.int .u8 ((t789) % 256)))) ?hg ?ho ?hn ?hr ?_; (case ho => rfl); (case hg => rfl); (case hn => rfl); (case hr => first | (go_simp; done) | (go_simp; rfl)); intro w45 hw; have hg : w43.grownBy w45 (some go37) := (by rw [hw]; exact HP44.2); have hp_ : Kd.R (Kd.int .u8) 5 w45 w.heap.size (fun _ => True) (.slice (some ⟨go37, 0, none⟩) t766.length co37) y792 := (by rw [hw, Ny792.out]; exact HP44.1); clear HP44; have n0_ := Aside0.mk (IsS71.grown (by repeat (first | (with_reducible first | exact HI0.out | apply IsS71.alloc | apply IsS71.drewN | apply IsS71.drew | apply IsS71.set_1 | apply IsS71.set_2) | exact HI0.out)) hg (IsS71.own_ne HI0.out HO768.out (by decide))); have n1_ := Aside0.mk (Kd.R_over' (v := (.slice (some ⟨go37, 0, none⟩) t766.length co37)) (rA HO763.out) (Kd.R_typed HO768.out) (by decide) hg); have n2_ := Aside0.mk (hp_); have n3_ := Aside0.mk ((by rw [hw]; exact below_set (HB.out) (Nat.le_trans HL.out GB37.out) : Below w0.heap.size w0 w45)); have n4_ := Aside0.mk (KeepBut.trans (by repeat (first | (with_reducible first | exact HK.out | apply KeepBut.set_ | apply keep_drewN | apply keep_drew | apply keep_alloc) | exact HK.out)) (KeepBut.of_grown hg g) (Kd.R_base2 HO768.out)); clear HI0; clear HO763; clear HO768; clear HB; clear HK; have HI0 := n0_; have HO763 := n1_; have HO768 := n2_; have HB := n3_; have HK := n4_; clear n0_ n1_ n2_ n3_ n4_; clear hg hw hp_))
      go_ret
      exact ⟨_, by first | rfl | (simp [errW_none, errW_some] <;> rfl) | (simp only [← hji34]; first | rfl | (simp [errW_none, errW_some] <;> rfl) | (simp [i64_w, IntKind.wrap_u8] <;> rfl)) | (simp [*, errW_none, errW_some] <;> rfl), rA HO768.out, by repeat (first | (with_reducible first | exact HI0.out | apply IsS71.alloc | apply IsS71.drewN | apply IsS71.drew | apply IsS71.set_1 | apply IsS71.set_2) | exact HI0.out), by repeat (first | (with_reducible first | exact HB.out | apply below_alloc | apply pw_below_drewN | apply below_drew1 | refine below_set ?_ (IsS71.ge HI0.out)) | exact HB.out), by repeat (first | (with_reducible first | exact HK.out | apply KeepBut.set_ | apply keep_drewN | apply keep_drew | apply keep_alloc) | exact HK.out)⟩
     ·rw [if_neg c36] at H
      exact absurd H (by simp)
    ·rw [if_neg c35] at H
     exact absurd H (by simp)
   ·rw [if_neg c31] at H
    have c31b0 : (t770 == 2) = false := beq_eq_false_iff_ne.mpr c31
    have c31b1 : (t770 != 2) = true := bne_iff_ne.mpr c31
    by_cases c46 : t770 = 3
    ·rw [if_pos c46] at H
     have c46b0 : (t770 == 3) = true := beq_iff_eq.mpr c46
     have c46b1 : (t770 != 3) = false := bne_eq_false_iff_eq.mpr c46
     clear c46
     replace H := Option.bind_eq_some_iff.mp H
     obtain ⟨⟨t793, t794, t795⟩, A470, H⟩ := H
     replace H : (if t766.length < 140737488355328 then (some ((t766 ++ [(t793) % 256]), t794, t795)) else (none)) = some (r1, r2, r3) := H
     have A47 := Aside0.mk A470
     clear A470
     by_cases c48 : t766.length < 140737488355328
     ·rw [if_pos c48] at H
      have LMc48 := Aside0.mk c48
      clear c48
      obtain ⟨y796, hy796⟩ : ∃ y_ : List Int, y_ = (t766 ++ [(t793) % 256]) := ⟨_, rfl⟩
      replace H : (some (y796, t794, t795)) = some (r1, r2, r3) := by first | (rw [hy796]; with_reducible exact H) | (have H2_ := (Option.bind_some _ _).symm.trans H; rw [hy796]; with_reducible exact H2_) | (have H2_ := (Option.bind_some _ _).symm.trans H; with_reducible exact H2_) | with_reducible exact H | (rw [hy796]; exact H) | exact H
      have Ny796 := Aside0.mk hy796
      clear hy796
      simp only [Option.some.injEq, Prod.mk.injEq] at H
      obtain ⟨rfl, rfl, rfl⟩ := H
      go_enter Tryd.func74, Tryd.ntmps74
      go_wp2_with (first | ((with_reducible refine gate_callee (f := 70) rfl ?_); refine goesM_ (some 7) rfl rfl Tryd.func70 (by kernel_rfl) rfl #[.pointer (some ⟨g, 0, none⟩)] rfl ?_; (with_reducible refine (spec_l04Draw.calls k g s0_0 s0_1 s0_2 t760 t761 t764 t765 w0 _ ?side1 ?side2 A2.out).mono ?_); (case side1 => repeat (first | (with_reducible first | exact HI0.out | apply IsS71.alloc | apply IsS71.drewN | apply IsS71.drew | apply IsS71.set_1 | apply IsS71.set_2) | exact HI0.out)); (case side2 => repeat (first | (with_reducible first | exact HB.out | apply below_alloc | apply pw_below_drewN | apply below_drew1 | refine below_set ?_ (IsS71.ge HI0.out)) | exact HB.out)); rintro e w49 ⟨v762, rfl, ho0, hi, hb, hk⟩; refine ⟨_, rfl, ?_⟩; have n0_ := Aside0.mk (Kd.R_lower ho0 (keep_size (w := w) (g := g) (row := none) (by repeat (first | (with_reducible first | exact HK.out | apply KeepBut.set_ | apply keep_drewN | apply keep_drew | apply keep_alloc) | exact HK.out)))); have n1_ := Aside0.mk (KeepBut.trans (by repeat (first | (with_reducible first | exact HK.out | apply KeepBut.set_ | apply keep_drewN | apply keep_drew | apply keep_alloc) | exact HK.out)) hk (.inl rfl)); have n2_ := Aside0.mk (hb); have n3_ := Aside0.mk (hi); clear HK; clear HB; clear HI0; have HO763 := n0_; have HK := n1_; have HB := n2_; have HI0 := n3_; clear n0_ n1_ n2_ n3_; (try clear hb); (try clear hb2); (try clear hk); (try clear hi); (try clear ho0); obtain ⟨Ao50, co50, eo50⟩ := Kd.R_slice HO763.out; subst eo50) | ((with_reducible refine gate_callee (f := 27) rfl ?_); refine goesM_ (some 8) rfl rfl Tryd.func27 (by kernel_rfl) rfl #[.agg #[.string t760, .slice Ao50 t761.length co50]] rfl ?_; (with_reducible refine (spec_Encode.calls k t760 _ _ t761 t766 t769 _ ?side1 ?side2 A3.out).mono ?_); (case side1 => repeat (first | exact (Kd.R_reads' HO763.out).2.2 | (with_reducible refine Kd.C_alloc ?_ _) | (with_reducible refine Kd.C_drewN ?_ _) | (with_reducible refine Kd.C_drew ?_))); (case side2 => exact (Kd.R_reads' HO763.out).2.1); rintro e w51 ⟨v767, rfl, ho0, hb⟩; refine ⟨_, rfl, ?_⟩; have n0_ := Aside0.mk (Kd.R_below (rA HO763.out) hb); have n1_ := Aside0.mk (Kd.R_lower ho0 (keep_size (w := w) (g := g) (row := none) (by repeat (first | (with_reducible first | exact HK.out | apply KeepBut.set_ | apply keep_drewN | apply keep_drew | apply keep_alloc) | exact HK.out)))); have n2_ := Aside0.mk (IsS71.below (by repeat (first | (with_reducible first | exact HI0.out | apply IsS71.alloc | apply IsS71.drewN | apply IsS71.drew | apply IsS71.set_1 | apply IsS71.set_2) | exact HI0.out)) hb); have n3_ := Aside0.mk (KeepBut.trans (by repeat (first | (with_reducible first | exact HK.out | apply KeepBut.set_ | apply keep_drewN | apply keep_drew | apply keep_alloc) | exact HK.out)) (KeepBut.of_below hb g none) (.inl rfl)); have n4_ := Aside0.mk (below_step (by repeat (first | (with_reducible first | exact HB.out | apply below_alloc | apply pw_below_drewN | apply below_drew1 | refine below_set ?_ (IsS71.ge HI0.out)) | exact HB.out)) hb); clear HO763; clear HI0; clear HK; clear HB; have HO763 := n0_; have HO768 := n1_; have HI0 := n2_; have HK := n3_; have HB := n4_; clear n0_ n1_ n2_ n3_ n4_; (try clear hb); (try clear hb2); (try clear hk); (try clear hi); (try clear ho0)) | ((with_reducible refine gate_callee (f := 43) rfl ?_); refine goesM_ (some 12) rfl rfl Tryd.func43 (by kernel_rfl) rfl #[.pointer (some ⟨g, 0, none⟩), .int .i64 8] rfl ?_; (with_reducible refine (spec_l01Below.calls g s0_0 t764 t765 8 t770 t771 t772 w0 _ ?side1 ?side2 A4.out).mono ?_); (case side1 => repeat (first | (with_reducible first | exact HI0.out | apply IsS71.alloc | apply IsS71.drewN | apply IsS71.drew | apply IsS71.set_1 | apply IsS71.set_2) | exact HI0.out)); (case side2 => repeat (first | (with_reducible first | exact HB.out | apply below_alloc | apply pw_below_drewN | apply below_drew1 | refine below_set ?_ (IsS71.ge HI0.out)) | exact HB.out)); rintro e w52 ⟨rfl, hi, hb, hk⟩; refine ⟨_, rfl, ?_⟩; have n0_ := Aside0.mk (Kd.R_mono (Kd.R_keep (IsS71.apart (show IsS71 w0 _ g s0_0 t764 t765 from by repeat (first | (with_reducible first | exact HI0.out | apply IsS71.alloc | apply IsS71.drewN | apply IsS71.drew | apply IsS71.set_1 | apply IsS71.set_2) | exact HI0.out)) (rA HO763.out) (by decide)) hk (fun _ h => h.2)) (fun _ h => h.1)); have n1_ := Aside0.mk (Kd.R_mono (Kd.R_keep (IsS71.apart (show IsS71 w0 _ g s0_0 t764 t765 from by repeat (first | (with_reducible first | exact HI0.out | apply IsS71.alloc | apply IsS71.drewN | apply IsS71.drew | apply IsS71.set_1 | apply IsS71.set_2) | exact HI0.out)) (rA HO768.out) (by decide)) hk (fun _ h => h.2)) (fun _ h => h.1)); have n2_ := Aside0.mk (KeepBut.trans (by repeat (first | (with_reducible first | exact HK.out | apply KeepBut.set_ | apply keep_drewN | apply keep_drew | apply keep_alloc) | exact HK.out)) hk (.inl rfl)); have n3_ := Aside0.mk (hb); have n4_ := Aside0.mk (hi); clear HO763; clear HO768; clear HK; clear HB; clear HI0; have HO763 := n0_; have HO768 := n1_; have HK := n2_; have HB := n3_; have HI0 := n4_; clear n0_ n1_ n2_ n3_ n4_; (try clear hb); (try clear hb2); (try clear hk); (try clear hi)) | ((with_reducible refine gate_callee (f := 76) rfl ?_); refine goesM_ (some 47) rfl rfl Tryd.func76 (by kernel_rfl) rfl #[.pointer (some ⟨g, 0, none⟩)] rfl ?_; (with_reducible refine (spec_l01Byte.calls g s0_0 t771 t772 t793 t794 t795 w0 _ ?side1 ?side2 A47.out).mono ?_); (case side1 => repeat (first | (with_reducible first | exact HI0.out | apply IsS71.alloc | apply IsS71.drewN | apply IsS71.drew | apply IsS71.set_1 | apply IsS71.set_2) | exact HI0.out)); (case side2 => repeat (first | (with_reducible first | exact HB.out | apply below_alloc | apply pw_below_drewN | apply below_drew1 | refine below_set ?_ (IsS71.ge HI0.out)) | exact HB.out)); rintro e w53 ⟨rfl, hi, hb, hk⟩; refine ⟨_, rfl, ?_⟩; have n0_ := Aside0.mk (Kd.R_mono (Kd.R_keep (IsS71.apart (show IsS71 w0 _ g s0_0 t771 t772 from by repeat (first | (with_reducible first | exact HI0.out | apply IsS71.alloc | apply IsS71.drewN | apply IsS71.drew | apply IsS71.set_1 | apply IsS71.set_2) | exact HI0.out)) (rA HO763.out) (by decide)) hk (fun _ h => h.2)) (fun _ h => h.1)); have n1_ := Aside0.mk (Kd.R_mono (Kd.R_keep (IsS71.apart (show IsS71 w0 _ g s0_0 t771 t772 from by repeat (first | (with_reducible first | exact HI0.out | apply IsS71.alloc | apply IsS71.drewN | apply IsS71.drew | apply IsS71.set_1 | apply IsS71.set_2) | exact HI0.out)) (rA HO768.out) (by decide)) hk (fun _ h => h.2)) (fun _ h => h.1)); have n2_ := Aside0.mk (KeepBut.trans (by repeat (first | (with_reducible first | exact HK.out | apply KeepBut.set_ | apply keep_drewN | apply keep_drew | apply keep_alloc) | exact HK.out)) hk (.inl rfl)); have n3_ := Aside0.mk (hb); have n4_ := Aside0.mk (hi); clear HO763; clear HO768; clear HK; clear HB; clear HI0; have HO763 := n0_; have HO768 := n1_; have HK := n2_; have HB := n3_; have HI0 := n4_; clear n0_ n1_ n2_ n3_ n4_; (try clear hb); (try clear hb2); (try clear hk); (try clear hi)) | ((with_reducible refine gate_builtin (b := .append) (xs := #[.tmp 45, .tmp 49]) rfl ?_); at_builtin; refine Kd.R_append (Kd.int .u8) w.heap.size rfl (.tmp 45) (.tmp 49) 22 5 (.int .u8 0) 1 rfl Tryd.underlying22 info5 rfl (by decide) (by omega) v767 t766 ((t793) % 256) [.int .u8 ((t793) % 256)] (fun _ => True) (fun _ => False) rfl rfl ?aP (fun _ hk => hk.elim) ?aF ?aO (Below.refl _ _) ?aS ?aL ?_; (case aP => exact rfl); (case aF => exact (fun _ _ => trivial)); (case aO => exact (rA HO768.out)); (case aS => exact (keep_size (w := w) (g := g) (row := none) (by repeat (first | (with_reducible first | exact HK.out | apply KeepBut.set_ | apply keep_drewN | apply keep_drew | apply keep_alloc) | exact HK.out)))); (case aL => have := LMc48.out; omega); intro v797 w54 ho hb hg hat; rw [← Ny796.out] at ho; have n0_ := Aside0.mk (IsS71.grown (by repeat (first | (with_reducible first | exact HI0.out | apply IsS71.alloc | apply IsS71.drewN | apply IsS71.drew | apply IsS71.set_1 | apply IsS71.set_2) | exact HI0.out)) hg (IsS71.own_ne HI0.out HO768.out (by decide))); have n1_ := Aside0.mk (Kd.R_over' (rA HO763.out) (Kd.R_typed (rA HO768.out)) (by decide) hg); have n2_ := Aside0.mk (below_weaken (by repeat (first | (with_reducible first | exact HB.out | apply below_alloc | apply pw_below_drewN | apply below_drew1 | refine below_set ?_ (IsS71.ge HI0.out)) | exact HB.out)) HL.out hb); have n3_ := Aside0.mk (KeepBut.trans (by repeat (first | (with_reducible first | exact HK.out | apply KeepBut.set_ | apply keep_drewN | apply keep_drew | apply keep_alloc) | exact HK.out)) (KeepBut.of_grown hg g) (Kd.R_base2 HO768.out)); have n4_ := Aside0.mk (ho); clear HI0; clear HO763; clear HB; clear HK; clear HO768; have HI0 := n0_; have HO763 := n1_; have HB := n2_; have HK := n3_; have HO798 := n4_; clear n0_ n1_ n2_ n3_ n4_; clear ho hb hg hat))
      go_ret
      exact ⟨_, by first | rfl | (simp [errW_none, errW_some] <;> rfl) | (simp [*, errW_none, errW_some] <;> rfl), rA HO798.out, by repeat (first | (with_reducible first | exact HI0.out | apply IsS71.alloc | apply IsS71.drewN | apply IsS71.drew | apply IsS71.set_1 | apply IsS71.set_2) | exact HI0.out), by repeat (first | (with_reducible first | exact HB.out | apply below_alloc | apply pw_below_drewN | apply below_drew1 | refine below_set ?_ (IsS71.ge HI0.out)) | exact HB.out), by repeat (first | (with_reducible first | exact HK.out | apply KeepBut.set_ | apply keep_drewN | apply keep_drew | apply keep_alloc) | exact HK.out)⟩
     ·rw [if_neg c48] at H
      exact absurd H (by simp)
    ·rw [if_neg c46] at H
     have c46b0 : (t770 == 3) = false := beq_eq_false_iff_ne.mpr c46
     have c46b1 : (t770 != 3) = true := bne_iff_ne.mpr c46
     simp only [Option.some.injEq, Prod.mk.injEq] at H
     obtain ⟨rfl, rfl, rfl⟩ := H
     go_enter Tryd.func74, Tryd.ntmps74
     go_wp2_with (first | ((with_reducible refine gate_callee (f := 70) rfl ?_); refine goesM_ (some 7) rfl rfl Tryd.func70 (by kernel_rfl) rfl #[.pointer (some ⟨g, 0, none⟩)] rfl ?_; (with_reducible refine (spec_l04Draw.calls k g s0_0 s0_1 s0_2 t760 t761 t764 t765 w0 _ ?side1 ?side2 A2.out).mono ?_); (case side1 => repeat (first | (with_reducible first | exact HI0.out | apply IsS71.alloc | apply IsS71.drewN | apply IsS71.drew | apply IsS71.set_1 | apply IsS71.set_2) | exact HI0.out)); (case side2 => repeat (first | (with_reducible first | exact HB.out | apply below_alloc | apply pw_below_drewN | apply below_drew1 | refine below_set ?_ (IsS71.ge HI0.out)) | exact HB.out)); rintro e w55 ⟨v762, rfl, ho0, hi, hb, hk⟩; refine ⟨_, rfl, ?_⟩; have n0_ := Aside0.mk (Kd.R_lower ho0 (keep_size (w := w) (g := g) (row := none) (by repeat (first | (with_reducible first | exact HK.out | apply KeepBut.set_ | apply keep_drewN | apply keep_drew | apply keep_alloc) | exact HK.out)))); have n1_ := Aside0.mk (KeepBut.trans (by repeat (first | (with_reducible first | exact HK.out | apply KeepBut.set_ | apply keep_drewN | apply keep_drew | apply keep_alloc) | exact HK.out)) hk (.inl rfl)); have n2_ := Aside0.mk (hb); have n3_ := Aside0.mk (hi); clear HK; clear HB; clear HI0; have HO763 := n0_; have HK := n1_; have HB := n2_; have HI0 := n3_; clear n0_ n1_ n2_ n3_; (try clear hb); (try clear hb2); (try clear hk); (try clear hi); (try clear ho0); obtain ⟨Ao56, co56, eo56⟩ := Kd.R_slice HO763.out; subst eo56) | ((with_reducible refine gate_callee (f := 27) rfl ?_); refine goesM_ (some 8) rfl rfl Tryd.func27 (by kernel_rfl) rfl #[.agg #[.string t760, .slice Ao56 t761.length co56]] rfl ?_; (with_reducible refine (spec_Encode.calls k t760 _ _ t761 t766 t769 _ ?side1 ?side2 A3.out).mono ?_); (case side1 => repeat (first | exact (Kd.R_reads' HO763.out).2.2 | (with_reducible refine Kd.C_alloc ?_ _) | (with_reducible refine Kd.C_drewN ?_ _) | (with_reducible refine Kd.C_drew ?_))); (case side2 => exact (Kd.R_reads' HO763.out).2.1); rintro e w57 ⟨v767, rfl, ho0, hb⟩; refine ⟨_, rfl, ?_⟩; have n0_ := Aside0.mk (Kd.R_below (rA HO763.out) hb); have n1_ := Aside0.mk (Kd.R_lower ho0 (keep_size (w := w) (g := g) (row := none) (by repeat (first | (with_reducible first | exact HK.out | apply KeepBut.set_ | apply keep_drewN | apply keep_drew | apply keep_alloc) | exact HK.out)))); have n2_ := Aside0.mk (IsS71.below (by repeat (first | (with_reducible first | exact HI0.out | apply IsS71.alloc | apply IsS71.drewN | apply IsS71.drew | apply IsS71.set_1 | apply IsS71.set_2) | exact HI0.out)) hb); have n3_ := Aside0.mk (KeepBut.trans (by repeat (first | (with_reducible first | exact HK.out | apply KeepBut.set_ | apply keep_drewN | apply keep_drew | apply keep_alloc) | exact HK.out)) (KeepBut.of_below hb g none) (.inl rfl)); have n4_ := Aside0.mk (below_step (by repeat (first | (with_reducible first | exact HB.out | apply below_alloc | apply pw_below_drewN | apply below_drew1 | refine below_set ?_ (IsS71.ge HI0.out)) | exact HB.out)) hb); clear HO763; clear HI0; clear HK; clear HB; have HO763 := n0_; have HO768 := n1_; have HI0 := n2_; have HK := n3_; have HB := n4_; clear n0_ n1_ n2_ n3_ n4_; (try clear hb); (try clear hb2); (try clear hk); (try clear hi); (try clear ho0)) | ((with_reducible refine gate_callee (f := 43) rfl ?_); refine goesM_ (some 12) rfl rfl Tryd.func43 (by kernel_rfl) rfl #[.pointer (some ⟨g, 0, none⟩), .int .i64 8] rfl ?_; (with_reducible refine (spec_l01Below.calls g s0_0 t764 t765 8 t770 t771 t772 w0 _ ?side1 ?side2 A4.out).mono ?_); (case side1 => repeat (first | (with_reducible first | exact HI0.out | apply IsS71.alloc | apply IsS71.drewN | apply IsS71.drew | apply IsS71.set_1 | apply IsS71.set_2) | exact HI0.out)); (case side2 => repeat (first | (with_reducible first | exact HB.out | apply below_alloc | apply pw_below_drewN | apply below_drew1 | refine below_set ?_ (IsS71.ge HI0.out)) | exact HB.out)); rintro e w58 ⟨rfl, hi, hb, hk⟩; refine ⟨_, rfl, ?_⟩; have n0_ := Aside0.mk (Kd.R_mono (Kd.R_keep (IsS71.apart (show IsS71 w0 _ g s0_0 t764 t765 from by repeat (first | (with_reducible first | exact HI0.out | apply IsS71.alloc | apply IsS71.drewN | apply IsS71.drew | apply IsS71.set_1 | apply IsS71.set_2) | exact HI0.out)) (rA HO763.out) (by decide)) hk (fun _ h => h.2)) (fun _ h => h.1)); have n1_ := Aside0.mk (Kd.R_mono (Kd.R_keep (IsS71.apart (show IsS71 w0 _ g s0_0 t764 t765 from by repeat (first | (with_reducible first | exact HI0.out | apply IsS71.alloc | apply IsS71.drewN | apply IsS71.drew | apply IsS71.set_1 | apply IsS71.set_2) | exact HI0.out)) (rA HO768.out) (by decide)) hk (fun _ h => h.2)) (fun _ h => h.1)); have n2_ := Aside0.mk (KeepBut.trans (by repeat (first | (with_reducible first | exact HK.out | apply KeepBut.set_ | apply keep_drewN | apply keep_drew | apply keep_alloc) | exact HK.out)) hk (.inl rfl)); have n3_ := Aside0.mk (hb); have n4_ := Aside0.mk (hi); clear HO763; clear HO768; clear HK; clear HB; clear HI0; have HO763 := n0_; have HO768 := n1_; have HK := n2_; have HB := n3_; have HI0 := n4_; clear n0_ n1_ n2_ n3_ n4_; (try clear hb); (try clear hb2); (try clear hk); (try clear hi)))
     go_ret
     exact ⟨_, by first | rfl | (simp [errW_none, errW_some] <;> rfl) | (simp [*, errW_none, errW_some] <;> rfl), rA HO768.out, by repeat (first | (with_reducible first | exact HI0.out | apply IsS71.alloc | apply IsS71.drewN | apply IsS71.drew | apply IsS71.set_1 | apply IsS71.set_2) | exact HI0.out), by repeat (first | (with_reducible first | exact HB.out | apply below_alloc | apply pw_below_drewN | apply below_drew1 | refine below_set ?_ (IsS71.ge HI0.out)) | exact HB.out), by repeat (first | (with_reducible first | exact HK.out | apply KeepBut.set_ | apply keep_drewN | apply keep_drew | apply keep_alloc) | exact HK.out)⟩
attribute [local go_sem] max2_int min2_int max_two min_two max_three min_three max_four min_four
set_option linter.unusedVariables false
set_option linter.unusedSimpArgs false
def spec_MakeBytes.f (k : Nat) (l0 : List Int) : Option (List Int) := (spec_l01New.f k l0).bind fun bt799 => ((spec_l01Once.f bt799.1 bt799.2.1 bt799.2.2 4).bind fun bt803 => (if bt803.1 = true then ((spec_l01Bytes.f k bt799.1 bt803.2.1 bt803.2.2 30).bind fun bt806 => (some bt806.1)) else ((spec_l04Bytes.f k bt799.1 bt803.2.1 bt803.2.2).bind fun bt811 => (some bt811.1))))
set_option maxHeartbeats 8000000 in
set_option maxRecDepth 100000 in
theorem spec_MakeBytes.calls (k : Nat) (A0 : Option Addr) (c0 : Nat) (l0 : List Int) (r : List Int) (w : World) (hr0 : Kd.C (Kd.int .u8) w A0 l0.length l0) (hc0 : l0.length ≤ c0) (h : spec_MakeBytes.f k l0 = some r) :
  Calls Tryd.prog 40 #[.slice A0 l0.length c0] w fun e w' => ∃ v0_ : Value, e = .returned (v0_) ∧ Kd.R (Kd.int .u8) 5 w' w.heap.size (fun _ => True) v0_ r ∧ Below w.heap.size w w' := by
 have HR0 := Aside0.mk hr0
 have HC0 := Aside0.mk hc0
 clear hr0 hc0
 have HB := Aside0.mk (Below.refl w.heap.size w)
 have H : ((spec_l01New.f k l0).bind fun bt799 => ((spec_l01Once.f bt799.1 bt799.2.1 bt799.2.2 4).bind fun bt803 => (if bt803.1 = true then ((spec_l01Bytes.f k bt799.1 bt803.2.1 bt803.2.2 30).bind fun bt806 => (some bt806.1)) else ((spec_l04Bytes.f k bt799.1 bt803.2.1 bt803.2.2).bind fun bt811 => (some bt811.1))))) = some r := h
 clear h
 replace H := Option.bind_eq_some_iff.mp H
 obtain ⟨⟨t799, t800, t801⟩, A20, H⟩ := H
 replace H : ((spec_l01Once.f t799 t800 t801 4).bind fun bt803 => (if bt803.1 = true then ((spec_l01Bytes.f k t799 bt803.2.1 bt803.2.2 30).bind fun bt806 => (some bt806.1)) else ((spec_l04Bytes.f k t799 bt803.2.1 bt803.2.2).bind fun bt811 => (some bt811.1)))) = some r := H
 have A2 := Aside0.mk A20
 clear A20
 replace H := Option.bind_eq_some_iff.mp H
 obtain ⟨⟨t803, t804, t805⟩, A30, H⟩ := H
 replace H : (if t803 = true then ((spec_l01Bytes.f k t799 t804 t805 30).bind fun bt806 => (some bt806.1)) else ((spec_l04Bytes.f k t799 t804 t805).bind fun bt811 => (some bt811.1))) = some r := H
 have A3 := Aside0.mk A30
 clear A30
 by_cases c4 : t803 = true
 ·subst c4
  have H1 : ((spec_l01Bytes.f k t799 t804 t805 30).bind fun bt806 => (some bt806.1)) = some r := by rw [if_pos rfl] at H; exact H
  clear H
  have H := H1
  clear H1
  replace H := Option.bind_eq_some_iff.mp H
  obtain ⟨⟨t806, t809, t810⟩, A50, H⟩ := H
  replace H : (some t806) = some r := H
  have A5 := Aside0.mk A50
  clear A50
  obtain rfl := Option.some.inj H
  go_enter Tryd.func40, Tryd.ntmps40
  go_wp2_with (first | ((with_reducible refine gate_callee (f := 42) rfl ?_); refine goesM_ (some 5) rfl rfl Tryd.func42 (by kernel_rfl) rfl #[.slice A0 l0.length c0] rfl ?_; (with_reducible refine (spec_l01New.calls k _ _ l0 t799 t800 t801 w _ ?side1 ?side2 ?side3 A2.out).mono ?_); (case side1 => repeat (first | (with_reducible first | exact HB.out | apply below_alloc | apply pw_below_drewN | apply below_drew1) | exact HB.out)); (case side2 => exact HR0.out); (case side3 => exact HC0.out); rintro e w6 ⟨g802, rfl, hi, hb, hb2⟩; refine ⟨_, rfl, ?_⟩; have n0_ := Aside0.mk (hb); have n1_ := Aside0.mk (hi); clear HB; have HB := n0_; have HI802 := n1_; clear n0_ n1_; (try clear hb); (try clear hb2); (try clear hk); (try clear hi)) | ((with_reducible refine gate_callee (f := 72) rfl ?_); refine goesM_ (some 7) rfl rfl Tryd.func72 (by kernel_rfl) rfl #[.pointer (some ⟨g802, 0, none⟩), .int .i64 4] rfl ?_; (with_reducible refine (spec_l01Once.calls g802 t799 t800 t801 4 true t804 t805 w _ ?side1 ?side2 A3.out).mono ?_); (case side1 => repeat (first | (with_reducible first | exact HI802.out | apply IsS71.alloc | apply IsS71.drewN | apply IsS71.drew | apply IsS71.set_1 | apply IsS71.set_2) | exact HI802.out)); (case side2 => repeat (first | (with_reducible first | exact HB.out | apply below_alloc | apply pw_below_drewN | apply below_drew1 | refine below_set ?_ (IsS71.ge HI802.out)) | exact HB.out)); rintro e w7 ⟨rfl, hi, hb, hk⟩; refine ⟨_, rfl, ?_⟩; have n0_ := Aside0.mk (hb); have n1_ := Aside0.mk (hi); clear HB; clear HI802; have HB := n0_; have HI802 := n1_; clear n0_ n1_; (try clear hb); (try clear hb2); (try clear hk); (try clear hi)) | ((with_reducible refine gate_callee (f := 73) rfl ?_); refine goesM_ (some 9) rfl rfl Tryd.func73 (by kernel_rfl) rfl #[.pointer (some ⟨g802, 0, none⟩), .int .i64 30] rfl ?_; (with_reducible refine (spec_l01Bytes.calls k g802 t799 t804 t805 30 t806 t809 t810 w _ ?side1 ?side2 A5.out).mono ?_); (case side1 => repeat (first | (with_reducible first | exact HI802.out | apply IsS71.alloc | apply IsS71.drewN | apply IsS71.drew | apply IsS71.set_1 | apply IsS71.set_2) | exact HI802.out)); (case side2 => repeat (first | (with_reducible first | exact HB.out | apply below_alloc | apply pw_below_drewN | apply below_drew1 | refine below_set ?_ (IsS71.ge HI802.out)) | exact HB.out)); rintro e w8 ⟨v807, rfl, ho0, hi, hb, hk⟩; refine ⟨_, rfl, ?_⟩; have n0_ := Aside0.mk (Kd.R_lower ho0 (below_size (by repeat (first | (with_reducible first | exact HB.out | apply below_alloc | apply pw_below_drewN | apply below_drew1 | refine below_set ?_ (IsS71.ge HI802.out)) | exact HB.out)))); have n1_ := Aside0.mk (hb); have n2_ := Aside0.mk (hi); clear HB; clear HI802; have HO808 := n0_; have HB := n1_; have HI802 := n2_; clear n0_ n1_ n2_; (try clear hb); (try clear hb2); (try clear hk); (try clear hi); (try clear ho0)))
  go_ret
  exact ⟨_, by first | rfl | (simp [errW_none, errW_some] <;> rfl) | (simp [*, errW_none, errW_some] <;> rfl), rA HO808.out, by repeat (first | (with_reducible first | exact HB.out | apply below_alloc | apply pw_below_drewN | apply below_drew1 | refine below_set ?_ (IsS71.ge HI802.out)) | exact HB.out)⟩
 ·replace c4 := Bool.eq_false_iff.mpr c4
  subst c4
  have H1 : ((spec_l04Bytes.f k t799 t804 t805).bind fun bt811 => (some bt811.1)) = some r := by rw [if_neg (show ¬ (false = true) by decide)] at H; exact H
  clear H
  have H := H1
  clear H1
  replace H := Option.bind_eq_some_iff.mp H
  obtain ⟨⟨t811, t814, t815⟩, A90, H⟩ := H
  replace H : (some t811) = some r := H
  have A9 := Aside0.mk A90
  clear A90
  obtain rfl := Option.some.inj H
  go_enter Tryd.func40, Tryd.ntmps40
  go_wp2_with (first | ((with_reducible refine gate_callee (f := 42) rfl ?_); refine goesM_ (some 5) rfl rfl Tryd.func42 (by kernel_rfl) rfl #[.slice A0 l0.length c0] rfl ?_; (with_reducible refine (spec_l01New.calls k _ _ l0 t799 t800 t801 w _ ?side1 ?side2 ?side3 A2.out).mono ?_); (case side1 => repeat (first | (with_reducible first | exact HB.out | apply below_alloc | apply pw_below_drewN | apply below_drew1) | exact HB.out)); (case side2 => exact HR0.out); (case side3 => exact HC0.out); rintro e w10 ⟨g802, rfl, hi, hb, hb2⟩; refine ⟨_, rfl, ?_⟩; have n0_ := Aside0.mk (hb); have n1_ := Aside0.mk (hi); clear HB; have HB := n0_; have HI802 := n1_; clear n0_ n1_; (try clear hb); (try clear hb2); (try clear hk); (try clear hi)) | ((with_reducible refine gate_callee (f := 72) rfl ?_); refine goesM_ (some 7) rfl rfl Tryd.func72 (by kernel_rfl) rfl #[.pointer (some ⟨g802, 0, none⟩), .int .i64 4] rfl ?_; (with_reducible refine (spec_l01Once.calls g802 t799 t800 t801 4 false t804 t805 w _ ?side1 ?side2 A3.out).mono ?_); (case side1 => repeat (first | (with_reducible first | exact HI802.out | apply IsS71.alloc | apply IsS71.drewN | apply IsS71.drew | apply IsS71.set_1 | apply IsS71.set_2) | exact HI802.out)); (case side2 => repeat (first | (with_reducible first | exact HB.out | apply below_alloc | apply pw_below_drewN | apply below_drew1 | refine below_set ?_ (IsS71.ge HI802.out)) | exact HB.out)); rintro e w11 ⟨rfl, hi, hb, hk⟩; refine ⟨_, rfl, ?_⟩; have n0_ := Aside0.mk (hb); have n1_ := Aside0.mk (hi); clear HB; clear HI802; have HB := n0_; have HI802 := n1_; clear n0_ n1_; (try clear hb); (try clear hb2); (try clear hk); (try clear hi)) | ((with_reducible refine gate_callee (f := 74) rfl ?_); refine goesM_ (some 11) rfl rfl Tryd.func74 (by kernel_rfl) rfl #[.pointer (some ⟨g802, 0, none⟩)] rfl ?_; (with_reducible refine (spec_l04Bytes.calls k g802 t799 t804 t805 t811 t814 t815 w _ ?side1 ?side2 A9.out).mono ?_); (case side1 => repeat (first | (with_reducible first | exact HI802.out | apply IsS71.alloc | apply IsS71.drewN | apply IsS71.drew | apply IsS71.set_1 | apply IsS71.set_2) | exact HI802.out)); (case side2 => repeat (first | (with_reducible first | exact HB.out | apply below_alloc | apply pw_below_drewN | apply below_drew1 | refine below_set ?_ (IsS71.ge HI802.out)) | exact HB.out)); rintro e w12 ⟨v812, rfl, ho0, hi, hb, hk⟩; refine ⟨_, rfl, ?_⟩; have n0_ := Aside0.mk (Kd.R_lower ho0 (below_size (by repeat (first | (with_reducible first | exact HB.out | apply below_alloc | apply pw_below_drewN | apply below_drew1 | refine below_set ?_ (IsS71.ge HI802.out)) | exact HB.out)))); have n1_ := Aside0.mk (hb); have n2_ := Aside0.mk (hi); clear HB; clear HI802; have HO813 := n0_; have HB := n1_; have HI802 := n2_; clear n0_ n1_ n2_; (try clear hb); (try clear hb2); (try clear hk); (try clear hi); (try clear ho0)))
  go_ret
  exact ⟨_, by first | rfl | (simp [errW_none, errW_some] <;> rfl) | (simp [*, errW_none, errW_some] <;> rfl), rA HO813.out, by repeat (first | (with_reducible first | exact HB.out | apply below_alloc | apply pw_below_drewN | apply below_drew1 | refine below_set ?_ (IsS71.ge HI802.out)) | exact HB.out)⟩
attribute [local go_sem] max2_int min2_int max_two min_two max_three min_three max_four min_four
set_option linter.unusedVariables false
set_option linter.unusedSimpArgs false
def laws_FnBytes.f (k : Nat) (l0 : List Int) : Option (Bool) := if (l0.length : Int) > 1048576 then (some true) else ((spec_MakeBytes.f k l0).bind fun t816 => ((impl_Parse.f k t816).bind fun bt819 => (if bt819.2.2 = 0 then ((impl_Encode.f k bt819.1 bt819.2.1).bind fun bt825 => (if bt825.2 = true then (if (strOfNums bt825.1).toList = (strOfNums t816).toList then ((impl_MsgOk.f k bt819.1 bt819.2.1).bind fun t829 => (some t829)) else (some false)) else (some false))) else (if bt819.2.2 ≥ 1 then (if bt819.2.2 ≤ 4 then (if (bt819.2.1.length : Int) = 0 then (some (bt819.1.toList == ([] : List UInt8))) else (some false)) else (some false)) else (some false)))))
set_option maxHeartbeats 8000000 in
set_option maxRecDepth 100000 in
theorem laws_FnBytes.calls (k : Nat) (A0 : Option Addr) (c0 : Nat) (l0 : List Int) (r : Bool) (w : World) (hr0 : Kd.C (Kd.int .u8) w A0 l0.length l0) (hc0 : l0.length ≤ c0) (hG : GLW w) (hr_ : r = true) (h : laws_FnBytes.f k l0 = some r) :
  Calls Tryd.prog 8 #[.slice A0 l0.length c0] w fun e w' => e = .returned (.bool r) ∧ Below w.heap.size w w' := by
 have hu49 := Tryd.underlying49
 have HR0 := Aside0.mk hr0
 have HC0 := Aside0.mk hc0
 clear hr0 hc0
 have HB := Aside0.mk (Below.refl w.heap.size w)
 have HG := Aside0.mk hG
 clear hG
 have H : (if (l0.length : Int) > 1048576 then (some true) else ((spec_MakeBytes.f k l0).bind fun t816 => ((impl_Parse.f k t816).bind fun bt819 => (if bt819.2.2 = 0 then ((impl_Encode.f k bt819.1 bt819.2.1).bind fun bt825 => (if bt825.2 = true then (if (strOfNums bt825.1).toList = (strOfNums t816).toList then ((impl_MsgOk.f k bt819.1 bt819.2.1).bind fun t829 => (some t829)) else (some false)) else (some false))) else (if bt819.2.2 ≥ 1 then (if bt819.2.2 ≤ 4 then (if (bt819.2.1.length : Int) = 0 then (some (bt819.1.toList == ([] : List UInt8))) else (some false)) else (some false)) else (some false)))))) = some r := h
 clear h
 by_cases c2 : (l0.length : Int) > 1048576
 ·rw [if_pos c2] at H
  have c2b0 : decide (1048576 < (l0.length : Int)) = true := decide_eq_true c2
  have c2b1 : decide (1048576 < l0.length) = true := decide_eq_true (by omega)
  clear c2
  obtain rfl := Option.some.inj H
  go_enter Tryd.func8, Tryd.ntmps8
  go_wp2
  go_ret
  exact ⟨by first | rfl | (simp [errW_none, errW_some] <;> rfl) | (simp [*, errW_none, errW_some] <;> rfl), bB⟩
 ·rw [if_neg c2] at H
  have c2b0 : decide (1048576 < (l0.length : Int)) = false := decide_eq_false c2
  have c2b1 : decide (1048576 < l0.length) = false := decide_eq_false (by omega)
  clear c2
  replace H := Option.bind_eq_some_iff.mp H
  obtain ⟨t816, A30, H⟩ := H
  replace H : ((impl_Parse.f k t816).bind fun bt819 => (if bt819.2.2 = 0 then ((impl_Encode.f k bt819.1 bt819.2.1).bind fun bt825 => (if bt825.2 = true then (if (strOfNums bt825.1).toList = (strOfNums t816).toList then ((impl_MsgOk.f k bt819.1 bt819.2.1).bind fun t829 => (some t829)) else (some false)) else (some false))) else (if bt819.2.2 ≥ 1 then (if bt819.2.2 ≤ 4 then (if (bt819.2.1.length : Int) = 0 then (some (bt819.1.toList == ([] : List UInt8))) else (some false)) else (some false)) else (some false)))) = some r := H
  have A3 := Aside0.mk A30
  clear A30
  replace H := Option.bind_eq_some_iff.mp H
  obtain ⟨⟨t819, t820, t823⟩, A40, H⟩ := H
  replace H : (if t823 = 0 then ((impl_Encode.f k t819 t820).bind fun bt825 => (if bt825.2 = true then (if (strOfNums bt825.1).toList = (strOfNums t816).toList then ((impl_MsgOk.f k t819 t820).bind fun t829 => (some t829)) else (some false)) else (some false))) else (if t823 ≥ 1 then (if t823 ≤ 4 then (if (t820.length : Int) = 0 then (some (t819.toList == ([] : List UInt8))) else (some false)) else (some false)) else (some false))) = some r := H
  have A4 := Aside0.mk A40
  clear A40
  by_cases c5 : t823 = 0
  ·rw [if_pos c5] at H
   have c5b0 : (t823 == 0) = true := beq_iff_eq.mpr c5
   have c5b1 : (t823 != 0) = false := bne_eq_false_iff_eq.mpr c5
   clear c5
   replace H := Option.bind_eq_some_iff.mp H
   obtain ⟨⟨t825, t828⟩, A60, H⟩ := H
   replace H : (if t828 = true then (if (strOfNums t825).toList = (strOfNums t816).toList then ((impl_MsgOk.f k t819 t820).bind fun t829 => (some t829)) else (some false)) else (some false)) = some r := H
   have A6 := Aside0.mk A60
   clear A60
   by_cases c7 : t828 = true
   ·subst c7
    have H1 : (if (strOfNums t825).toList = (strOfNums t816).toList then ((impl_MsgOk.f k t819 t820).bind fun t829 => (some t829)) else (some false)) = some r := by rw [if_pos rfl] at H; exact H
    clear H
    have H := H1
    clear H1
    by_cases c8 : (strOfNums t825).toList = (strOfNums t816).toList
    ·rw [if_pos c8] at H
     have c8b0 : ((strOfNums t825).toList == (strOfNums t816).toList) = true := beq_iff_eq.mpr c8
     have c8b1 : ((strOfNums t825).toList != (strOfNums t816).toList) = false := bne_eq_false_iff_eq.mpr c8
     clear c8
     replace H := Option.bind_eq_some_iff.mp H
     obtain ⟨t829, A90, H⟩ := H
     replace H : (some t829) = some r := H
     have A9 := Aside0.mk A90
     clear A90
     obtain rfl := Option.some.inj H
     go_enter Tryd.func8, Tryd.ntmps8
     go_wp2_with (first | ((with_reducible refine gate_callee (f := 40) rfl ?_); refine goesM_ (some 12) rfl rfl Tryd.func40 (by kernel_rfl) rfl #[.slice A0 l0.length c0] rfl ?_; (with_reducible refine (spec_MakeBytes.calls k _ _ l0 t816 _ ?side1 ?side2 A3.out).mono ?_); (case side1 => repeat (first | exact HR0.out | (with_reducible refine Kd.C_alloc ?_ _) | (with_reducible refine Kd.C_drewN ?_ _) | (with_reducible refine Kd.C_drew ?_))); (case side2 => exact HC0.out); rintro e w10 ⟨v817, rfl, ho0, hb⟩; refine ⟨_, rfl, ?_⟩; have n0_ := Aside0.mk (Kd.R_lower ho0 (below_size bB)); have n1_ := Aside0.mk (below_step bB hb); clear HB; have HO818 := n0_; have HB := n1_; clear n0_ n1_; (try clear hb); (try clear hb2); (try clear hk); (try clear hi); (try clear ho0); obtain ⟨Ao11, co11, eo11⟩ := Kd.R_slice HO818.out; subst eo11) | ((with_reducible refine gate_callee (f := 38) rfl ?_); refine goesM_ (some 15) rfl rfl Tryd.func38 (by kernel_rfl) rfl #[.slice Ao11 t816.length co11] rfl ?_; (with_reducible refine (impl_Parse.calls k _ _ t816 t819 t820 t823 _ ?side1 ?side2 ?side3 A4.out).mono ?_); (case side1 => repeat (first | exact (Kd.R_reads' HO818.out).2.2 | (with_reducible refine Kd.C_alloc ?_ _) | (with_reducible refine Kd.C_drewN ?_ _) | (with_reducible refine Kd.C_drew ?_))); (case side2 => exact (Kd.R_reads' HO818.out).2.1); (case side3 => exact GLW_below HG.out bB); rintro e w12 ⟨v821, rfl, ho0, hb⟩; refine ⟨_, rfl, ?_⟩; have n0_ := Aside0.mk (Kd.R_below (rA HO818.out) hb); have n1_ := Aside0.mk (Kd.R_lower ho0 (below_size bB)); have n2_ := Aside0.mk (below_step bB hb); clear HO818; clear HB; have HO818 := n0_; have HO822 := n1_; have HB := n2_; clear n0_ n1_ n2_; (try clear hb); (try clear hb2); (try clear hk); (try clear hi); (try clear ho0)) | ((with_reducible refine gate_dst (N := 4) rfl ?_); (try (refine gate_guard (by rfl) ?_; dsimp only)); refine box_event ?hg (N := 4) ?hd (cs := #[.string (⟨#[]⟩ : ByteArray), .slice none 0 0]) (t := 49) ?hr ?_; (case hd => rfl); (case hg => rfl); (case hr => first | (go_simp; done) | (go_simp; rfl)); intro gb824 hg w13 hbox hb; have n0_ := Aside0.mk (Kd.R_below (rA HO818.out) hb); have n1_ := Aside0.mk (Kd.R_below (rA HO822.out) hb); have n2_ := Aside0.mk (below_step bB hb); have n3_ := Aside0.mk (hbox); have n4_ := Aside0.mk ((by rw [hg]; exact (below_size bB) : w.heap.size ≤ gb824)); have n5_ := Aside0.mk ((by rw [hg]; exact (below_size bB) : w.heap.size ≤ gb824)); clear HO818; clear HO822; clear HB; have HO818 := n0_; have HO822 := n1_; have HB := n2_; have BK824 := n3_; have GW824 := n4_; have GE824 := n5_; clear n0_ n1_ n2_ n3_ n4_ n5_; clear hb hbox hg; have hcz14_0 : w13.cell? ⟨gb824, 0, none⟩ = some (.string (⟨#[]⟩ : ByteArray)) := (blk_cell BK824.out 0).trans rfl; have hcz14_1 : w13.cell? ⟨gb824, 1, none⟩ = some (.slice none 0 0) := (blk_cell BK824.out 1).trans rfl; have hfz14_0 := blk_frozen BK824.out 0; have hfz14_1 := blk_frozen BK824.out 1; obtain ⟨Ao15, co15, eo15⟩ := Kd.R_slice HO822.out; subst eo15) | ((with_reducible refine gate_callee (f := 29) rfl ?_); refine goesM_ (some 39) rfl rfl Tryd.func29 (by kernel_rfl) rfl #[.agg #[.string t819, .slice Ao15 t820.length co15]] rfl ?_; (with_reducible refine (impl_Encode.calls k t819 _ _ t820 t825 true _ ?side1 ?side2 ?side3 A6.out).mono ?_); (case side1 => refine (Kd.R_reads' (e := 79) (base := w.heap.size) (ok := fun k_ => True) (n := t820.length) (c := co15) ?_).2.2; exact (by (with_reducible repeat (first | apply Kd.R_alloc | apply Kd.R_drewN | apply Kd.R_drew)); exact (Kd.R_mono (Kd.R_far (p := ⟨gb824, 1, none⟩) (Kd.R_far (p := ⟨gb824, 0, none⟩) (Kd.R_types HO822.out BK824.out (by decide)) (fun _ hk => hk.2) (.string t819)) (fun _ hk => hk.2) (.slice Ao15 t820.length co15)) (fun _ h_ => h_.1)))); (case side2 => exact (Kd.R_reads' HO822.out).2.1); (case side3 => exact GLW_below HG.out bG); rintro e w16 ⟨v826, rfl, ho0, hb⟩; refine ⟨_, rfl, ?_⟩; have n0_ := Aside0.mk (Kd.R_elder' (by (with_reducible repeat (first | apply Kd.R_alloc | apply Kd.R_drewN | apply Kd.R_drew)); exact (Kd.R_mono (Kd.R_far (p := ⟨gb824, 1, none⟩) (Kd.R_far (p := ⟨gb824, 0, none⟩) (Kd.R_types HO818.out BK824.out (by decide)) (fun _ hk => hk.2) (.string t819)) (fun _ hk => hk.2) (.slice Ao15 t820.length co15)) (fun _ h_ => h_.1))) (Kd.R_base ho0) hb); have n1_ := Aside0.mk (Kd.R_below (by (with_reducible repeat (first | apply Kd.R_alloc | apply Kd.R_drewN | apply Kd.R_drew)); exact (Kd.R_mono (Kd.R_far (p := ⟨gb824, 1, none⟩) (Kd.R_far (p := ⟨gb824, 0, none⟩) (Kd.R_types HO822.out BK824.out (by decide)) (fun _ hk => hk.2) (.string t819)) (fun _ hk => hk.2) (.slice Ao15 t820.length co15)) (fun _ h_ => h_.1))) hb); have n2_ := Aside0.mk (Kd.R_lower (Kd.R_new' ho0 (Kd.R_lt (by (with_reducible repeat (first | apply Kd.R_alloc | apply Kd.R_drewN | apply Kd.R_drew)); exact (Kd.R_mono (Kd.R_far (p := ⟨gb824, 1, none⟩) (Kd.R_far (p := ⟨gb824, 0, none⟩) (Kd.R_types HO818.out BK824.out (by decide)) (fun _ hk => hk.2) (.string t819)) (fun _ hk => hk.2) (.slice Ao15 t820.length co15)) (fun _ h_ => h_.1))))) (below_size bG)); have n3_ := Aside0.mk (blk_below (g := gb824) (o := .cells #[.string t819, .slice Ao15 t820.length co15] 49 (0, 0)) (by (with_reducible repeat (first | refine blk_drewN ?_ _ | refine blk_drew ?_ | refine blk_alloc ?_ _)); refine blk_put (cs := #[.string t819, .slice none 0 0]) ?_ 1 _ rfl; (with_reducible repeat (first | refine blk_drewN ?_ _ | refine blk_drew ?_ | refine blk_alloc ?_ _)); refine blk_put (cs := #[.string (⟨#[]⟩ : ByteArray), .slice none 0 0]) ?_ 0 _ rfl; (with_reducible repeat (first | refine blk_drewN ?_ _ | refine blk_drew ?_ | refine blk_alloc ?_ _)); exact BK824.out) hb); have n4_ := Aside0.mk (below_step bG hb); clear HO818; clear HO822; clear BK824; clear HB; have HO818 := n0_; have HO822 := n1_; have HO827 := n2_; have BK824 := n3_; have HB := n4_; clear n0_ n1_ n2_ n3_ n4_; (try clear hb); (try clear hb2); (try clear hk); (try clear hi); (try clear ho0); have hcv17 := own_string (P := Tryd.prog) Tryd.underlying22 Tryd.underlying5 Tryd.underlying9 (Kd.own_of_R HO827.out); (try (have hcve18 := fun (nq_ : Nat) => own_string (P := Tryd.prog) Tryd.underlying22 Tryd.underlying5 Tryd.underlying9 (Kd.own_of_R (Kd.R_drewN HO827.out nq_)))); have hcv19 := own_string (P := Tryd.prog) Tryd.underlying22 Tryd.underlying5 Tryd.underlying9 (Kd.own_of_R HO818.out); (try (have hcve20 := fun (nq_ : Nat) => own_string (P := Tryd.prog) Tryd.underlying22 Tryd.underlying5 Tryd.underlying9 (Kd.own_of_R (Kd.R_drewN HO818.out nq_)))); have hcz21_0 : w16.cell? ⟨gb824, 0, none⟩ = some (.string t819) := (blk_cell BK824.out 0).trans rfl; have hcz21_1 : w16.cell? ⟨gb824, 1, none⟩ = some (.slice Ao15 t820.length co15) := (blk_cell BK824.out 1).trans rfl; have hfz21_0 := blk_frozen BK824.out 0; have hfz21_1 := blk_frozen BK824.out 1) | (go_at_call 41; (with_reducible refine (impl_MsgOk.calls k t819 _ _ t820 t829 _ ?side1 ?side2 A9.out).mono ?_); (case side1 => repeat (first | exact (Kd.R_reads' HO822.out).2.2 | (with_reducible refine Kd.C_alloc ?_ _) | (with_reducible refine Kd.C_drewN ?_ _) | (with_reducible refine Kd.C_drew ?_))); (case side2 => exact (Kd.R_reads' HO822.out).2.1); rintro e w22 ⟨rfl, hb⟩; have n0_ := Aside0.mk (Kd.R_below (rA HO818.out) hb); have n1_ := Aside0.mk (Kd.R_below (rA HO822.out) hb); have n2_ := Aside0.mk (Kd.R_below (rA HO827.out) hb); have n3_ := Aside0.mk (blk_below (g := gb824) (o := .cells #[.string t819, .slice Ao15 t820.length co15] 49 (0, 0)) (kA BK824.out) hb); have n4_ := Aside0.mk (below_step bG hb); clear HO818; clear HO822; clear HO827; clear BK824; clear HB; have HO818 := n0_; have HO822 := n1_; have HO827 := n2_; have BK824 := n3_; have HB := n4_; clear n0_ n1_ n2_ n3_ n4_; (try clear hb); (try clear hb2); (try clear hk); (try clear hi)))
     go_ret
     exact ⟨by first | rfl | (simp [errW_none, errW_some] <;> rfl) | (simp [*, errW_none, errW_some] <;> rfl), bG⟩
    ·rw [if_neg c8] at H
     have c8b0 : ((strOfNums t825).toList == (strOfNums t816).toList) = false := beq_eq_false_iff_ne.mpr c8
     have c8b1 : ((strOfNums t825).toList != (strOfNums t816).toList) = true := bne_iff_ne.mpr c8
     obtain rfl := Option.some.inj H
     exact absurd hr_ (by simp)
   ·replace c7 := Bool.eq_false_iff.mpr c7
    subst c7
    have H1 : (some false) = some r := by rw [if_neg (show ¬ (false = true) by decide)] at H; exact H
    clear H
    have H := H1
    clear H1
    obtain rfl := Option.some.inj H
    exact absurd hr_ (by simp)
  ·rw [if_neg c5] at H
   have c5b0 : (t823 == 0) = false := beq_eq_false_iff_ne.mpr c5
   have c5b1 : (t823 != 0) = true := bne_iff_ne.mpr c5
   by_cases c23 : t823 ≥ 1
   ·rw [if_pos c23] at H
    have c23b0 : decide (1 ≤ t823) = true := decide_eq_true c23
    clear c23
    by_cases c24 : t823 ≤ 4
    ·rw [if_pos c24] at H
     have c24b0 : decide (t823 ≤ 4) = true := decide_eq_true c24
     clear c24
     by_cases c25 : (t820.length : Int) = 0
     ·rw [if_pos c25] at H
      have c25b0 : ((t820.length : Int) == 0) = true := beq_iff_eq.mpr c25
      have c25b1 : ((t820.length : Int) != 0) = false := bne_eq_false_iff_eq.mpr c25
      clear c25
      obtain rfl := Option.some.inj H
      go_enter Tryd.func8, Tryd.ntmps8
      go_wp2_with (first | ((with_reducible refine gate_callee (f := 40) rfl ?_); refine goesM_ (some 12) rfl rfl Tryd.func40 (by kernel_rfl) rfl #[.slice A0 l0.length c0] rfl ?_; (with_reducible refine (spec_MakeBytes.calls k _ _ l0 t816 _ ?side1 ?side2 A3.out).mono ?_); (case side1 => repeat (first | exact HR0.out | (with_reducible refine Kd.C_alloc ?_ _) | (with_reducible refine Kd.C_drewN ?_ _) | (with_reducible refine Kd.C_drew ?_))); (case side2 => exact HC0.out); rintro e w26 ⟨v817, rfl, ho0, hb⟩; refine ⟨_, rfl, ?_⟩; have n0_ := Aside0.mk (Kd.R_lower ho0 (below_size bB)); have n1_ := Aside0.mk (below_step bB hb); clear HB; have HO818 := n0_; have HB := n1_; clear n0_ n1_; (try clear hb); (try clear hb2); (try clear hk); (try clear hi); (try clear ho0); obtain ⟨Ao27, co27, eo27⟩ := Kd.R_slice HO818.out; subst eo27) | ((with_reducible refine gate_callee (f := 38) rfl ?_); refine goesM_ (some 15) rfl rfl Tryd.func38 (by kernel_rfl) rfl #[.slice Ao27 t816.length co27] rfl ?_; (with_reducible refine (impl_Parse.calls k _ _ t816 t819 t820 t823 _ ?side1 ?side2 ?side3 A4.out).mono ?_); (case side1 => repeat (first | exact (Kd.R_reads' HO818.out).2.2 | (with_reducible refine Kd.C_alloc ?_ _) | (with_reducible refine Kd.C_drewN ?_ _) | (with_reducible refine Kd.C_drew ?_))); (case side2 => exact (Kd.R_reads' HO818.out).2.1); (case side3 => exact GLW_below HG.out bB); rintro e w28 ⟨v821, rfl, ho0, hb⟩; refine ⟨_, rfl, ?_⟩; have n0_ := Aside0.mk (Kd.R_below (rA HO818.out) hb); have n1_ := Aside0.mk (Kd.R_lower ho0 (below_size bB)); have n2_ := Aside0.mk (below_step bB hb); clear HO818; clear HB; have HO818 := n0_; have HO822 := n1_; have HB := n2_; clear n0_ n1_ n2_; (try clear hb); (try clear hb2); (try clear hk); (try clear hi); (try clear ho0)) | ((with_reducible refine gate_dst (N := 4) rfl ?_); (try (refine gate_guard (by rfl) ?_; dsimp only)); refine box_event ?hg (N := 4) ?hd (cs := #[.string (⟨#[]⟩ : ByteArray), .slice none 0 0]) (t := 49) ?hr ?_; (case hd => rfl); (case hg => rfl); (case hr => first | (go_simp; done) | (go_simp; rfl)); intro gb824 hg w29 hbox hb; have n0_ := Aside0.mk (Kd.R_below (rA HO818.out) hb); have n1_ := Aside0.mk (Kd.R_below (rA HO822.out) hb); have n2_ := Aside0.mk (below_step bB hb); have n3_ := Aside0.mk (hbox); have n4_ := Aside0.mk ((by rw [hg]; exact (below_size bB) : w.heap.size ≤ gb824)); have n5_ := Aside0.mk ((by rw [hg]; exact (below_size bB) : w.heap.size ≤ gb824)); clear HO818; clear HO822; clear HB; have HO818 := n0_; have HO822 := n1_; have HB := n2_; have BK824 := n3_; have GW824 := n4_; have GE824 := n5_; clear n0_ n1_ n2_ n3_ n4_ n5_; clear hb hbox hg; have hcz30_0 : w29.cell? ⟨gb824, 0, none⟩ = some (.string (⟨#[]⟩ : ByteArray)) := (blk_cell BK824.out 0).trans rfl; have hcz30_1 : w29.cell? ⟨gb824, 1, none⟩ = some (.slice none 0 0) := (blk_cell BK824.out 1).trans rfl; have hfz30_0 := blk_frozen BK824.out 0; have hfz30_1 := blk_frozen BK824.out 1; obtain ⟨Ao31, co31, eo31⟩ := Kd.R_slice HO822.out; subst eo31))
      go_ret
      exact ⟨by first | rfl | (simp [errW_none, errW_some] <;> rfl) | (simp [*, errW_none, errW_some] <;> rfl), bG⟩
     ·rw [if_neg c25] at H
      have c25b0 : ((t820.length : Int) == 0) = false := beq_eq_false_iff_ne.mpr c25
      have c25b1 : ((t820.length : Int) != 0) = true := bne_iff_ne.mpr c25
      have c25b2 : ¬ (t820 = []) := fun h_ => c25 (by rw [h_]; rfl)
      obtain rfl := Option.some.inj H
      exact absurd hr_ (by simp)
    ·rw [if_neg c24] at H
     have c24b0 : decide (t823 ≤ 4) = false := decide_eq_false c24
     clear c24
     obtain rfl := Option.some.inj H
     exact absurd hr_ (by simp)
   ·rw [if_neg c23] at H
    have c23b0 : decide (1 ≤ t823) = false := decide_eq_false c23
    clear c23
    obtain rfl := Option.some.inj H
    exact absurd hr_ (by simp)
end Go.Proofs.YtfiieppnpmodoaaDoor.Q
end
section
namespace Go.Proofs.YtfiieppnpmodoaaDoor.Q
open Go.RowKit Go.Proofs.YtfiieppnpmodoaaDoorW.PrintWords Go.Proofs.YtfiieppnpmodoaaDoorW.PrintLast Go.Proofs.YtfiieppnpmodoaaDoorW.PrintMore
set_option linter.unusedVariables false
set_option linter.unusedSimpArgs false
def narrow (l : List Int) : Int × Bool := if digs l = true ∧ l.length ≤ 18 then ((natFrom 0 l : Nat), true) else (0, false)
theorem impl_Narrow_at (s : ByteArray) (hs : s.size ≤ 140737488351232) : impl_Narrow.f s = some (narrow (bytesOf s)) := by
  unfold impl_Narrow.f narrow
  rw [if_pos hs, bytesOf_length]
def ubcd : List Int → List Int
  | [] => []
  | c :: t => (48 + c / 16) :: (48 + c % 16) :: ubcd t
theorem ubcd_append (a b : List Int) : ubcd (a ++ b) = ubcd a ++ ubcd b := by
  induction a with
  | nil => rfl
  | cons c t ih => simp [ubcd, ih]
theorem ubcd_length (a : List Int) : (ubcd a).length = 2 * a.length := by
  induction a with
  | nil => rfl
  | cons c t ih => simp [ubcd, ih]; omega
theorem ubcd_range (a : List Int) (h : ∀ c ∈ a, isByte c) : ∀ c ∈ ubcd a, isByte c := by
  induction a with
  | nil => intro c hc; simp [ubcd] at hc
  | cons x t ih =>
    intro c hc
    simp only [ubcd, List.mem_cons] at hc
    have hx := h x (by simp)
    unfold isByte at hx
    rcases hc with rfl | rfl | hc
    · unfold isByte; omega
    · unfold isByte; omega
    · exact ih (fun c hc => h c (by simp [hc])) c hc
theorem take_rd (l : List Int) (n : Nat) (h : n < l.length) : l.take (n + 1) = l.take n ++ [rd l (n : Int)] := by
  rw [List.take_succ_eq_append_getElem h, rd_nat l n h]
def cutAt (l : List Int) (a m : Nat) : List Int := (l.drop a).take m
theorem cutAt_take (l : List Int) (a m : Nat) : (l.take (a + m)).drop a = cutAt l a m := by
  unfold cutAt
  rw [List.drop_take]
  congr 1
  omega
theorem cutAt_length (l : List Int) (a m : Nat) (h : a + m ≤ l.length) : (cutAt l a m).length = m := by
  unfold cutAt
  simp
  omega
theorem cutAt_mem (l : List Int) (a m : Nat) : ∀ c ∈ cutAt l a m, c ∈ l := by
  intro c hc
  unfold cutAt at hc
  exact List.mem_of_mem_drop (List.mem_of_mem_take hc)
def isBcd (n : Nat) (u : List Int) : Bool := if n % 2 = 1 then decide (rd u 0 = 48) && digs (u.drop 1) else digs u
def inAt (l : List Int) (a1 n : Int) : Bool := decide (1 ≤ n ∧ n ≤ 38 ∧ 0 ≤ a1 ∧ a1 ≤ (l.length : Int) ∧ (n + 1) / 2 ≤ (l.length : Int) - a1)
def getBcd (l : List Int) (a1 n : Int) : List Int × Int × Bool :=
  if inAt l a1 n && isBcd n.toNat (ubcd (cutAt l a1.toNat ((n + 1) / 2).toNat)) then
    ((ubcd (cutAt l a1.toNat ((n + 1) / 2).toNat)).drop (n.toNat % 2), a1 + (n + 1) / 2, true)
  else ([], 0, false)
def asStr (r : List Int × Int × Bool) : ByteArray × Int × Bool := (strOfNums r.1, r.2.1, r.2.2)
theorem strOfNums_nil : strOfNums [] = (⟨#[]⟩ : ByteArray) := bytesOf_inj (by rw [bytesOf_strOfNums _ (by simp)]; rfl)
theorem asStr_none : asStr ([], 0, false) = ((⟨#[]⟩ : ByteArray), 0, false) := by unfold asStr; rw [strOfNums_nil]
theorem ubcd_digs (n m : Nat) (u : List Int) (hm : m = (n + 1) / 2) (hn : 1 ≤ n) (hu : u.length = 2 * m) : isBcd n u = (digs u && (decide (n % 2 = 0) || decide (rd u 0 = 48))) := by
  unfold isBcd
  by_cases h : n % 2 = 1
  · rw [if_pos h]
    have h0 : decide (n % 2 = 0) = false := decide_eq_false (by omega)
    rw [h0, Bool.false_or]
    have hd := drop_rd u 0 (by omega)
    simp only [List.drop_zero, Nat.zero_add] at hd
    have hp : 0 < (u.drop 1).length := by simp; omega
    by_cases h48 : rd u 0 = 48
    · have e1 : digs u = digs (u.drop 1) := by
        unfold digs
        have e2 : u.all isDig = (u.drop 1).all isDig := by
          have h7 : isDig (rd u ((0 : Nat) : Int)) = true := by simpa [h48] using (by decide : isDig 48 = true)
          have h8 : u.all isDig = (rd u ((0 : Nat) : Int) :: u.drop 1).all isDig := congrArg (fun x => List.all x isDig) hd
          rw [h8, List.all_cons, h7, Bool.true_and]
        have e3 : u.isEmpty = false := by cases u with | nil => simp at hu; omega | cons => rfl
        have e4 : (u.drop 1).isEmpty = false := by
          generalize u.drop 1 = v at hp
          cases v with | nil => simp at hp | cons => rfl
        rw [e2, e3, e4]
      simp [h48, e1]
    · simp [h48]
  · rw [if_neg h]
    have h0 : decide (n % 2 = 0) = true := decide_eq_true (by omega)
    rw [h0]
    simp
theorem impl_piece_at (l : List Int) (a1 m : Int) : impl_piece.f l a1 m = if 0 ≤ a1 ∧ a1 ≤ (l.length : Int) ∧ 0 ≤ m ∧ m ≤ (l.length : Int) - a1 then some (cutAt l a1.toNat m.toNat, true) else some ([], false) := by
  unfold impl_piece.f
  by_cases h : 0 ≤ a1 ∧ a1 ≤ (l.length : Int) ∧ 0 ≤ m ∧ m ≤ (l.length : Int) - a1
  · rw [if_pos h, if_pos h]
    have e : (a1 + m).toNat = a1.toNat + m.toNat := by omega
    rw [e, cutAt_take]
  · rw [if_neg h, if_neg h]
theorem impl_GetBcd_l (l : List Int) (hb : ∀ c ∈ l, isByte c) (hl : l.length ≤ 40) (a1 n : Int) (ok : Bool) (z : List Int) : ∀ (d i k : Nat), i + d = l.length → d < k → ∃ j, k = j + d + 1 ∧ 
    impl_GetBcd.l0 k a1 n z ok (ubcd (l.take i)) l (l.length : Int) (i : Int) = impl_GetBcd.l0 (j + 1) a1 n z ok (ubcd l) l (l.length : Int) (l.length : Int) := by
  intro d
  induction d with
  | zero =>
    intro i k hd hk
    refine ⟨k - 1, by omega, ?_⟩
    have hi : i = l.length := by omega
    subst hi
    have hk' : k - 1 + 1 = k := by omega
    rw [List.take_length, hk']
  | succ d ih =>
    intro i k hd hk
    obtain ⟨k, rfl⟩ : ∃ m, k = m + 1 := ⟨k - 1, by omega⟩
    obtain ⟨j, hj, ih'⟩ := ih (i + 1) k (by omega) (by omega)
    refine ⟨j, by omega, ?_⟩
    rw [← ih', take_rd l i (by omega), ubcd_append]
    have c1 : (i : Int) < (l.length : Int) := by omega
    have c2 : 0 ≤ (i : Int) := by omega
    have e4 : wrap64 ((i : Int) + 1) = ((i + 1 : Nat) : Int) := by unfold wrap64; omega
    obtain ⟨b0, b1⟩ := hb _ (rd_mem l i (by omega))
    have hz : (ubcd (l.take i)).length ≤ 80 := by rw [ubcd_length, List.length_take]; omega
    rw [impl_GetBcd.l0]
    simp only [e4, if_pos c1, if_pos c2, Option.bind_some]
    generalize rd l (i : Int) = b at b0 b1
    have q2 : Go.bits .and .u8 b 15 = b % 16 := u8_and15 b b0 (by omega)
    have q4 : (48 + b / 16) % 256 = 48 + b / 16 := by omega
    have q5 : (48 + b % 16) % 256 = 48 + b % 16 := by omega
    rw [q2, q4, q5]
    have q6 : (ubcd (l.take i)).length + [48 + b / 16, 48 + b % 16].length < 140737488355328 := by
      simp
      omega
    rw [if_pos q6]
    rfl
theorem impl_GetBcd_e (u : List Int) (hr : ∀ c ∈ u, isByte c) (a1 : Int) (n m : Nat) (z v : List Int) (hm : m = (n + 1) / 2) (h1 : 1 ≤ n) (h2 : n ≤ 38) (hz : z.length = m) (hu : u.length = 2 * m) (ha : 0 ≤ a1) (hb : a1 ≤ 140737488351232) (k : Nat) (hk : 50 < k) :
    impl_GetBcd.l0 (k + 1) a1 (n : Int) z true u v (v.length : Int) (v.length : Int) = some (asStr (if isBcd n u = true then (u.drop (n % 2), a1 + (m : Int), true) else ([], 0, false))) := by
  have c1 : ¬ (v.length : Int) < (v.length : Int) := by omega
  have hbs : bytesOf (strOfNums u) = u := bytesOf_strOfNums u hr
  have hsz : (strOfNums u).size = u.length := by rw [size_eq, hbs]
  simp only [impl_GetBcd.l0, if_neg c1, if_true]
  rw [impl_Digits_at _ (by omega) k (by omega), hbs, Option.bind_some, ubcd_digs n m u hm h1 hu]
  by_cases hg : digs u = true
  · have e1 : wrap64 ((u.length : Int) - (n : Int)) = ((n % 2 : Nat) : Int) := by unfold wrap64; omega
    have e2 : wrap64 (a1 + (z.length : Int)) = a1 + (m : Int) := by unfold wrap64; omega
    have e3 : (((n % 2 : Nat) : Int)).toNat = n % 2 := by omega
    have c2 : 0 ≤ ((n % 2 : Nat) : Int) := by omega
    have c3 : ((n % 2 : Nat) : Int) ≤ (u.length : Int) := by omega
    rw [if_pos hg, e1, e2, if_pos c2, if_pos c3, hg, Bool.true_and, e3]
    by_cases ho : n % 2 = 1
    · have c2 : Int.tmod (n : Int) 2 = 1 := by rw [Int.tmod_eq_emod_of_nonneg (by omega)]; omega
      have c3 : 0 < (u.length : Int) := by omega
      have h0 : decide (n % 2 = 0) = false := decide_eq_false (by omega)
      rw [if_pos c2, if_pos c3, h0, Bool.false_or]
      by_cases h48 : rd u 0 = 48
      · rw [if_pos h48, if_pos (decide_eq_true h48)]; rfl
      · rw [if_neg h48, if_neg (by simp [h48]), asStr_none]
    · have c2 : ¬ Int.tmod (n : Int) 2 = 1 := by rw [Int.tmod_eq_emod_of_nonneg (by omega)]; omega
      have h0 : decide (n % 2 = 0) = true := decide_eq_true (by omega)
      rw [if_neg c2, h0, Bool.true_or, if_pos rfl]; rfl
  · rw [if_neg hg]
    have : digs u = false := by simpa using hg
    rw [this, Bool.false_and, if_neg (by simp), asStr_none]
theorem impl_within_at (a b c : Int) : impl_within.f a b c = some (decide (b ≤ a ∧ a ≤ c)) := by
  unfold impl_within.f
  by_cases h : b ≤ a
  · rw [if_pos h]; simp [h]
  · rw [if_neg h]; simp [h]
theorem impl_GetBcd_at (l : List Int) (hl : l.length ≤ 140737488351232) (hb : ∀ c ∈ l, isByte c) (a1 n : Int) (w1 : -9223372036854775808 ≤ a1 ∧ a1 ≤ 9223372036854775807) (w2 : -9223372036854775808 ≤ n ∧ n ≤ 9223372036854775807) (k : Nat) (hk : 200 < k) :
    impl_GetBcd.f k l a1 n = some (asStr (getBcd l a1 n)) := by
  unfold impl_GetBcd.f
  rw [impl_within_at, Option.bind_some]
  by_cases h1 : 1 ≤ n ∧ n ≤ 38
  · rw [if_pos (decide_eq_true h1)]
    have e0 : wrap64 (n + 1) = n + 1 := by unfold wrap64; omega
    have e1 : Int.tdiv (n + 1) 2 = (n + 1) / 2 := Int.tdiv_eq_ediv_of_nonneg (by omega)
    have e2 : wrap64 ((n + 1) / 2) = (n + 1) / 2 := by unfold wrap64; omega
    rw [e0, e1, e2, impl_piece_at]
    by_cases h2 : 0 ≤ a1 ∧ a1 ≤ (l.length : Int) ∧ 0 ≤ (n + 1) / 2 ∧ (n + 1) / 2 ≤ (l.length : Int) - a1
    · rw [if_pos h2, Option.bind_some]
      have hz : (cutAt l a1.toNat ((n + 1) / 2).toNat).length = ((n + 1) / 2).toNat := cutAt_length _ _ _ (by omega)
      have hb' : ∀ c ∈ cutAt l a1.toNat ((n + 1) / 2).toNat, isByte c := fun c hc => hb c (cutAt_mem _ _ _ c hc)
      obtain ⟨j, hj, h⟩ := impl_GetBcd_l (cutAt l a1.toNat ((n + 1) / 2).toNat) hb' (by omega) a1 n true (cutAt l a1.toNat ((n + 1) / 2).toNat) (cutAt l a1.toNat ((n + 1) / 2).toNat).length 0 k (by omega) (by omega)
      have h' : impl_GetBcd.l0 k a1 n (cutAt l a1.toNat ((n + 1) / 2).toNat) true (([] : List Int)) (cutAt l a1.toNat ((n + 1) / 2).toNat) ((cutAt l a1.toNat ((n + 1) / 2).toNat).length : Int) 0 = _ := h
      simp only
      rw [h']
      have en : ((n.toNat : Nat) : Int) = n := by omega
      have h5 := impl_GetBcd_e (ubcd (cutAt l a1.toNat ((n + 1) / 2).toNat)) (ubcd_range _ hb') a1 n.toNat ((n + 1) / 2).toNat (cutAt l a1.toNat ((n + 1) / 2).toNat) (cutAt l a1.toNat ((n + 1) / 2).toNat) (by omega) (by omega) (by omega) hz (by rw [ubcd_length, hz]) h2.1 (by omega) j (by omega)
      rw [en] at h5
      rw [h5]
      unfold getBcd
      have e3 : inAt l a1 n = true := decide_eq_true (by omega)
      have e4 : ((((n + 1) / 2).toNat : Nat) : Int) = (n + 1) / 2 := by omega
      rw [e3, Bool.true_and, e4]
    · rw [if_neg h2, Option.bind_some]
      obtain ⟨k, rfl⟩ : ∃ m, k = m + 1 := ⟨k - 1, by omega⟩
      unfold getBcd
      have e3 : inAt l a1 n = false := decide_eq_false (by omega)
      rw [e3, Bool.false_and, if_neg (by simp), asStr_none]
      simp only
      rw [impl_GetBcd.l0]
      simp
  · rw [if_neg (by simpa using h1)]
    unfold getBcd
    have e3 : inAt l a1 n = false := decide_eq_false (by omega)
    rw [e3, Bool.false_and, if_neg (by simp), asStr_none]
theorem getBcd_ok (l : List Int) (a1 n : Int) (hb : ∀ c ∈ l, isByte c) (h : (getBcd l a1 n).2.2 = true) :
    digs (getBcd l a1 n).1 = true ∧ (getBcd l a1 n).1.length = n.toNat ∧ (∀ c ∈ (getBcd l a1 n).1, isByte c) ∧ (getBcd l a1 n).2.1 = a1 + (n + 1) / 2 ∧ 1 ≤ n ∧ n ≤ 38 ∧ 0 ≤ a1 ∧ a1 + (n + 1) / 2 ≤ (l.length : Int) := by
  unfold getBcd at h ⊢
  by_cases q : (inAt l a1 n && isBcd n.toNat (ubcd (cutAt l a1.toNat ((n + 1) / 2).toNat))) = true
  · rw [if_pos q] at h ⊢
    simp only [Bool.and_eq_true] at q
    obtain ⟨q1, q2⟩ := q
    have q3 := of_decide_eq_true q1
    have hlen : (ubcd (cutAt l a1.toNat ((n + 1) / 2).toNat)).length = 2 * ((n + 1) / 2).toNat := by rw [ubcd_length, cutAt_length _ _ _ (by omega)]
    have hr : ∀ c ∈ ubcd (cutAt l a1.toNat ((n + 1) / 2).toNat), isByte c := ubcd_range _ (fun c hc => hb c (cutAt_mem _ _ _ c hc))
    generalize ubcd (cutAt l a1.toNat ((n + 1) / 2).toNat) = u at q2 hlen hr
    refine ⟨?_, ?_, fun c hc => hr c (List.mem_of_mem_drop hc), rfl, q3.1, q3.2.1, q3.2.2.1, by omega⟩
    · unfold isBcd at q2
      by_cases o : n.toNat % 2 = 1
      · rw [if_pos o] at q2
        simp only [Bool.and_eq_true] at q2
        simp only [o]
        exact q2.2
      · rw [if_neg o] at q2
        have o' : n.toNat % 2 = 0 := by omega
        simp only [o', List.drop_zero]
        exact q2
    · simp only [List.length_drop]
      omega
  · rw [if_neg q] at h
    exact absurd h (by simp)
theorem getBcd_no (l : List Int) (a1 n : Int) (h : (getBcd l a1 n).2.2 = false) : getBcd l a1 n = ([], 0, false) := by
  unfold getBcd at h ⊢
  split
  · rename_i q
    rw [if_pos q] at h
    exact absurd h (by simp)
  · rfl
def getLen (l : List Int) (a1 w : Int) : Int × Int × Bool :=
  if (w = 2 ∨ w = 3) ∧ (getBcd l a1 w).2.2 = true then (((natFrom 0 (getBcd l a1 w).1 : Nat) : Int), (getBcd l a1 w).2.1, true) else (0, 0, false)
theorem impl_GetLen_at (l : List Int) (hl : l.length ≤ 140737488351232) (hb : ∀ c ∈ l, isByte c) (a1 w : Int) (w1 : -9223372036854775808 ≤ a1 ∧ a1 ≤ 9223372036854775807) (k : Nat) (hk : 300 < k) :
    impl_GetLen.f k l a1 w = some (getLen l a1 w) := by
  have hin : impl_within.f w 2 3 = some (decide (w = 2 ∨ w = 3)) := by
    unfold impl_within.f
    by_cases h : 2 ≤ w
    · rw [if_pos h]; congr 1; apply decide_eq_decide.2; omega
    · rw [if_neg h]; congr 1; symm; apply decide_eq_false; omega
  unfold impl_GetLen.f getLen
  rw [hin, Option.bind_some]
  by_cases h2 : w = 2 ∨ w = 3
  · rw [if_pos (decide_eq_true h2), impl_GetBcd_at l hl hb a1 w w1 (by omega) k (by omega), Option.bind_some]
    unfold asStr
    simp only
    cases hr : (getBcd l a1 w).2.2 with
    | true =>
      obtain ⟨p1, p2, p3, _⟩ := getBcd_ok l a1 w hb hr
      have hz : (strOfNums (getBcd l a1 w).1).size ≤ 18 := by rw [strOfNums_size]; omega
      rw [if_pos rfl, if_pos ⟨h2, rfl⟩, impl_Narrow_at _ (by omega), Option.bind_some, bytesOf_strOfNums _ p3]
      unfold narrow
      rw [if_pos ⟨p1, by omega⟩]
    | false => rw [if_neg (by simp), if_neg (by simp)]
  · rw [if_neg (by simpa using h2), if_neg (fun q => h2 q.1)]
theorem impl_FieldSize_at (x : Int) (k : Nat) (hk : 20 ≤ k) : impl_FieldSize.f k x = some (sizeOf_ x) := by
  obtain ⟨y, h⟩ := rowOf_at x k hk
  unfold impl_FieldSize.f
  rw [h]; rfl
def gfHead (l : List Int) (a1 x : Int) : Int × Int × Bool := if prefixed x = true then getLen l a1 (lenWidth x) else (sizeOf_ x, a1, true)
def pieceAt (l : List Int) (a n : Int) : List Int × Int × Bool := if 0 ≤ a ∧ a ≤ (l.length : Int) ∧ 0 ≤ n ∧ n ≤ (l.length : Int) - a then (cutAt l a.toNat n.toNat, a + n, true) else ([], 0, false)
def gfBody (l : List Int) (a n x : Int) : List Int × Int × Bool := if inDigits x = true then getBcd l a n else pieceAt l a n
def gfFin (x : Int) (r : List Int × Int × Bool) : List Int × Int × Bool := if r.2.2 = true ∧ fieldOk x r.1 = true then (r.1, r.2.1, true) else ([], 0, false)
def getField (l : List Int) (a1 x : Int) : List Int × Int × Bool :=
  if (gfHead l a1 x).2.2 = true then gfFin x (gfBody l (gfHead l a1 x).2.1 (gfHead l a1 x).1 x) else ([], 0, false)
theorem natFrom_le : ∀ (l : List Int) (a n : Nat), l.all isDig = true → a < 10 ^ n → natFrom a l < 10 ^ (n + l.length) := by
  intro l
  induction l with
  | nil => intro a n _ h; exact h
  | cons c t ih =>
    intro a n h ha
    simp only [List.all_cons, Bool.and_eq_true] at h
    have hc := dig_range' h.1
    rw [natFrom]
    have := ih (a * 10 + (c - 48).toNat) (n + 1) h.2 (by rw [Nat.pow_succ]; omega)
    rw [List.length_cons, show n + (t.length + 1) = n + 1 + t.length by omega]
    exact this
theorem getLen_ok (l : List Int) (a1 w : Int) (hb : ∀ c ∈ l, isByte c) (h : (getLen l a1 w).2.2 = true) :
    0 ≤ (getLen l a1 w).1 ∧ (getLen l a1 w).1 ≤ 999 ∧ 0 ≤ (getLen l a1 w).2.1 ∧ (getLen l a1 w).2.1 ≤ (l.length : Int) ∧ 0 ≤ a1 := by
  unfold getLen at h ⊢
  by_cases q : (w = 2 ∨ w = 3) ∧ (getBcd l a1 w).2.2 = true
  · rw [if_pos q]
    obtain ⟨p1, p2, p3, p4, p5, p6, p7, p8⟩ := getBcd_ok l a1 w hb q.2
    have hn := natFrom_le (getBcd l a1 w).1 0 0 (digs_and _ p1).1 (by decide)
    rw [p2] at hn
    have h3 : (10 : Nat) ^ (0 + w.toNat) ≤ 1000 := by
      rcases q.1 with rfl | rfl <;> decide
    simp only
    refine ⟨by omega, by omega, by omega, by omega, p7⟩
  · rw [if_neg q] at h
    exact absurd h (by simp)
theorem gfHead_ok (l : List Int) (a1 x : Int) (hb : ∀ c ∈ l, isByte c) (hl : l.length ≤ 140737488351232) (w1 : -9223372036854775808 ≤ a1 ∧ a1 ≤ 9223372036854775807) (h : (gfHead l a1 x).2.2 = true) :
    0 ≤ (gfHead l a1 x).1 ∧ (gfHead l a1 x).1 ≤ 999 ∧ -9223372036854775808 ≤ (gfHead l a1 x).2.1 ∧ (gfHead l a1 x).2.1 ≤ 9223372036854775807 := by
  unfold gfHead at h ⊢
  by_cases q : prefixed x = true
  · rw [if_pos q] at h ⊢
    obtain ⟨p1, p2, p3, p4, _⟩ := getLen_ok l a1 _ hb h
    omega
  · rw [if_neg q]
    have := sizeOf_range x
    simp only
    omega
theorem fin_impl (x : Int) (r : List Int × Int × Bool) (hr : ∀ c ∈ r.1, isByte c) (hz : r.1.length ≤ 140737488351232) (hno : r.2.2 = false → r = ([], 0, false)) (e : Int) (he : r.2.2 = true → e = r.2.1) (k : Nat) (hk : r.1.length + 30 ≤ k) :
    (if r.2.2 = true then (impl_FieldOk.f k x (strOfNums r.1)).bind fun t => (if t = true then some (strOfNums r.1, e, true) else some ((⟨#[]⟩ : ByteArray), 0, false)) else some ((⟨#[]⟩ : ByteArray), 0, false)) = some (asStr (gfFin x r)) := by
  unfold gfFin
  cases hr2 : r.2.2 with
  | true =>
    rw [if_pos rfl, impl_FieldOk_at x _ (by rw [strOfNums_size]; exact hz) k (by rw [strOfNums_size]; omega), Option.bind_some, bytesOf_strOfNums _ hr]
    cases hf : fieldOk x r.1 with
    | true => rw [if_pos rfl, if_pos ⟨rfl, rfl⟩, he hr2]; rfl
    | false => rw [if_neg (by simp), if_neg (by simp), asStr_none]
  | false => rw [if_neg (by simp), if_neg (by simp), asStr_none]
theorem getBcd_bytes (l : List Int) (a n : Int) (hb : ∀ c ∈ l, isByte c) : ∀ c ∈ (getBcd l a n).1, isByte c := by
  cases h : (getBcd l a n).2.2 with
  | true => exact (getBcd_ok l a n hb h).2.2.1
  | false => rw [getBcd_no l a n h]; simp
theorem getBcd_size (l : List Int) (a n : Int) (hb : ∀ c ∈ l, isByte c) : (getBcd l a n).1.length ≤ 38 := by
  cases h : (getBcd l a n).2.2 with
  | true =>
    obtain ⟨_, p2, _, _, _, p6, _⟩ := getBcd_ok l a n hb h
    omega
  | false => rw [getBcd_no l a n h]; simp
theorem pieceAt_facts (l : List Int) (a n : Int) (hb : ∀ c ∈ l, isByte c) :
    (∀ c ∈ (pieceAt l a n).1, isByte c) ∧ (pieceAt l a n).1.length ≤ n.toNat ∧ ((pieceAt l a n).2.2 = false → pieceAt l a n = ([], 0, false)) ∧ ((pieceAt l a n).2.2 = true → (pieceAt l a n).1.length = n.toNat ∧ (pieceAt l a n).2.1 = a + n) := by
  unfold pieceAt
  by_cases q : 0 ≤ a ∧ a ≤ (l.length : Int) ∧ 0 ≤ n ∧ n ≤ (l.length : Int) - a
  · rw [if_pos q]
    have := cutAt_length l a.toNat n.toNat (by omega)
    exact ⟨fun c hc => hb c (cutAt_mem _ _ _ c hc), by simp only; omega, fun h => absurd h (by simp), fun _ => ⟨this, rfl⟩⟩
  · rw [if_neg q]
    exact ⟨by simp, by simp, fun _ => rfl, fun h => absurd h (by simp)⟩
theorem gfBody_bytes (l : List Int) (a n x : Int) (hb : ∀ c ∈ l, isByte c) : ∀ c ∈ (gfBody l a n x).1, isByte c := by
  unfold gfBody
  split
  · exact getBcd_bytes l a n hb
  · exact (pieceAt_facts l a n hb).1
theorem impl_GetField_at (l : List Int) (hl : l.length ≤ 140737488351232) (hb : ∀ c ∈ l, isByte c) (a1 x : Int) (w1 : -9223372036854775808 ≤ a1 ∧ a1 ≤ 9223372036854775807) (k : Nat) (hk : 1100 < k) :
    impl_GetField.f k l a1 x = some (asStr (getField l a1 x)) := by
  obtain ⟨k, rfl⟩ : ∃ m, k = m + 3 := ⟨k - 3, by omega⟩
  have h2 : ∀ (a n : Int) (h : Bool), -9223372036854775808 ≤ a ∧ a ≤ 9223372036854775807 → 0 ≤ n ∧ n ≤ 999 → h = inDigits x → impl_GetField.j2 (k + 1) l a x n h = some (asStr (gfFin x (gfBody l a n x))) := by
    intro a n h ha hn e
    subst e
    rw [impl_GetField.j2]
    unfold gfBody
    by_cases q : inDigits x = true
    · rw [if_pos q, if_pos q, impl_GetBcd_at l hl hb a n ha (by omega) k (by omega), Option.bind_some]
      exact fin_impl x (getBcd l a n) (getBcd_bytes l a n hb) (by have := getBcd_size l a n hb; omega) (getBcd_no l a n) _ (fun _ => rfl) k (by have := getBcd_size l a n hb; omega)
    · rw [if_neg q, if_neg q, impl_piece_at]
      obtain ⟨f1, f2, f3, f4⟩ := pieceAt_facts l a n hb
      have h5 := fin_impl x (pieceAt l a n) f1 (by omega) f3 (wrap64 (a + n)) (fun h => by
        rw [(f4 h).2]
        unfold pieceAt at h
        split at h
        · rename_i z
          unfold wrap64
          omega
        · exact absurd h (by simp)) k (by omega)
      rw [← h5]
      unfold pieceAt
      split <;> rfl
  have h1 : ∀ (a n : Int) (ok : Bool), (ok = true → (-9223372036854775808 ≤ a ∧ a ≤ 9223372036854775807) ∧ (0 ≤ n ∧ n ≤ 999)) → impl_GetField.j1 (k + 2) l a x n (kindOf x) ok = some (asStr (if ok = true then gfFin x (gfBody l a n x) else ([], 0, false))) := by
    intro a n ok h
    rw [impl_GetField.j1]
    cases ok with
    | true =>
      obtain ⟨ha, hn⟩ := h rfl
      rw [if_pos rfl, if_pos rfl]
      by_cases q : kindOf x = 1
      · rw [if_pos q]; exact h2 a n true ha hn (by unfold inDigits; simp [q])
      · rw [if_neg q]
        refine h2 a n _ ha hn ?_
        unfold inDigits
        by_cases q3 : kindOf x = 3 <;> simp [q, q3]
    | false => rw [if_neg (by simp), if_neg (by simp), asStr_none]
  have hh := gfHead_ok l a1 x hb hl w1
  have h0 : ∀ h : Bool, h = prefixed x → impl_GetField.j0 (k + 3) l a1 x (sizeOf_ x) (kindOf x) true h = some (asStr (getField l a1 x)) := by
    intro h e
    subst e
    rw [impl_GetField.j0]
    unfold getField
    unfold gfHead at hh ⊢
    by_cases q : prefixed x = true
    · rw [if_pos q, impl_lenDigits_at x (k + 2) (by omega), Option.bind_some, impl_GetLen_at l hl hb a1 _ w1 (k + 2) (by omega), Option.bind_some, if_pos q]
      rw [if_pos q] at hh
      exact h1 _ _ _ (fun z => by have := hh z; omega)
    · rw [if_neg q, if_neg q]
      rw [if_neg q] at hh
      exact h1 a1 (sizeOf_ x) true (fun z => by have := hh rfl; simp only at this; omega)
  unfold impl_GetField.f
  rw [impl_FieldSize_at x _ (by omega), Option.bind_some, impl_FieldKind_at x _ (by omega), Option.bind_some]
  by_cases q3 : kindOf x = 3
  · rw [if_pos q3]; exact h0 true (by unfold prefixed; simp [q3])
  rw [if_neg q3]
  by_cases q4 : kindOf x = 4
  · rw [if_pos q4]; exact h0 true (by unfold prefixed; simp [q4])
  rw [if_neg q4]
  refine h0 _ ?_
  unfold prefixed
  by_cases q5 : kindOf x = 5 <;> simp [q3, q4, q5]
theorem bcd_bytes : ∀ (n : Nat) (l : List Int), l.length = 2 * n → l.all isDig = true → ∀ c ∈ bcd l, isByte c
  | 0, l, h, _ => by
    have : l = [] := List.length_eq_zero_iff.1 (by omega)
    rw [this]; intro c hc; simp [bcd] at hc
  | n + 1, [], h, _ => by simp at h
  | n + 1, [a], h, _ => by simp at h; omega
  | n + 1, a :: b :: t, h, hd => by
    simp only [List.all_cons, Bool.and_eq_true] at hd
    have ha := dig_range' hd.1
    have hb := dig_range' hd.2.1
    intro c hc
    rw [bcd] at hc
    rcases List.mem_cons.1 hc with rfl | hc
    · unfold isByte; omega
    · exact bcd_bytes n t (by simp at h; omega) hd.2.2 c hc
theorem ubcd_bcd : ∀ (n : Nat) (l : List Int), l.length = 2 * n → l.all isDig = true → ubcd (bcd l) = l
  | 0, l, h, _ => by
    have : l = [] := List.length_eq_zero_iff.1 (by omega)
    rw [this]; rfl
  | n + 1, [], h, _ => by simp at h
  | n + 1, [a], h, _ => by simp at h; omega
  | n + 1, a :: b :: t, h, hd => by
    simp only [List.all_cons, Bool.and_eq_true] at hd
    have ha := dig_range' hd.1
    have hb := dig_range' hd.2.1
    rw [bcd, ubcd, ubcd_bcd n t (by simp at h; omega) hd.2.2]
    have e1 : 48 + ((a - 48) * 16 + (b - 48)) / 16 = a := by omega
    have e2 : 48 + ((a - 48) * 16 + (b - 48)) % 16 = b := by omega
    rw [e1, e2]
theorem cutAt_all (l : List Int) : cutAt l 0 l.length = l := by unfold cutAt; simp
theorem getBcd_putBcd (L : List Int) (hd : L.all isDig = true) (h1 : 1 ≤ L.length) (h2 : L.length ≤ 38) :
    putBcd L = (bcd (evened L), true) ∧ (bcd (evened L)).length = (L.length + 1) / 2 ∧ (∀ c ∈ bcd (evened L), isByte c) ∧ getBcd (bcd (evened L)) 0 (L.length : Int) = (L, (((L.length + 1) / 2 : Nat) : Int), true) := by
  have he := evened_length L
  have ha := evened_all L hd
  have hl := bcd_length _ _ he
  have hu := ubcd_bcd _ _ he ha
  have hg : digs L = true := by
    unfold digs; rw [hd]; cases L with
    | nil => simp at h1
    | cons => rfl
  have hge : digs (evened L) = true := by
    unfold digs; rw [ha]; cases hE : evened L with
    | nil => rw [hE] at he; simp at he; omega
    | cons => rfl
  refine ⟨by unfold putBcd; rw [hg]; simp [h2], hl, bcd_bytes _ _ he ha, ?_⟩
  unfold getBcd
  have en : (((L.length : Int) + 1) / 2).toNat = (bcd (evened L)).length := by omega
  have ei : inAt (bcd (evened L)) 0 (L.length : Int) = true := by unfold inAt; simp; omega
  rw [en, Int.toNat_zero, cutAt_all, hu, ei, Int.toNat_natCast]
  have eb : isBcd L.length (evened L) = true := by
    rw [ubcd_digs L.length ((L.length + 1) / 2) (evened L) rfl h1 he, hge]
    unfold evened
    by_cases q : L.length % 2 = 1
    · rw [if_pos q]; simp [rd]
    · simp; omega
  have ed : (evened L).drop (L.length % 2) = L := by
    unfold evened
    by_cases q : L.length % 2 = 1
    · rw [if_pos q, q]; rfl
    · rw [if_neg q, show L.length % 2 = 0 by omega]; rfl
  rw [eb, ed]
  simp
theorem wide3 (n : Nat) (h : n < 1000) : bytesOf (wide (n : Int) 3) = [48 + ((n / 100 : Nat) : Int), 48 + ((n / 10 % 10 : Nat) : Int), 48 + ((n % 10 : Nat) : Int)] := by
  have hs : (decS n).size = (decL n).length := decS_size n
  unfold wide
  rw [Int.toNat_natCast]
  by_cases q1 : n < 10
  · have e := decL_small n q1
    rw [e] at hs
    rw [if_pos ⟨by omega, by omega, by omega, by rw [hs]; simp⟩, bytesOf_append, bytesOf_rep, bytesOf_decS, e, hs]
    have : n / 100 = 0 := by omega
    have : n / 10 % 10 = 0 := by omega
    have : n % 10 = n := by omega
    simp_all [List.replicate]
    omega
  · have e := decL_step n q1
    by_cases q2 : n < 100
    · rw [decL_small (n / 10) (by omega)] at e
      rw [e] at hs
      rw [if_pos ⟨by omega, by omega, by omega, by rw [hs]; simp⟩, bytesOf_append, bytesOf_rep, bytesOf_decS, e, hs]
      have : n / 100 = 0 := by omega
      have : n / 10 % 10 = n / 10 := by omega
      simp_all [List.replicate]
      omega
    · rw [decL_step (n / 10) (by omega), decL_small (n / 10 / 10) (by omega)] at e
      rw [e] at hs
      rw [if_pos ⟨by omega, by omega, by omega, by rw [hs]; simp⟩, bytesOf_append, bytesOf_rep, bytesOf_decS, e, hs]
      have : n / 10 / 10 = n / 100 := by omega
      simp_all [List.replicate]
theorem wide2 (n : Nat) (h : n < 100) : bytesOf (wide (n : Int) 2) = [48 + ((n / 10 : Nat) : Int), 48 + ((n % 10 : Nat) : Int)] := by
  have hs : (decS n).size = (decL n).length := decS_size n
  unfold wide
  rw [Int.toNat_natCast]
  by_cases q1 : n < 10
  · have e := decL_small n q1
    rw [e] at hs
    rw [if_pos ⟨by omega, by omega, by omega, by rw [hs]; simp⟩, bytesOf_append, bytesOf_rep, bytesOf_decS, e, hs]
    have z1 : n / 10 = 0 := by omega
    have z2 : n % 10 = n := by omega
    rw [z1, z2]
    simp [List.replicate]
  · have e := decL_step n q1
    rw [decL_small (n / 10) (by omega)] at e
    rw [e] at hs
    rw [if_pos ⟨by omega, by omega, by omega, by rw [hs]; simp⟩, bytesOf_append, bytesOf_rep, bytesOf_decS, e, hs]
    simp_all [List.replicate]
theorem wide_facts (n w : Int) (h0 : 0 ≤ n) (hw : (w = 2 ∧ n < 100) ∨ (w = 3 ∧ n < 1000)) : (bytesOf (wide n w)).all isDig = true ∧ ((bytesOf (wide n w)).length : Int) = w ∧ ((natFrom 0 (bytesOf (wide n w)) : Nat) : Int) = n := by
  obtain ⟨m, rfl⟩ := Int.eq_ofNat_of_zero_le h0
  rcases hw with ⟨rfl, h⟩ | ⟨rfl, h⟩
  · rw [wide2 m (by omega)]
    refine ⟨by unfold isDig; simp; omega, rfl, ?_⟩
    simp [natFrom]; omega
  · rw [wide3 m (by omega)]
    refine ⟨by unfold isDig; simp; omega, rfl, ?_⟩
    simp [natFrom]; omega
theorem putLen_facts (n w : Int) (h0 : 0 ≤ n) (hw : (w = 2 ∧ n < 100) ∨ (w = 3 ∧ n < 1000)) : putLen n w = (bcd (evened (bytesOf (wide n w))), true) ∧ (∀ c ∈ (putLen n w).1, isByte c) ∧ (putLen n w).1.length = ((w + 1) / 2).toNat := by
  obtain ⟨d1, d2, d3⟩ := wide_facts n w h0 hw
  obtain ⟨p1, p2, p3, _⟩ := getBcd_putBcd _ d1 (by omega) (by omega)
  have hp : putLen n w = (bcd (evened (bytesOf (wide n w))), true) := by unfold putLen; rw [if_pos (by omega), p1]
  refine ⟨hp, ?_, ?_⟩
  · rw [hp]; exact p3
  · rw [hp]; simp only; omega
theorem lenWidth_fit (x : Int) (n : Nat) (hn : (n : Int) ≤ sizeOf_ x) (hp : prefixed x = true) : (lenWidth x = 2 ∧ (n : Int) < 100) ∨ (lenWidth x = 3 ∧ (n : Int) < 1000) := by
  have := sizeOf_range x
  unfold lenWidth
  split
  · right; exact ⟨rfl, by omega⟩
  · left; exact ⟨rfl, by omega⟩
theorem putField_bytes (x : Int) (L : List Int) (hb : ∀ c ∈ L, isByte c) : ∀ c ∈ (putField x L).1, isByte c := by
  unfold putField
  split
  · rename_i h
    have hl := fieldOk_len x L h
    intro c hc
    simp only [List.mem_append] at hc
    rcases hc with hc | hc
    · unfold pfHead at hc
      split at hc
      · rename_i hp
        exact (putLen_facts _ _ (by omega) (lenWidth_fit x L.length hl.2 hp)).2.1 c hc
      · cases hc
    · unfold pfBody at hc
      split at hc
      · rename_i hd
        obtain ⟨d1, d2, d3⟩ := fieldOk_digits x L h hd
        exact (getBcd_putBcd L d1 d2 d3).2.2.1 c hc
      · exact hb c hc
  · intro c hc; cases hc
theorem putField_len (x : Int) (L : List Int) : (putField x L).1.length ≤ 100 := by
  unfold putField
  split
  · rename_i h
    have hl := fieldOk_len x L h
    have := sizeOf_range x
    have h1 : (pfHead x L.length).length ≤ 38 := by
      unfold pfHead
      split
      · exact putLen_short _ _
      · simp
    have h2 : (pfBody x L).length ≤ 60 := by
      unfold pfBody
      split
      · rename_i hd
        obtain ⟨d1, d2, d3⟩ := fieldOk_digits x L h hd
        have := (getBcd_putBcd L d1 d2 d3).2.1
        omega
      · omega
    simp only [List.length_append]
    omega
  · simp
def bitOn (b : Int) (j : Nat) : Bool := decide ((b / 2 ^ (7 - j)) % 2 = 1)
theorem bit_impl (b : Int) (j : Nat) (h0 : 0 ≤ b) (h1 : b ≤ 255) (h2 : j < 8) : (Go.bits .and .u8 b (shr .u8 128 (j : Int)) = 0) ↔ bitOn b j = false := by
  have h : ∀ (j : Fin 8) (b : Fin 256), decide (Go.bits .and .u8 ((b.val : Nat) : Int) (shr .u8 128 ((j.val : Nat) : Int)) = 0) = !bitOn ((b.val : Nat) : Int) j.val := by decide +kernel
  have := h ⟨j, h2⟩ ⟨b.toNat, by omega⟩
  have e : ((b.toNat : Nat) : Int) = b := by omega
  simp only [e] at this
  constructor
  · intro q
    rw [decide_eq_true q] at this
    simpa using this.symm
  · intro q
    rw [q] at this
    simpa using this
def bitsOf (l : List Int) (m : Nat) : List Int := ((List.range m).filter fun i => bitOn (rd l ((i / 8 : Nat) : Int)) (i % 8)).map fun i => ((i + 1 : Nat) : Int)
theorem bitsOf_succ (l : List Int) (m : Nat) : bitsOf l (m + 1) = bitsOf l m ++ (if bitOn (rd l ((m / 8 : Nat) : Int)) (m % 8) = true then [((m + 1 : Nat) : Int)] else []) := by
  unfold bitsOf
  rw [List.range_succ, List.filter_append, List.map_append]
  congr 1
  by_cases h : bitOn (rd l ((m / 8 : Nat) : Int)) (m % 8) = true
  · rw [if_pos h]; simp only [List.filter, h, List.map]
  · have h' : bitOn (rd l ((m / 8 : Nat) : Int)) (m % 8) = false := by simpa using h
    rw [if_neg h]; simp only [List.filter, h', List.map]
theorem bitsOf_length (l : List Int) (m : Nat) : (bitsOf l m).length ≤ m := by
  unfold bitsOf
  rw [List.length_map]
  have := List.length_filter_le (fun i => bitOn (rd l ((i / 8 : Nat) : Int)) (i % 8)) (List.range m)
  simpa using this
def getBits (l : List Int) (a1 : Int) : List Int × Int × Bool :=
  if 0 ≤ a1 ∧ a1 ≤ (l.length : Int) - 8 then (bitsOf (cutAt l a1.toNat 8) 64, a1 + 8, true) else ([], 0, false)
theorem impl_GetBits_l (l : List Int) (h3 : l.length = 8) (hb : ∀ c ∈ l, isByte c) (a1 : Int) (ha : 0 ≤ a1) (ha2 : a1 ≤ 140737488351232) : ∀ (d i k : Nat), i + d = 64 → d < k →
    impl_GetBits.l0 k a1 l (bitsOf l i) ((i + 1 : Nat) : Int) = some (bitsOf l 64, a1 + 8, true) := by
  intro d
  induction d with
  | zero =>
    intro i k hd hk
    obtain ⟨k, rfl⟩ : ∃ m, k = m + 1 := ⟨k - 1, by omega⟩
    have hi : i = 64 := by omega
    subst hi
    have e : wrap64 (a1 + 8) = a1 + 8 := by unfold wrap64; omega
    simp only [impl_GetBits.l0, e]
    rfl
  | succ d ih =>
    intro i k hd hk
    obtain ⟨k, rfl⟩ : ∃ m, k = m + 1 := ⟨k - 1, by omega⟩
    have ih' := ih (i + 1) k (by omega) (by omega)
    have hz := bitsOf_length l i
    have c0 : ((i + 1 : Nat) : Int) ≤ 64 := by omega
    have c1 : 0 ≤ ((i / 8 : Nat) : Int) := by omega
    have c2 : ((i / 8 : Nat) : Int) < (l.length : Int) := by omega
    have c3 : 0 ≤ ((i % 8 : Nat) : Int) := by omega
    have c4 : (bitsOf l i).length < 17592186044416 := by omega
    obtain ⟨b0, b1⟩ := hb _ (rd_mem l (i / 8) (by omega))
    rw [bitsOf_succ] at ih'
    have hbit := Aside0.mk (bit_impl (rd l ((i / 8 : Nat) : Int)) (i % 8) b0 b1 (by omega))
    have e1 : True → wrap64 (((i + 1 : Nat) : Int) - 1) = ((i : Nat) : Int) := by intro _; unfold wrap64; omega
    have e2 : True → Int.tdiv (i : Int) 8 = ((i / 8 : Nat) : Int) := by intro _; rw [Int.tdiv_eq_ediv_of_nonneg (by omega)]; omega
    have e3 : True → Int.tmod (i : Int) 8 = ((i % 8 : Nat) : Int) := by intro _; rw [Int.tmod_eq_emod_of_nonneg (by omega)]; omega
    have e4 : True → wrap64 ((i / 8 : Nat) : Int) = ((i / 8 : Nat) : Int) := fun _ => w64id (by omega) (by omega)
    have e7 : True → wrap64 (((i + 1 : Nat) : Int) + 1) = ((i + 1 + 1 : Nat) : Int) := by intro _; rw [w64id (by omega) (by omega)]; omega
    simp only [impl_GetBits.l0, if_pos c0, e1 trivial, e2 trivial, e3 trivial, e4 trivial, e7 trivial, if_pos c1, if_pos c2, if_pos c3, if_pos c4]
    generalize rd l ((i / 8 : Nat) : Int) = b at hbit ih'
    by_cases h : bitOn b (i % 8) = true
    · rw [if_neg (fun q => by rw [hbit.out.1 q] at h; exact Bool.false_ne_true h)]
      rw [if_pos h] at ih'
      exact ih'
    · rw [if_pos (hbit.out.2 (by simpa using h))]
      rw [if_neg h, List.append_nil] at ih'
      exact ih'
theorem impl_GetBits_at (l : List Int) (hl : l.length ≤ 140737488351232) (hb : ∀ c ∈ l, isByte c) (a1 : Int) (w1 : -9223372036854775808 ≤ a1 ∧ a1 ≤ 9223372036854775807) (k : Nat) (hk : 100 < k) :
    impl_GetBits.f k l a1 = some (getBits l a1) := by
  unfold impl_GetBits.f getBits
  rw [impl_piece_at]
  by_cases h2 : 0 ≤ a1 ∧ a1 ≤ (l.length : Int) - 8
  · rw [if_pos (by omega), if_pos h2, Option.bind_some, if_pos rfl]
    exact impl_GetBits_l (cutAt l a1.toNat 8) (cutAt_length _ _ _ (by omega)) (fun c hc => hb c (cutAt_mem _ _ _ c hc)) a1 h2.1 (by omega) 64 0 k (by omega) (by omega)
  · rw [if_neg (by omega), if_neg h2, Option.bind_some, if_neg (by simp)]
def orBit (x : List Int) (b : Int) : List Int := if 1 ≤ b ∧ b ≤ 64 then x.set ((b - 1) / 8).toNat (Go.bits .or .u8 (rd x ((b - 1) / 8)) (shr .u8 128 ((b - 1) % 8))) else x
def putBits (l : List Int) : List Int := l.foldl orBit (List.replicate 8 0)
theorem orBit_length (x : List Int) (b : Int) : (orBit x b).length = x.length := by
  unfold orBit
  split
  · simp
  · rfl
theorem putBits_foldl_length (l : List Int) : ∀ x : List Int, (l.foldl orBit x).length = x.length := by
  induction l with
  | nil => intro x; rfl
  | cons b t ih => intro x; rw [List.foldl_cons, ih, orBit_length]
theorem putBits_length (l : List Int) : (putBits l).length = 8 := by
  unfold putBits
  rw [putBits_foldl_length]
  simp
theorem or_bit (b : Int) (i j : Nat) (h0 : 0 ≤ b) (h1 : b ≤ 255) (h2 : i < 8) (h3 : j < 8) : bitOn (Go.bits .or .u8 b (shr .u8 128 (i : Int))) j = (bitOn b j || decide (i = j)) := by
  have h : ∀ (i j : Fin 8) (b : Fin 256), bitOn (Go.bits .or .u8 ((b.val : Nat) : Int) (shr .u8 128 ((i.val : Nat) : Int))) j.val = (bitOn ((b.val : Nat) : Int) j.val || decide (i.val = j.val)) := by decide +kernel
  have := h ⟨i, h2⟩ ⟨j, h3⟩ ⟨b.toNat, by omega⟩
  have e : ((b.toNat : Nat) : Int) = b := by omega
  simpa only [e] using this
theorem or_byte (b : Int) (i : Nat) (h0 : 0 ≤ b) (h1 : b ≤ 255) (h2 : i < 8) : isByte (Go.bits .or .u8 b (shr .u8 128 (i : Int))) := by
  have h : ∀ (i : Fin 8) (b : Fin 256), decide (0 ≤ Go.bits .or .u8 ((b.val : Nat) : Int) (shr .u8 128 ((i.val : Nat) : Int)) ∧ Go.bits .or .u8 ((b.val : Nat) : Int) (shr .u8 128 ((i.val : Nat) : Int)) ≤ 255) = true := by decide +kernel
  have := h ⟨i, h2⟩ ⟨b.toNat, by omega⟩
  have e : ((b.toNat : Nat) : Int) = b := by omega
  rw [e] at this
  have h3 := of_decide_eq_true this
  exact h3
theorem orBit_bytes (x : List Int) (hx : x.length = 8) (hb : ∀ c ∈ x, isByte c) (b : Int) : ∀ c ∈ orBit x b, isByte c := by
  unfold orBit
  split
  · rename_i h
    intro c hc
    rcases List.mem_or_eq_of_mem_set hc with hc | rfl
    · exact hb c hc
    · have e1 : (b - 1) / 8 = (((b - 1) / 8).toNat : Int) := by omega
      have e2 : (b - 1) % 8 = (((b - 1) % 8).toNat : Int) := by omega
      have hr := hb _ (rd_mem x ((b - 1) / 8).toNat (by omega))
      rw [e1, e2]
      exact or_byte _ _ hr.1 hr.2 (by omega)
  · exact hb
theorem orBit_bit (x : List Int) (hx : x.length = 8) (hb : ∀ c ∈ x, isByte c) (b : Int) (n : Nat) (hn : n < 64) : bitOn (rd (orBit x b) ((n / 8 : Nat) : Int)) (n % 8) = (bitOn (rd x ((n / 8 : Nat) : Int)) (n % 8) || decide (b = ((n + 1 : Nat) : Int))) := by
  unfold orBit
  by_cases h : 1 ≤ b ∧ b ≤ 64
  · rw [if_pos h]
    obtain ⟨m, hm⟩ : ∃ m : Nat, b = ((m + 1 : Nat) : Int) := ⟨(b - 1).toNat, by omega⟩
    subst hm
    have e1 : (((m + 1 : Nat) : Int) - 1) / 8 = ((m / 8 : Nat) : Int) := by omega
    have e2 : (((m + 1 : Nat) : Int) - 1) % 8 = ((m % 8 : Nat) : Int) := by omega
    rw [e1, e2, Int.toNat_natCast]
    by_cases q : n / 8 = m / 8
    · rw [q, rd_set_same _ _ _ (by omega)]
      have hr := hb _ (rd_mem x (m / 8) (by omega))
      rw [or_bit _ _ _ hr.1 hr.2 (by omega) (by omega)]
      congr 1
      apply decide_eq_decide.2
      omega
    · rw [rd_set_other _ _ _ _ q]
      have : decide (((m + 1 : Nat) : Int) = ((n + 1 : Nat) : Int)) = false := decide_eq_false (by omega)
      rw [this, Bool.or_false]
  · rw [if_neg h]
    have : decide (b = ((n + 1 : Nat) : Int)) = false := decide_eq_false (by omega)
    rw [this, Bool.or_false]
theorem putBits_fold (l : List Int) : ∀ (x : List Int), x.length = 8 → (∀ c ∈ x, isByte c) → (∀ c ∈ l.foldl orBit x, isByte c) ∧ ∀ n : Nat, n < 64 → bitOn (rd (l.foldl orBit x) ((n / 8 : Nat) : Int)) (n % 8) = (bitOn (rd x ((n / 8 : Nat) : Int)) (n % 8) || decide (((n + 1 : Nat) : Int) ∈ l)) := by
  induction l with
  | nil => intro x hx hb; exact ⟨hb, fun n _ => by simp⟩
  | cons b t ih =>
    intro x hx hb
    obtain ⟨h1, h2⟩ := ih (orBit x b) (by rw [orBit_length, hx]) (orBit_bytes x hx hb b)
    refine ⟨h1, fun n hn => ?_⟩
    rw [List.foldl_cons, h2 n hn, orBit_bit x hx hb b n hn, Bool.or_assoc]
    congr 1
    rw [← Bool.decide_or]
    apply decide_eq_decide.2
    rw [List.mem_cons]
    exact ⟨fun h => h.imp Eq.symm id, fun h => h.imp Eq.symm id⟩
theorem putBits_bytes (l : List Int) : ∀ c ∈ putBits l, isByte c :=
  (putBits_fold l (List.replicate 8 0) (by simp) (fun c hc => by rw [(List.mem_replicate.1 hc).2]; exact ⟨by decide, by decide⟩)).1
theorem putBits_bit (l : List Int) (n : Nat) (hn : n < 64) : bitOn (rd (putBits l) ((n / 8 : Nat) : Int)) (n % 8) = decide (((n + 1 : Nat) : Int) ∈ l) := by
  have h := (putBits_fold l (List.replicate 8 0) (by simp) (fun c hc => by rw [(List.mem_replicate.1 hc).2]; exact ⟨by decide, by decide⟩)).2 n hn
  have z : bitOn (rd (List.replicate 8 0) ((n / 8 : Nat) : Int)) (n % 8) = false := by
    have h : ∀ n : Fin 64, bitOn (rd (List.replicate 8 0) ((n.val / 8 : Nat) : Int)) (n.val % 8) = false := by decide +kernel
    exact h ⟨n, hn⟩
  unfold putBits
  rw [h, z, Bool.false_or]
theorem bitsOf_sorted (l : List Int) (m : Nat) : (bitsOf l m).Pairwise (fun x y => x < y) := by
  unfold bitsOf
  rw [List.pairwise_map]
  refine List.Pairwise.filter _ (List.Pairwise.imp ?_ List.pairwise_lt_range)
  intro a b h
  omega
theorem mem_bitsOf (l : List Int) (n : Nat) (hn : n < 64) : ((n + 1 : Nat) : Int) ∈ bitsOf l 64 ↔ bitOn (rd l ((n / 8 : Nat) : Int)) (n % 8) = true := by
  unfold bitsOf
  rw [List.mem_map]
  constructor
  · rintro ⟨i, hi, e⟩
    have : i = n := by omega
    subst this
    exact (List.mem_filter.1 hi).2
  · intro h
    exact ⟨n, List.mem_filter.2 ⟨List.mem_range.2 hn, h⟩, rfl⟩
theorem bitsOf_in (l : List Int) (m : Nat) : ∀ c ∈ bitsOf l m, 1 ≤ c ∧ c ≤ (m : Int) := by
  intro c hc
  unfold bitsOf at hc
  obtain ⟨i, hi, rfl⟩ := List.mem_map.1 hc
  have := List.mem_range.1 (List.mem_filter.1 hi).1
  omega
theorem byte_ext (a b : Int) (ha : isByte a) (hb : isByte b) (h : ∀ j, j < 8 → bitOn a j = bitOn b j) : a = b := by
  have h1 : ∀ a : Fin 256, (((a.val : Nat) : Int) = (if bitOn (a.val : Int) 0 then 128 else 0) + (if bitOn (a.val : Int) 1 then 64 else 0) + (if bitOn (a.val : Int) 2 then 32 else 0) + (if bitOn (a.val : Int) 3 then 16 else 0) + (if bitOn (a.val : Int) 4 then 8 else 0) + (if bitOn (a.val : Int) 5 then 4 else 0) + (if bitOn (a.val : Int) 6 then 2 else 0) + (if bitOn (a.val : Int) 7 then 1 else 0)) := by decide +kernel
  unfold isByte at ha hb
  have p := h1 ⟨a.toNat, by omega⟩
  have q := h1 ⟨b.toNat, by omega⟩
  have ea : ((a.toNat : Nat) : Int) = a := by omega
  have eb : ((b.toNat : Nat) : Int) = b := by omega
  simp only [ea] at p
  simp only [eb] at q
  rw [p, q, h 0 (by omega), h 1 (by omega), h 2 (by omega), h 3 (by omega), h 4 (by omega), h 5 (by omega), h 6 (by omega), h 7 (by omega)]
theorem putBits_bitsOf (u l : List Int) (hu : u.length = 8) (hb : ∀ c ∈ u, isByte c) (hm : ∀ c, 1 ≤ c → c ≤ 64 → (c ∈ l ↔ c ∈ bitsOf u 64)) : putBits l = u := by
  apply List.ext_getElem
  · rw [putBits_length, hu]
  intro i h1 h2
  have hi : i < 8 := by omega
  refine byte_ext _ _ (putBits_bytes l _ (List.getElem_mem h1)) (hb _ (List.getElem_mem h2)) (fun j hj => ?_)
  rw [← rd_nat _ i h1, ← rd_nat _ i h2]
  have e1 : (i * 8 + j) / 8 = i := by omega
  have e2 : (i * 8 + j) % 8 = j := by omega
  have p := putBits_bit l (i * 8 + j) (by omega)
  have q := mem_bitsOf u (i * 8 + j) (by omega)
  rw [e1, e2] at p q
  rw [p]
  cases hz : bitOn (rd u (i : Int)) j with
  | true => exact decide_eq_true ((hm _ (by omega) (by omega)).2 (q.2 hz))
  | false =>
    refine decide_eq_false (fun h => ?_)
    have := q.1 ((hm _ (by omega) (by omega)).1 h)
    rw [hz] at this
    exact absurd this (by simp)
abbrev IF := S79
theorem rdF_nat (l : List IF) (n : Nat) (h : n < l.length) : rd_T79 l (n : Int) = l[n] := by
  unfold rd_T79
  simp [List.getD, h]
theorem dropF (l : List IF) (n : Nat) (h : n < l.length) : l.drop n = rd_T79 l (n : Int) :: l.drop (n + 1) := by
  rw [List.drop_eq_getElem_cons h, rdF_nat l n h]
theorem rdF_mem (l : List IF) (n : Nat) (h : n < l.length) : rd_T79 l (n : Int) ∈ l := by
  rw [rdF_nat l n h]
  exact List.getElem_mem h
theorem w64s {n : Nat} (h : n ≤ 140737488351232) : wrap64 ((n : Int) + 1) = ((n + 1 : Nat) : Int) := by unfold wrap64; omega
def okFrom : Option Int → List IF → Bool
  | _, [] => true
  | p, f :: t => fieldOk f.f0 (bytesOf f.f1) && (match p with | none => true | some q => decide (q < f.f0)) && okFrom (some f.f0) t
theorem okFrom_cons (p : Option Int) (f : IF) (t : List IF) : okFrom p (f :: t) = (fieldOk f.f0 (bytesOf f.f1) && (match p with | none => true | some q => decide (q < f.f0)) && okFrom (some f.f0) t) := by
  cases p <;> rfl
def isMti (m : ByteArray) : Bool := digs (bytesOf m) && decide (m.size = 4)
def msgOk (m : ByteArray) (l : List IF) : Bool := isMti m && okFrom none l
def prevOf (l : List IF) (n : Nat) : Option Int := if n = 0 then none else some (rd_T79 l (((n - 1 : Nat)) : Int)).f0
theorem spec_MsgOk_l (m : ByteArray) (l : List IF) (hl : l.length ≤ 10000000) (B : Nat) (hB : B ≤ 10000000) (hw : ∀ f ∈ l, f.f1.size ≤ B) : ∀ (d n k : Nat), n + d = l.length → d + B + 30 < k →
    spec_MsgOk.l0 k l (l.length : Int) (n : Int) m l = some (okFrom (prevOf l n) (l.drop n)) := by
  intro d
  induction d with
  | zero =>
    intro n k hd hk
    obtain ⟨k, rfl⟩ : ∃ m, k = m + 1 := ⟨k - 1, by omega⟩
    have c1 : ¬ (n : Int) < (l.length : Int) := by omega
    simp only [spec_MsgOk.l0, if_neg c1]
    rw [List.drop_of_length_le (by omega)]
    rfl
  | succ d ih =>
    intro n k hd hk
    obtain ⟨k, rfl⟩ : ∃ m, k = m + 1 := ⟨k - 1, by omega⟩
    have c1 : (n : Int) < (l.length : Int) := by omega
    have c2 : 0 ≤ (n : Int) := by omega
    have hs := hw _ (rdF_mem l n (by omega))
    have hp : prevOf l (n + 1) = some (rd_T79 l (n : Int)).f0 := by unfold prevOf; rw [if_neg (by omega)]; rfl
    have ih' := ih (n + 1) k (by omega) (by omega)
    rw [hp] at ih'
    rw [dropF l n (by omega), okFrom_cons]
    simp only [spec_MsgOk.l0, if_pos c1, if_pos c2, w64s (n := n) (by omega)]
    rw [spec_FieldOk_at _ _ (by omega) k (by omega), Option.bind_some]
    by_cases h : fieldOk (rd_T79 l (n : Int)).f0 (bytesOf (rd_T79 l (n : Int)).f1) = true
    · rw [if_pos h, h, Bool.true_and]
      by_cases h0 : n = 0
      · have hpn : prevOf l n = none := by unfold prevOf; rw [if_pos h0]
        rw [if_neg (by omega), hpn, ih', Bool.true_and]
      · have hpn : prevOf l n = some (rd_T79 l ((n - 1 : Nat) : Int)).f0 := by unfold prevOf; rw [if_neg h0]
        have e : wrap64 ((n : Int) - 1) = ((n - 1 : Nat) : Int) := by rw [w64id (by omega) (by omega)]; omega
        rw [if_pos (by omega), e, if_pos (by omega), if_pos (by omega), hpn, ih']
        generalize (rd_T79 l (n : Int)).f0 = u
        generalize (rd_T79 l ((n - 1 : Nat) : Int)).f0 = v
        by_cases g : v ≥ u
        · rw [if_pos g]
          have : decide (v < u) = false := decide_eq_false (by omega)
          simp only [this, Bool.false_and]
        · rw [if_neg g]
          have : decide (v < u) = true := decide_eq_true (by omega)
          simp only [this, Bool.true_and]
    · rw [if_neg h]
      simp [h]
theorem impl_MsgOk_l (m : ByteArray) (hm : m.size ≤ 10000000) (l : List IF) (hl : l.length ≤ 10000000) (B : Nat) (hB : B ≤ 10000000) (hw : ∀ f ∈ l, f.f1.size ≤ B) : ∀ (d n k : Nat), n + d = l.length → d + B + m.size + 30 < k →
    impl_MsgOk.l0 k l (l.length : Int) (n : Int) m l = some (okFrom (prevOf l n) (l.drop n) && isMti m) := by
  intro d
  induction d with
  | zero =>
    intro n k hd hk
    obtain ⟨k, rfl⟩ : ∃ m, k = m + 1 := ⟨k - 1, by omega⟩
    have c1 : ¬ (n : Int) < (l.length : Int) := by omega
    simp only [impl_MsgOk.l0, if_neg c1]
    rw [List.drop_of_length_le (by omega)]
    unfold impl_isWide.f isMti
    rw [impl_Digits_at m (by omega) k (by omega), Option.bind_some]
    have e : ((m.size : Int) == 4) = decide (m.size = 4) := by
      by_cases h : m.size = 4
      · rw [h]; rfl
      · have h' : ¬ (m.size : Int) = 4 := by omega
        rw [decide_eq_false h]
        simpa using h'
    rw [e]
    cases digs (bytesOf m) <;> simp [okFrom]
  | succ d ih =>
    intro n k hd hk
    obtain ⟨k, rfl⟩ : ∃ m, k = m + 1 := ⟨k - 1, by omega⟩
    have c1 : (n : Int) < (l.length : Int) := by omega
    have c2 : 0 ≤ (n : Int) := by omega
    have hs := hw _ (rdF_mem l n (by omega))
    have hp : prevOf l (n + 1) = some (rd_T79 l (n : Int)).f0 := by unfold prevOf; rw [if_neg (by omega)]; rfl
    have ih' := ih (n + 1) k (by omega) (by omega)
    rw [hp] at ih'
    rw [dropF l n (by omega), okFrom_cons]
    simp only [impl_MsgOk.l0, if_pos c1, if_pos c2, w64s (n := n) (by omega)]
    rw [impl_FieldOk_at _ _ (by omega) k (by omega), Option.bind_some]
    by_cases h : fieldOk (rd_T79 l (n : Int)).f0 (bytesOf (rd_T79 l (n : Int)).f1) = true
    · rw [if_pos h, h, Bool.true_and]
      by_cases h0 : n = 0
      · have hpn : prevOf l n = none := by unfold prevOf; rw [if_pos h0]
        rw [if_neg (by omega), hpn, ih', Bool.true_and]
      · have hpn : prevOf l n = some (rd_T79 l ((n - 1 : Nat) : Int)).f0 := by unfold prevOf; rw [if_neg h0]
        have e : wrap64 ((n : Int) - 1) = ((n - 1 : Nat) : Int) := by rw [w64id (by omega) (by omega)]; omega
        rw [if_pos (by omega), e, if_pos (by omega), if_pos (by omega), hpn, ih']
        generalize (rd_T79 l (n : Int)).f0 = u
        generalize (rd_T79 l ((n - 1 : Nat) : Int)).f0 = v
        by_cases g : u ≤ v
        · rw [if_pos g]
          have : decide (v < u) = false := decide_eq_false (by omega)
          simp only [this, Bool.false_and]
        · rw [if_neg g]
          have : decide (v < u) = true := decide_eq_true (by omega)
          simp only [this, Bool.true_and]
    · rw [if_neg h]
      simp [h]
theorem spec_MsgOk_at (m : ByteArray) (l : List IF) (hm : m.size ≤ 10000000) (hl : l.length ≤ 10000000) (B : Nat) (hB : B ≤ 10000000) (hw : ∀ f ∈ l, f.f1.size ≤ B) (k : Nat) (hk : l.length + B + m.size + 40 < k) : spec_MsgOk.f k m l = some (msgOk m l) := by
  obtain ⟨k, rfl⟩ : ∃ m, k = m + 1 := ⟨k - 1, by omega⟩
  unfold spec_MsgOk.f msgOk isMti
  rw [spec_Digits_at m (by omega) _ (by omega), Option.bind_some]
  by_cases h : digs (bytesOf m) = true
  · rw [if_pos h, h, Bool.true_and, spec_MsgOk.j0]
    by_cases h4 : m.size = 4
    · have e : ((m.size : Int) != 4) = false := by rw [h4]; rfl
      rw [e, decide_eq_true h4, Bool.true_and, if_neg (by simp)]
      exact spec_MsgOk_l m l hl B hB hw l.length 0 k (by omega) (by omega)
    · have e : ((m.size : Int) != 4) = true := by simp; omega
      rw [e, decide_eq_false h4, Bool.false_and, if_pos rfl]
  · rw [if_neg h, spec_MsgOk.j0, if_pos rfl]
    simp [h]
theorem impl_MsgOk_at (m : ByteArray) (l : List IF) (hm : m.size ≤ 10000000) (hl : l.length ≤ 10000000) (B : Nat) (hB : B ≤ 10000000) (hw : ∀ f ∈ l, f.f1.size ≤ B) (k : Nat) (hk : l.length + B + m.size + 40 < k) : impl_MsgOk.f k m l = some (msgOk m l) := by
  unfold impl_MsgOk.f
  have h := impl_MsgOk_l m hm l hl B hB hw l.length 0 k (by omega) (by omega)
  unfold msgOk
  rw [Bool.and_comm]
  exact h
def lowOf (l : List IF) : List Int := (l.filter fun f => decide (f.f0 ≤ 64)).map fun f => f.f0
def highOf (l : List IF) : List Int := (l.filter fun f => !decide (f.f0 ≤ 64)).map fun f => f.f0 - 64
def bodyOf : List IF → List Int
  | [] => []
  | f :: t => (putField f.f0 (bytesOf f.f1)).1 ++ bodyOf t
def headOf (l : List IF) : List Int := if highOf l = [] then putBits (lowOf l) else putBits (lowOf l ++ [1]) ++ putBits (highOf l)
def encode (m : ByteArray) (l : List IF) : List Int × Bool := if msgOk m l = true then (bcd (evened (bytesOf m)) ++ headOf l ++ bodyOf l, true) else ([], false)
theorem headOf_bytes (l : List IF) : ∀ c ∈ headOf l, isByte c := by
  unfold headOf
  split
  · exact putBits_bytes _
  · intro c hc
    rcases List.mem_append.1 hc with hc | hc
    · exact putBits_bytes _ c hc
    · exact putBits_bytes _ c hc
theorem headOf_length (l : List IF) : (headOf l).length = if highOf l = [] then 8 else 16 := by
  unfold headOf
  split
  · exact putBits_length _
  · rw [List.length_append, putBits_length, putBits_length]
theorem bodyOf_bytes : ∀ (l : List IF), ∀ c ∈ bodyOf l, isByte c := by
  intro l
  induction l with
  | nil => intro c hc; cases hc
  | cons f t ih =>
    intro c hc
    rw [bodyOf] at hc
    rcases List.mem_append.1 hc with hc | hc
    · exact putField_bytes _ _ (bytesOf_range _) c hc
    · exact ih c hc
theorem bodyOf_len : ∀ (l : List IF), (bodyOf l).length ≤ 100 * l.length := by
  intro l
  induction l with
  | nil => simp [bodyOf]
  | cons f t ih =>
    rw [bodyOf, List.length_append, List.length_cons]
    have := putField_len f.f0 (bytesOf f.f1)
    omega
theorem isMti_facts (m : ByteArray) (h : isMti m = true) : (bytesOf m).all isDig = true ∧ (bytesOf m).length = 4 := by
  unfold isMti at h
  simp only [Bool.and_eq_true, decide_eq_true_eq] at h
  exact ⟨(digs_and _ h.1).1, by rw [bytesOf_length]; exact h.2⟩
theorem encode_bytes (m : ByteArray) (l : List IF) : ∀ c ∈ (encode m l).1, isByte c := by
  unfold encode
  split
  · rename_i h
    unfold msgOk at h
    simp only [Bool.and_eq_true] at h
    obtain ⟨h1, h2⟩ := isMti_facts m h.1
    intro c hc
    simp only [List.mem_append] at hc
    rcases hc with (hc | hc) | hc
    · exact (getBcd_putBcd _ h1 (by omega) (by omega)).2.2.1 c hc
    · exact headOf_bytes l c hc
    · exact bodyOf_bytes l c hc
  · intro c hc; cases hc
theorem encode_len (m : ByteArray) (l : List IF) (h : msgOk m l = true) : 10 ≤ (encode m l).1.length ∧ (encode m l).1.length ≤ 18 + 100 * l.length := by
  unfold encode
  rw [if_pos h]
  unfold msgOk at h
  simp only [Bool.and_eq_true] at h
  obtain ⟨h1, h2⟩ := isMti_facts m h.1
  have p := (getBcd_putBcd _ h1 (by omega) (by omega)).2.1
  have q := headOf_length l
  have r := bodyOf_len l
  simp only [List.length_append]
  split at q <;> omega
def lowNos (l : List Int) : List Int := l.filter fun c => !decide (c = 1)
def kindsOk (l : List Int) : Bool := l.all fun c => !decide (kindOf c = 0)
def above (l : List Int) : List Int := l.map fun c => c + 64
def parseNos (l : List Int) : List Int × Int × Bool :=
  if (getBits l 2).2.2 = true then
    (if decide (1 ∈ (getBits l 2).1) = true then
      (if (getBits l (getBits l 2).2.1).2.2 = true ∧ ¬ (getBits l (getBits l 2).2.1).1 = [] ∧ kindsOk (lowNos (getBits l 2).1 ++ above (getBits l (getBits l 2).2.1).1) = true then
        (lowNos (getBits l 2).1 ++ above (getBits l (getBits l 2).2.1).1, (getBits l (getBits l 2).2.1).2.1, true) else ([], 0, false))
     else if kindsOk (lowNos (getBits l 2).1) = true then (lowNos (getBits l 2).1, (getBits l 2).2.1, true) else ([], 0, false))
  else ([], 0, false)
def parseFields (l : List Int) (m : ByteArray) : List Int → Int → List IF → ByteArray × List IF × Int
  | [], a, y => if a = (l.length : Int) then (m, y, 0) else (⟨#[]⟩, [], 4)
  | x :: t, a, y => if (getField l a x).2.2 = true then parseFields l m t (getField l a x).2.1 (y ++ [⟨x, strOfNums (getField l a x).1⟩]) else (⟨#[]⟩, [], 3)
def parse (l : List Int) : ByteArray × List IF × Int :=
  if (getBcd l 0 4).2.2 = true then
    (if (parseNos l).2.2 = true then parseFields l (strOfNums (getBcd l 0 4).1) (parseNos l).1 (parseNos l).2.1 [] else (⟨#[]⟩, [], 2))
  else (⟨#[]⟩, [], 1)
theorem getField_at (l : List Int) (a x : Int) (hb : ∀ c ∈ l, isByte c) (h : (getField l a x).2.2 = true) : 0 ≤ (getField l a x).2.1 ∧ (getField l a x).2.1 ≤ (l.length : Int) := by
  unfold getField at h ⊢
  split at h
  · rename_i q
    rw [if_pos q]
    unfold gfFin at h ⊢
    split at h
    · rename_i z
      rw [if_pos z]
      have z1 := z.1
      revert z1
      generalize (gfHead l a x).2.1 = b
      generalize (gfHead l a x).1 = n
      intro z1
      simp only
      unfold gfBody at z1 ⊢
      split at z1
      · rename_i d
        rw [if_pos d]
        obtain ⟨_, _, _, p4, p5, p6, p7, p8⟩ := getBcd_ok l b n hb z1
        omega
      · rename_i d
        rw [if_neg d]
        unfold pieceAt at z1 ⊢
        split at z1
        · rename_i g
          rw [if_pos g]
          simp only
          omega
        · exact absurd z1 (by simp)
    · exact absurd h (by simp)
  · exact absurd h (by simp)
theorem bitsOf_mem (l : List Int) (m : Nat) : ∀ c ∈ bitsOf l m, 1 ≤ c ∧ c ≤ (m : Int) := by
  intro c hc
  unfold bitsOf at hc
  obtain ⟨i, hi, rfl⟩ := List.mem_map.1 hc
  have := List.mem_range.1 (List.mem_filter.1 hi).1
  omega
theorem getBits_facts (l : List Int) (a : Int) : (getBits l a).1.length ≤ 64 ∧ (∀ c ∈ (getBits l a).1, 1 ≤ c ∧ c ≤ 64) ∧ ((getBits l a).2.2 = true → (getBits l a).2.1 = a + 8 ∧ a + 8 ≤ (l.length : Int) ∧ 0 ≤ a) ∧ ((getBits l a).2.2 = false → getBits l a = ([], 0, false)) := by
  unfold getBits
  by_cases q : 0 ≤ a ∧ a ≤ (l.length : Int) - 8
  · rw [if_pos q]
    exact ⟨bitsOf_length _ _, bitsOf_mem _ _, fun _ => ⟨rfl, by omega, q.1⟩, fun h => absurd h (by simp)⟩
  · rw [if_neg q]
    exact ⟨by simp, by simp, fun h => absurd h (by simp), fun _ => rfl⟩
theorem impl_Parse_l2 (l : List Int) (hl : l.length ≤ 140737488351232) (hb : ∀ c ∈ l, isByte c) (m : ByteArray) (nos : List Int) (hn : nos.length ≤ 1000) : ∀ (d n k : Nat) (a : Int) (y : List IF), n + d = nos.length → y.length ≤ n → 0 ≤ a → a ≤ (l.length : Int) → d + 1200 < k →
    impl_Parse.l2 k l a nos (nos.length : Int) (n : Int) m y = some (parseFields l m (nos.drop n) a y) := by
  intro d
  induction d with
  | zero =>
    intro n k a y hd hy h0 h1 hk
    obtain ⟨k, rfl⟩ : ∃ m, k = m + 1 := ⟨k - 1, by omega⟩
    rw [impl_Parse.l2, if_neg (by omega), List.drop_eq_nil_of_le (by omega), parseFields]
    split <;> rfl
  | succ d ih =>
    intro n k a y hd hy h0 h1 hk
    obtain ⟨k, rfl⟩ : ∃ m, k = m + 1 := ⟨k - 1, by omega⟩
    rw [impl_Parse.l2, if_pos (by omega), if_pos (by omega), if_pos (by omega), drop_rd nos n (by omega), parseFields, impl_GetField_at l hl hb a _ (by omega) k (by omega), Option.bind_some]
    unfold asStr
    simp only
    by_cases q : (getField l a (rd nos (n : Int))).2.2 = true
    · have e : wrap64 ((n : Int) + 1) = ((n + 1 : Nat) : Int) := by unfold wrap64; omega
      have hp := getField_at l a _ hb q
      rw [if_pos q, if_pos q, if_pos (by omega), e]
      exact ih (n + 1) k _ _ (by omega) (by simp; omega) hp.1 hp.2 (by omega)
    · rw [if_neg q, if_neg q]
theorem w64n {n : Nat} (h : n ≤ 1000000) : wrap64 ((n : Int) + 1) = ((n + 1 : Nat) : Int) := by unfold wrap64; omega
theorem lowNos_cons (c : Int) (t : List Int) : lowNos (c :: t) = if c = 1 then lowNos t else c :: lowNos t := by
  unfold lowNos
  by_cases h : c = 1 <;> simp [h]
theorem kindsOk_cons (c : Int) (t : List Int) : kindsOk (c :: t) = (!decide (kindOf c = 0) && kindsOk t) := by simp [kindsOk]
theorem kindsOk_append (s t : List Int) : kindsOk (s ++ t) = (kindsOk s && kindsOk t) := by simp [kindsOk, List.all_append]
theorem impl_Parse_l0 (l : List Int) (m : ByteArray) (a : Int) (u : List Int) (hu : u.length ≤ 100) : ∀ (d n k : Nat) (x : List Int) (more : Bool), n + d = u.length → x.length ≤ n → 30 ≤ k →
    impl_Parse.l0 (k + d) l m a x more u (u.length : Int) (n : Int) = if kindsOk (lowNos (u.drop n)) = true then impl_Parse.l0 k l m a (x ++ lowNos (u.drop n)) (more || decide (1 ∈ u.drop n)) u (u.length : Int) (u.length : Int) else some (⟨#[]⟩, [], 2) := by
  intro d
  induction d with
  | zero =>
    intro n k x more hd hx hk
    have e : n = u.length := by omega
    subst e
    rw [List.drop_eq_nil_of_le (Nat.le_refl _)]
    simp [lowNos, kindsOk]
  | succ d ih =>
    intro n k x more hd hx hk
    rw [show k + (d + 1) = (k + d) + 1 by omega, impl_Parse.l0, if_pos (by omega), if_pos (by omega), if_pos (by omega), drop_rd u n (by omega), lowNos_cons, w64n (by omega)]
    by_cases q : rd u (n : Int) = 1
    · rw [if_pos q, if_pos q, ih (n + 1) k x true (by omega) (by omega) hk]
      simp [q]
    · rw [if_neg q, if_neg q, impl_FieldKind_at _ _ (by omega), Option.bind_some, kindsOk_cons]
      by_cases z : kindOf (rd u (n : Int)) = 0
      · rw [if_pos z, if_neg (by simp [z])]
      · have e : decide (1 ∈ rd u (n : Int) :: u.drop (n + 1)) = decide (1 ∈ u.drop (n + 1)) := by
          apply decide_eq_decide.2
          rw [List.mem_cons]
          exact ⟨fun h => h.resolve_left (fun z => q z.symm), Or.inr⟩
        rw [if_neg z, if_pos (by omega), ih (n + 1) k _ more (by omega) (by simp; omega) hk, List.append_assoc, List.singleton_append, e, decide_eq_false z, Bool.not_false, Bool.true_and]
theorem impl_Parse_l1 (l : List Int) (m : ByteArray) (a : Int) (u : List Int) (hu : u.length ≤ 100) (hr : ∀ c ∈ u, 1 ≤ c ∧ c ≤ 64) : ∀ (d n k : Nat) (x : List Int), n + d = u.length → x.length ≤ n + 100 → 30 ≤ k →
    impl_Parse.l1 (k + d) l m a x u (u.length : Int) (n : Int) = if kindsOk (above (u.drop n)) = true then impl_Parse.l1 k l m a (x ++ above (u.drop n)) u (u.length : Int) (u.length : Int) else some (⟨#[]⟩, [], 2) := by
  intro d
  induction d with
  | zero =>
    intro n k x hd hx hk
    have e : n = u.length := by omega
    subst e
    rw [List.drop_eq_nil_of_le (Nat.le_refl _)]
    simp [above, kindsOk]
  | succ d ih =>
    intro n k x hd hx hk
    have h := hr _ (rd_mem u n (by omega))
    have e : wrap64 (rd u (n : Int) + 64) = rd u (n : Int) + 64 := by unfold wrap64; omega
    have ea : above (rd u (n : Int) :: u.drop (n + 1)) = (rd u (n : Int) + 64) :: above (u.drop (n + 1)) := rfl
    rw [show k + (d + 1) = (k + d) + 1 by omega, impl_Parse.l1, if_pos (by omega), if_pos (by omega), if_pos (by omega), e, impl_FieldKind_at _ _ (by omega), Option.bind_some, drop_rd u n (by omega), ea, kindsOk_cons]
    by_cases z : kindOf (rd u (n : Int) + 64) = 0
    · rw [if_pos z, if_neg (by simp [z])]
    · rw [if_neg z, if_pos (by omega), w64n (by omega), ih (n + 1) k _ (by omega) (by simp; omega) hk, List.append_assoc, List.singleton_append, decide_eq_false z, Bool.not_false, Bool.true_and]
theorem getBcd4_at (l : List Int) (hb : ∀ c ∈ l, isByte c) (h : (getBcd l 0 4).2.2 = true) : (getBcd l 0 4).2.1 = 2 := by
  have := (getBcd_ok l 0 4 hb h).2.2.2.1
  omega
theorem impl_Parse_at (l : List Int) (hl : l.length ≤ 140737488351232) (hb : ∀ c ∈ l, isByte c) (k : Nat) (hk : 2000 ≤ k) : impl_Parse.f k l = some (parse l) := by
  unfold impl_Parse.f parse
  rw [impl_GetBcd_at l hl hb 0 4 (by omega) (by omega) k (by omega), Option.bind_some]
  unfold asStr
  simp only
  by_cases q : (getBcd l 0 4).2.2 = true
  · rw [if_pos q, if_pos q, getBcd4_at l hb q, impl_GetBits_at l hl hb 2 (by omega) k (by omega), Option.bind_some]
    generalize strOfNums (getBcd l 0 4).1 = m
    unfold parseNos
    obtain ⟨b1, b2, b3, _⟩ := getBits_facts l 2
    cases hg : (getBits l 2).2.2 with
    | false =>
      rw [if_neg (by simp)]
      simp
    | true =>
      obtain ⟨b4, b5, _⟩ := b3 hg
      rw [if_pos rfl]
      simp only [if_true]
      rw [b4]
      generalize (getBits l 2).1 = u at b1 b2
      have h0 := impl_Parse_l0 l m (2 + 8) u (by omega) u.length 0 (k - u.length) [] false (by omega) (by simp) (by omega)
      rw [show k - u.length + u.length = k by omega, List.drop_zero, List.nil_append, Bool.false_or] at h0
      refine h0.trans ?_
      have hk2 : 1900 ≤ k - u.length := by omega
      generalize k - u.length = k at hk2
      obtain ⟨k, rfl⟩ : ∃ m, k = m + 2 := ⟨k - 2, by omega⟩
      have hz : (lowNos u).length ≤ 64 := Nat.le_trans (List.length_filter_le _ _) b1
      have hj3 : ∀ (k : Nat) (a : Int) (x : List Int), x.length ≤ 200 → 1500 ≤ k → 0 ≤ a → a ≤ (l.length : Int) → impl_Parse.j3 k l m a x = some (parseFields l m x a []) := by
        intro k a x hx hk ha1 ha2
        obtain ⟨k, rfl⟩ : ∃ m, k = m + 1 := ⟨k - 1, by omega⟩
        rw [impl_Parse.j3]
        exact impl_Parse_l2 l hl hb m x (by omega) x.length 0 k a [] (by omega) (by simp) ha1 ha2 (by omega)
      by_cases hlow : kindsOk (lowNos u) = true
      · rw [if_pos hlow, impl_Parse.l0, if_neg (by omega)]
        by_cases hm : decide (1 ∈ u) = true
        · rw [if_pos hm, if_pos hm, impl_GetBits_at l hl hb (2 + 8) (by omega) (k + 1) (by omega), Option.bind_some]
          obtain ⟨c1, c2, c3, _⟩ := getBits_facts l (2 + 8)
          cases hg2 : (getBits l (2 + 8)).2.2 with
          | false => rw [if_neg (by simp), impl_Parse.j1, if_pos rfl]; simp
          | true =>
            obtain ⟨c4, c5, _⟩ := c3 hg2
            rw [if_pos rfl, impl_Parse.j1, c4]
            generalize (getBits l (2 + 8)).1 = v at c1 c2
            by_cases hv : v = []
            · subst hv
              rw [if_pos (show ((([] : List Int).length : Int) == 0) = true from rfl)]
              simp
            · have hv2 : ((v.length : Int) == 0) = false := by
                have : v.length ≠ 0 := fun h => hv (List.length_eq_zero_iff.1 h)
                simp only [beq_eq_false_iff_ne]
                omega
              rw [hv2, if_neg (by simp)]
              have h1 := impl_Parse_l1 l m (2 + 8 + 8) v (by omega) c2 v.length 0 (k - v.length) (lowNos u) (by omega) (by omega) (by omega)
              rw [show k - v.length + v.length = k by omega, List.drop_zero] at h1
              refine h1.trans ?_
              have hz2 : (lowNos u ++ above v).length ≤ 200 := by
                rw [List.length_append]
                unfold above
                rw [List.length_map]
                omega
              obtain ⟨q, hq⟩ : ∃ q, k - v.length = q + 1 := ⟨k - v.length - 1, by omega⟩
              rw [kindsOk_append, hlow, Bool.true_and]
              by_cases z : kindsOk (above v) = true
              · rw [if_pos z, hq, impl_Parse.l1, if_neg (by omega), hj3 q _ _ hz2 (by omega) (by omega) (by omega)]
                simp [z, hv]
              · rw [if_neg z]
                simp [z]
        · rw [if_neg hm, if_neg hm, hj3 (k + 1) _ _ (by omega) (by omega) (by omega) (by omega)]
          simp [hlow]
      · rw [if_neg hlow]
        by_cases hm : decide (1 ∈ u) = true
        · rw [if_pos hm, kindsOk_append]
          simp [hlow]
        · rw [if_neg hm]
          simp [hlow]
  · rw [if_neg q, if_neg q]
theorem parseFields_len (l : List Int) (m : ByteArray) : ∀ (t : List Int) (a : Int) (y : List IF), (parseFields l m t a y).2.1.length ≤ y.length + t.length := by
  intro t
  induction t with
  | nil =>
    intro a y
    rw [parseFields]
    split <;> simp
  | cons x t ih =>
    intro a y
    rw [parseFields]
    split
    · refine Nat.le_trans (ih _ _) ?_
      simp; omega
    · simp
theorem parseNos_len (l : List Int) : (parseNos l).1.length ≤ 200 := by
  unfold parseNos
  obtain ⟨b1, _⟩ := getBits_facts l 2
  obtain ⟨c1, _⟩ := getBits_facts l (getBits l 2).2.1
  have hz : (lowNos (getBits l 2).1).length ≤ 64 := Nat.le_trans (List.length_filter_le _ _) b1
  repeat' split
  all_goals try (simp only [List.length_append]; unfold above; rw [List.length_map]; omega)
  all_goals first | (simp only; omega) | simp
theorem parse_len (l : List Int) : (parse l).2.1.length ≤ 200 := by
  unfold parse
  repeat' split
  all_goals first | (refine Nat.le_trans (parseFields_len _ _ _ _ _) ?_; simpa using parseNos_len l) | simp
theorem okFrom_iff : ∀ (l : List IF) (p : Option Int), okFrom p l = true ↔ ((∀ f ∈ l, fieldOk f.f0 (bytesOf f.f1) = true) ∧ l.Pairwise (fun a b => a.f0 < b.f0) ∧ ∀ q, p = some q → ∀ f ∈ l, q < f.f0) := by
  intro l
  induction l with
  | nil => intro p; simp [okFrom]
  | cons g t ih =>
    intro p
    rw [okFrom_cons]
    simp only [Bool.and_eq_true, ih (some g.f0), List.pairwise_cons, List.mem_cons, Option.some.injEq]
    constructor
    · rintro ⟨⟨h1, h2⟩, h3, h4, h5⟩
      refine ⟨fun f hf => ?_, ⟨fun f hf => h5 _ rfl f hf, h4⟩, fun q hq f hf => ?_⟩
      · rcases hf with rfl | hf
        · exact h1
        · exact h3 f hf
      · subst hq
        simp only [decide_eq_true_eq] at h2
        rcases hf with rfl | hf
        · exact h2
        · have := h5 _ rfl f hf
          omega
    · rintro ⟨h1, ⟨h2, h3⟩, h4⟩
      refine ⟨⟨h1 g (.inl rfl), ?_⟩, fun f hf => h1 f (.inr hf), h3, fun q hq f hf => by rw [← hq]; exact h2 f hf⟩
      cases p with
      | none => rfl
      | some q => simp only [decide_eq_true_eq]; exact h4 q rfl g (.inl rfl)
theorem known_range (x : Int) (h : ¬ kindOf x = 0) : 2 ≤ x ∧ x ≤ 103 := by
  rcases known x h with rfl | (rfl | rfl | rfl | rfl | rfl | rfl) | (rfl | rfl | rfl | rfl | rfl) | (rfl | rfl) | (rfl | rfl) <;> decide
theorem bcd_ubcd : ∀ (c : List Int), (∀ x ∈ c, isByte x) → bcd (ubcd c) = c := by
  intro c
  induction c with
  | nil => intro _; rfl
  | cons x t ih =>
    intro h
    have hx := h x List.mem_cons_self
    unfold isByte at hx
    rw [ubcd, bcd, ih (fun y hy => h y (List.mem_cons_of_mem _ hy))]
    congr 1
    omega
theorem getBcd_back (l : List Int) (a n : Int) (hb : ∀ c ∈ l, isByte c) (h : (getBcd l a n).2.2 = true) : bcd (evened (getBcd l a n).1) = cutAt l a.toNat ((n + 1) / 2).toNat := by
  obtain ⟨_, p2, _, _, p5, p6, p7, p8⟩ := getBcd_ok l a n hb h
  unfold getBcd at h p2 ⊢
  by_cases q : (inAt l a n && isBcd n.toNat (ubcd (cutAt l a.toNat ((n + 1) / 2).toNat))) = true
  · rw [if_pos q] at p2 ⊢
    simp only [Bool.and_eq_true] at q
    have q2 := q.2
    have hlen : (ubcd (cutAt l a.toNat ((n + 1) / 2).toNat)).length = 2 * ((n + 1) / 2).toNat := by rw [ubcd_length, cutAt_length _ _ _ (by omega)]
    have hback := bcd_ubcd (cutAt l a.toNat ((n + 1) / 2).toNat) (fun c hc => hb c (cutAt_mem _ _ _ c hc))
    generalize cutAt l a.toNat ((n + 1) / 2).toNat = u at q2 hlen hback p2
    simp only at p2 ⊢
    refine Eq.trans (congrArg bcd ?_) hback
    unfold evened
    rw [p2]
    unfold isBcd at q2
    by_cases o : n.toNat % 2 = 1
    · rw [if_pos o] at q2 ⊢
      simp only [Bool.and_eq_true, decide_eq_true_eq] at q2
      have hd := drop_rd (ubcd u) 0 (by omega)
      rw [List.drop_zero] at hd
      rw [o, hd, show ((0 : Nat) : Int) = 0 from rfl, q2.1]
      rfl
    · rw [if_neg o, show n.toNat % 2 = 0 by omega, List.drop_zero]
  · rw [if_neg q] at h
    exact absurd h (by simp)
theorem wide_back (L : List Int) (w : Int) (hd : L.all isDig = true) (hw : w = 2 ∨ w = 3) (hl : (L.length : Int) = w) : bytesOf (wide ((natFrom 0 L : Nat) : Int) w) = L := by
  rcases hw with rfl | rfl
  · match L, hl with
    | [a, b], _ =>
      simp only [List.all_cons, Bool.and_eq_true] at hd
      have ha := dig_range' hd.1
      have hb := dig_range' hd.2.1
      have e : natFrom 0 [a, b] = (a - 48).toNat * 10 + (b - 48).toNat := by simp [natFrom]
      rw [e, wide2 _ (by omega)]
      congr 1
      · omega
      · congr 1
        omega
    | [], h => simp at h
    | [_], h => simp at h
    | _ :: _ :: _ :: _, h => simp at h; omega
  · match L, hl with
    | [a, b, c], _ =>
      simp only [List.all_cons, Bool.and_eq_true] at hd
      have ha := dig_range' hd.1
      have hb := dig_range' hd.2.1
      have hc := dig_range' hd.2.2.1
      have e : natFrom 0 [a, b, c] = ((a - 48).toNat * 10 + (b - 48).toNat) * 10 + (c - 48).toNat := by simp [natFrom]
      rw [e, wide3 _ (by omega)]
      congr 1
      · omega
      · congr 1
        · omega
        · congr 1
          omega
    | [], h => simp at h
    | [_], h => simp at h
    | [_, _], h => simp at h
    | _ :: _ :: _ :: _ :: _, h => simp at h; omega
theorem getLen_back (l : List Int) (a w : Int) (hb : ∀ c ∈ l, isByte c) (h : (getLen l a w).2.2 = true) :
    0 ≤ a ∧ (getLen l a w).2.1 = a + (w + 1) / 2 ∧ a + (w + 1) / 2 ≤ (l.length : Int) ∧ (w = 2 ∨ w = 3) ∧ (putLen (getLen l a w).1 w).1 = cutAt l a.toNat ((w + 1) / 2).toNat := by
  unfold getLen at h ⊢
  by_cases q : (w = 2 ∨ w = 3) ∧ (getBcd l a w).2.2 = true
  · rw [if_pos q]
    obtain ⟨p1, p2, p3, p4, p5, p6, p7, p8⟩ := getBcd_ok l a w hb q.2
    have hw := wide_back (getBcd l a w).1 w (digs_and _ p1).1 q.1 (by omega)
    have hc := getBcd_back l a w hb q.2
    have hx := (getBcd_putBcd (getBcd l a w).1 (digs_and _ p1).1 (by omega) (by omega)).1
    refine ⟨p7, p4, p8, q.1, ?_⟩
    unfold putLen
    simp only
    rw [if_pos q.1, hw, hx, ← hc]
  · rw [if_neg q] at h
    exact absurd h (by simp)
theorem cutAt_add (l : List Int) (a m n : Nat) : cutAt l a m ++ cutAt l (a + m) n = cutAt l a (m + n) := by
  unfold cutAt
  rw [← List.drop_drop, ← List.take_add]
theorem drop_cut (l : List Int) (a m : Nat) : cutAt l a m ++ l.drop (a + m) = l.drop a := by
  unfold cutAt
  rw [← List.drop_drop, List.take_append_drop]
theorem gfBody_back (l : List Int) (a n x : Int) (hb : ∀ c ∈ l, isByte c) (h : (gfBody l a n x).2.2 = true) :
    0 ≤ a ∧ 0 ≤ n ∧ ((gfBody l a n x).1.length : Int) = n ∧ (gfBody l a n x).2.1 = a + (pfBody x (gfBody l a n x).1).length ∧ (gfBody l a n x).2.1 ≤ (l.length : Int) ∧ cutAt l a.toNat (pfBody x (gfBody l a n x).1).length = pfBody x (gfBody l a n x).1 := by
  unfold gfBody at h ⊢
  unfold pfBody
  by_cases q : inDigits x = true
  · rw [if_pos q] at h ⊢
    rw [if_pos q]
    obtain ⟨p1, p2, p3, p4, p5, p6, p7, p8⟩ := getBcd_ok l a n hb h
    have hc := getBcd_back l a n hb h
    have hl : (bcd (evened (getBcd l a n).1)).length = ((n + 1) / 2).toNat := by rw [hc, cutAt_length _ _ _ (by omega)]
    refine ⟨p7, by omega, by omega, by omega, by omega, ?_⟩
    rw [hl, hc]
  · rw [if_neg q] at h ⊢
    rw [if_neg q]
    obtain ⟨f1, f2, f3, f4⟩ := pieceAt_facts l a n hb
    have f5 := f4 h
    unfold pieceAt at h f5 ⊢
    by_cases z : 0 ≤ a ∧ a ≤ (l.length : Int) ∧ 0 ≤ n ∧ n ≤ (l.length : Int) - a
    · rw [if_pos z] at f5 ⊢
      simp only at f5 ⊢
      refine ⟨z.1, z.2.2.1, by omega, by omega, by omega, ?_⟩
      rw [f5.1]
    · rw [if_neg z] at h
      exact absurd h (by simp)
theorem getField_back (l : List Int) (a x : Int) (hb : ∀ c ∈ l, isByte c) (h : (getField l a x).2.2 = true) :
    fieldOk x (getField l a x).1 = true ∧ 0 ≤ a ∧ (getField l a x).2.1 = a + (putField x (getField l a x).1).1.length ∧ (getField l a x).2.1 ≤ (l.length : Int) ∧ cutAt l a.toNat (putField x (getField l a x).1).1.length = (putField x (getField l a x).1).1 := by
  unfold getField at h ⊢
  by_cases q : (gfHead l a x).2.2 = true
  · rw [if_pos q] at h ⊢
    unfold gfFin at h ⊢
    by_cases z : (gfBody l (gfHead l a x).2.1 (gfHead l a x).1 x).2.2 = true ∧ fieldOk x (gfBody l (gfHead l a x).2.1 (gfHead l a x).1 x).1 = true
    · rw [if_pos z]
      simp only
      obtain ⟨z1, z2⟩ := z
      have b := gfBody_back l (gfHead l a x).2.1 (gfHead l a x).1 x hb z1
      generalize hn : (gfHead l a x).1 = n at b z2
      generalize he : (gfHead l a x).2.1 = e at b z2
      generalize gfBody l e n x = r at b z2
      obtain ⟨b1, b2, b3, b4, b5, b6⟩ := b
      have hput : (putField x r.1).1 = pfHead x r.1.length ++ pfBody x r.1 := by unfold putField; rw [if_pos z2]
      have hd : 0 ≤ a ∧ e = a + (pfHead x r.1.length).length ∧ cutAt l a.toNat (pfHead x r.1.length).length = pfHead x r.1.length := by
        unfold gfHead at q hn he
        unfold pfHead
        by_cases hp : prefixed x = true
        · rw [if_pos hp] at q hn he ⊢
          obtain ⟨g1, g2, g3, g4, g5⟩ := getLen_back l a (lenWidth x) hb q
          rw [hn, ← b3] at g5
          have hz : ((putLen ((r.1.length : Nat) : Int) (lenWidth x)).1).length = ((lenWidth x + 1) / 2).toNat := by rw [g5, cutAt_length _ _ _ (by omega)]
          refine ⟨g1, by omega, ?_⟩
          rw [hz, g5]
        · rw [if_neg hp] at he ⊢
          simp only at he
          refine ⟨by omega, by simp; omega, ?_⟩
          unfold cutAt
          simp
      obtain ⟨d1, d2, d3⟩ := hd
      have hz : (putField x r.1).1.length = (pfHead x r.1.length).length + (pfBody x r.1).length := by rw [hput, List.length_append]
      refine ⟨z2, d1, by omega, b5, ?_⟩
      rw [hz, ← cutAt_add, d3, hput]
      congr 1
      have : e.toNat = a.toNat + (pfHead x r.1.length).length := by omega
      rw [← this, b6]
    · rw [if_neg z] at h
      exact absurd h (by simp)
  · rw [if_neg q] at h
    exact absurd h (by simp)
theorem parseFields_back (l : List Int) (hb : ∀ c ∈ l, isByte c) (m : ByteArray) : ∀ (nos : List Int) (a : Int) (y z : List IF) (m' : ByteArray), 0 ≤ a → a ≤ (l.length : Int) → parseFields l m nos a y = (m', z, 0) →
    m' = m ∧ ∃ t : List IF, z = y ++ t ∧ (t.map fun f => f.f0) = nos ∧ (∀ f ∈ t, fieldOk f.f0 (bytesOf f.f1) = true) ∧ l.drop a.toNat = bodyOf t := by
  intro nos
  induction nos with
  | nil =>
    intro a y z m' h0 h1 h
    rw [parseFields] at h
    by_cases q : a = (l.length : Int)
    · rw [if_pos q] at h
      simp only [Prod.mk.injEq] at h
      obtain ⟨rfl, rfl, _⟩ := h
      refine ⟨rfl, [], by simp, rfl, fun f hf => by (cases hf), ?_⟩
      rw [List.drop_eq_nil_of_le (by omega)]
      rfl
    · rw [if_neg q] at h
      simp at h
  | cons x t ih =>
    intro a y z m' h0 h1 h
    rw [parseFields] at h
    by_cases q : (getField l a x).2.2 = true
    · rw [if_pos q] at h
      obtain ⟨f1, f2, f3, f4, f5⟩ := getField_back l a x hb q
      obtain ⟨e1, t', e2, e3, e4, e5⟩ := ih _ _ _ _ (by omega) f4 h
      have hby : ∀ c ∈ (getField l a x).1, isByte c := by
        unfold getField
        split
        · unfold gfFin
          split
          · exact gfBody_bytes l _ _ x hb
          · intro c hc; cases hc
        · intro c hc; cases hc
      have hs : bytesOf (strOfNums (getField l a x).1) = (getField l a x).1 := bytesOf_strOfNums _ hby
      refine ⟨e1, ⟨x, strOfNums (getField l a x).1⟩ :: t', by rw [e2]; simp, by rw [List.map_cons, e3], ?_, ?_⟩
      · intro f hf
        rcases List.mem_cons.1 hf with rfl | hf
        · simp only; rw [hs]; exact f1
        · exact e4 f hf
      · rw [bodyOf]
        simp only
        rw [hs, ← e5, ← f5]
        have : (getField l a x).2.1.toNat = a.toNat + (putField x (getField l a x).1).1.length := by omega
        rw [this]
        conv => lhs; rw [← drop_cut l a.toNat (putField x (getField l a x).1).1.length]
    · rw [if_neg q] at h
      simp at h
theorem getBits_back (l : List Int) (a : Int) (h : (getBits l a).2.2 = true) : 0 ≤ a ∧ a + 8 ≤ (l.length : Int) ∧ (getBits l a).2.1 = a + 8 ∧ (getBits l a).1 = bitsOf (cutAt l a.toNat 8) 64 := by
  unfold getBits at h ⊢
  by_cases q : 0 ≤ a ∧ a ≤ (l.length : Int) - 8
  · rw [if_pos q]
    exact ⟨q.1, by omega, rfl, rfl⟩
  · rw [if_neg q] at h
    exact absurd h (by simp)
theorem lowOf_of_map (t : List IF) : lowOf t = (t.map fun f => f.f0).filter fun c => decide (c ≤ 64) := by
  unfold lowOf
  rw [List.filter_map]
  rfl
theorem highOf_of_map (t : List IF) : highOf t = ((t.map fun f => f.f0).filter fun c => !decide (c ≤ 64)).map fun c => c - 64 := by
  unfold highOf
  rw [List.filter_map, List.map_map]
  rfl
theorem filter_low (u v : List Int) (hu : ∀ c ∈ u, c ≤ 64) (hv : ∀ c ∈ v, 64 < c) : (u ++ v).filter (fun c => decide (c ≤ 64)) = u := by
  rw [List.filter_append, List.filter_eq_self.2 (fun c hc => by simpa using hu c hc), List.filter_eq_nil_iff.2 (fun c hc => by have := hv c hc; simp; omega), List.append_nil]
theorem filter_high (u v : List Int) (hu : ∀ c ∈ u, c ≤ 64) (hv : ∀ c ∈ v, 64 < c) : (u ++ v).filter (fun c => !decide (c ≤ 64)) = v := by
  rw [List.filter_append, List.filter_eq_nil_iff.2 (fun c hc => by simpa using hu c hc), List.filter_eq_self.2 (fun c hc => by have := hv c hc; simp; omega), List.nil_append]
theorem parseNos_back (l : List Int) (hb : ∀ c ∈ l, isByte c) (h : (parseNos l).2.2 = true) (t : List IF) (ht : (t.map fun f => f.f0) = (parseNos l).1) :
    t.Pairwise (fun a b => a.f0 < b.f0) ∧ (parseNos l).2.1 = ((2 + (headOf t).length : Nat) : Int) ∧ 2 + (headOf t).length ≤ l.length ∧ cutAt l 2 (headOf t).length = headOf t := by
  unfold parseNos at h ht ⊢
  by_cases q : (getBits l 2).2.2 = true
  · obtain ⟨_, g2, g3, g4⟩ := getBits_back l 2 q
    have hc8 : (cutAt l (2 : Int).toNat 8).length = 8 := cutAt_length _ _ _ (by omega)
    have hcb : ∀ c ∈ cutAt l (2 : Int).toNat 8, isByte c := fun c hc => hb c (cutAt_mem _ _ _ c hc)
    rw [if_pos q] at h ht ⊢
    rw [g3, g4] at h ht ⊢
    have us := bitsOf_sorted (cutAt l (2 : Int).toNat 8) 64
    have ur := bitsOf_in (cutAt l (2 : Int).toNat 8) 64
    have ub := fun L => putBits_bitsOf (cutAt l (2 : Int).toNat 8) L hc8 hcb
    generalize hu : bitsOf (cutAt l (2 : Int).toNat 8) 64 = u at h ht us ur ub ⊢
    have lowS : (lowNos u).Pairwise (fun x y => x < y) := us.filter _
    have lowR : ∀ c ∈ lowNos u, 2 ≤ c ∧ c ≤ 64 := by
      intro c hc
      unfold lowNos at hc
      obtain ⟨c1, c2⟩ := List.mem_filter.1 hc
      have := ur c c1
      simp at c2
      omega
    have lowM : ∀ c, c ≠ 1 → (c ∈ lowNos u ↔ c ∈ u) := by
      intro c hc
      unfold lowNos
      rw [List.mem_filter]
      simp [hc]
    by_cases hm : decide (1 ∈ u) = true
    · have hm1 : (1 : Int) ∈ u := of_decide_eq_true hm
      rw [if_pos hm] at h ht ⊢
      by_cases g : (getBits l (2 + 8)).2.2 = true ∧ ¬ (getBits l (2 + 8)).1 = [] ∧ kindsOk (lowNos u ++ above (getBits l (2 + 8)).1) = true
      · obtain ⟨_, k2, k3, k4⟩ := getBits_back l (2 + 8) g.1
        have hk8 : (cutAt l ((2 : Int) + 8).toNat 8).length = 8 := cutAt_length _ _ _ (by omega)
        have hkb : ∀ c ∈ cutAt l ((2 : Int) + 8).toNat 8, isByte c := fun c hc => hb c (cutAt_mem _ _ _ c hc)
        rw [if_pos g] at ht ⊢
        have gv := g.2.1
        rw [k3, k4] at ht
        rw [k3]
        rw [k4] at gv
        have vs := bitsOf_sorted (cutAt l ((2 : Int) + 8).toNat 8) 64
        have vr := bitsOf_in (cutAt l ((2 : Int) + 8).toNat 8) 64
        have vb := fun L => putBits_bitsOf (cutAt l ((2 : Int) + 8).toNat 8) L hk8 hkb
        generalize bitsOf (cutAt l ((2 : Int) + 8).toNat 8) 64 = v at ht vs vr vb gv
        simp only at ht ⊢
        have hvr : ∀ c ∈ above v, 64 < c := by
          intro c hc
          unfold above at hc
          obtain ⟨d, hd, rfl⟩ := List.mem_map.1 hc
          have := vr d hd
          omega
        have hvs : (above v).Pairwise (fun x y => x < y) := by
          unfold above
          rw [List.pairwise_map]
          exact List.Pairwise.imp (fun h => by omega) vs
        have hall : (t.map fun f => f.f0).Pairwise (fun x y => x < y) := by
          rw [ht, List.pairwise_append]
          exact ⟨lowS, hvs, fun a ha b hb => by have := lowR a ha; have := hvr b hb; omega⟩
        have e1 : lowOf t = lowNos u := by rw [lowOf_of_map, ht, filter_low _ _ (fun c hc => (lowR c hc).2) hvr]
        have e2 : highOf t = v := by
          rw [highOf_of_map, ht, filter_high _ _ (fun c hc => (lowR c hc).2) hvr]
          unfold above
          rw [List.map_map]
          have : ((fun c : Int => c - 64) ∘ fun c => c + 64) = id := by funext c; simp only [Function.comp, id]; omega
          rw [this, List.map_id]
        have hh : headOf t = cutAt l (2 : Int).toNat 8 ++ cutAt l ((2 : Int) + 8).toNat 8 := by
          unfold headOf
          rw [e1, e2, if_neg gv, ub _ (fun c c1 c2 => ?_), vb _ (fun c c1 c2 => Iff.rfl)]
          by_cases z : c = 1
          · subst z
            simp [hm1]
          · rw [List.mem_append, lowM c z]
            simp [z]
        have hl16 : (headOf t).length = 16 := by rw [hh, List.length_append, hc8, hk8]
        refine ⟨by rw [List.pairwise_map] at hall; exact hall, by rw [hl16]; rfl, by omega, ?_⟩
        rw [hl16, hh]
        have := cutAt_add l 2 8 8
        exact this.symm
      · rw [if_neg g] at h
        exact absurd h (by simp)
    · have hm1 : ¬ (1 : Int) ∈ u := by simpa using hm
      rw [if_neg hm] at h ht ⊢
      by_cases g : kindsOk (lowNos u) = true
      · rw [if_pos g] at ht ⊢
        simp only at ht ⊢
        have hall : (t.map fun f => f.f0).Pairwise (fun x y => x < y) := by rw [ht]; exact lowS
        have e1 : lowOf t = lowNos u := by
          have := filter_low (lowNos u) [] (fun c hc => (lowR c hc).2) (fun c hc => by cases hc)
          rw [List.append_nil] at this
          rw [lowOf_of_map, ht, this]
        have e2 : highOf t = [] := by
          have := filter_high (lowNos u) [] (fun c hc => (lowR c hc).2) (fun c hc => by cases hc)
          rw [List.append_nil] at this
          rw [highOf_of_map, ht, this]
          rfl
        have hh : headOf t = cutAt l (2 : Int).toNat 8 := by
          unfold headOf
          rw [e1, e2, if_pos rfl, ub _ (fun c c1 c2 => ?_)]
          by_cases z : c = 1
          · subst z
            unfold lowNos
            simp [hm1]
          · exact lowM c z
        have hl8 : (headOf t).length = 8 := by rw [hh, hc8]
        refine ⟨by rw [List.pairwise_map] at hall; exact hall, by rw [hl8]; rfl, by omega, ?_⟩
        rw [hl8, hh]
        rfl
      · rw [if_neg g] at h
        exact absurd h (by simp)
  · rw [if_neg q] at h
    exact absurd h (by simp)
theorem encode_parse (l : List Int) (hb : ∀ c ∈ l, isByte c) (m : ByteArray) (z : List IF) (h : parse l = (m, z, 0)) : msgOk m z = true ∧ encode m z = (l, true) := by
  unfold parse at h
  by_cases q : (getBcd l 0 4).2.2 = true
  · rw [if_pos q] at h
    by_cases n : (parseNos l).2.2 = true
    · rw [if_pos n] at h
      obtain ⟨p1, p2, p3, p4, _, _, _, p8⟩ := getBcd_ok l 0 4 hb q
      have hback := getBcd_back l 0 4 hb q
      have hpos : 0 ≤ (parseNos l).2.1 ∧ (parseNos l).2.1 ≤ (l.length : Int) := by
        have hex : ∃ t : List IF, (t.map fun f => f.f0) = (parseNos l).1 := ⟨(parseNos l).1.map fun c => ⟨c, ⟨#[]⟩⟩, by rw [List.map_map]; exact List.map_id _⟩
        obtain ⟨t, ht⟩ := hex
        obtain ⟨_, n2, n3, _⟩ := parseNos_back l hb n t ht
        omega
      obtain ⟨rfl, t, e2, e3, e4, e5⟩ := parseFields_back l hb _ _ _ _ _ _ hpos.1 hpos.2 h
      rw [List.nil_append] at e2
      subst e2
      obtain ⟨n1, n2, n3, n4⟩ := parseNos_back l hb n z e3
      have hs : bytesOf (strOfNums (getBcd l 0 4).1) = (getBcd l 0 4).1 := bytesOf_strOfNums _ p3
      have hok : msgOk (strOfNums (getBcd l 0 4).1) z = true := by
        unfold msgOk isMti
        rw [hs, p1, strOfNums_size, p2, (okFrom_iff z none).2 ⟨e4, n1, fun q hq => by cases hq⟩]
        rfl
      refine ⟨hok, ?_⟩
      unfold encode
      rw [if_pos hok, hs, hback, ← n4, ← e5, n2]
      congr 1
      have a1 := cutAt_add l 0 2 (headOf z).length
      have a2 := drop_cut l 0 (2 + (headOf z).length)
      rw [Nat.zero_add] at a1 a2
      rw [List.drop_zero] at a2
      have t1 : ((4 + 1 : Int) / 2).toNat = 2 := by decide
      rw [t1, Int.toNat_zero, a1, Int.toNat_natCast, a2]
    · rw [if_neg n] at h
      simp at h
  · rw [if_neg q] at h
    simp at h
theorem parseFields_codes (l : List Int) (m : ByteArray) : ∀ (nos : List Int) (a : Int) (y : List IF), (parseFields l m nos a y).2.2 = 0 ∨ (((parseFields l m nos a y).2.2 = 3 ∨ (parseFields l m nos a y).2.2 = 4) ∧ (parseFields l m nos a y).1 = ⟨#[]⟩ ∧ (parseFields l m nos a y).2.1 = []) := by
  intro nos
  induction nos with
  | nil =>
    intro a y
    rw [parseFields]
    split
    · exact .inl rfl
    · exact .inr ⟨.inr rfl, rfl, rfl⟩
  | cons x t ih =>
    intro a y
    rw [parseFields]
    split
    · exact ih _ _
    · exact .inr ⟨.inl rfl, rfl, rfl⟩
theorem parse_codes (l : List Int) : (parse l).2.2 = 0 ∨ ((1 ≤ (parse l).2.2 ∧ (parse l).2.2 ≤ 4) ∧ (parse l).1 = ⟨#[]⟩ ∧ (parse l).2.1 = []) := by
  unfold parse
  split
  · split
    · rcases parseFields_codes l (strOfNums (getBcd l 0 4).1) (parseNos l).1 (parseNos l).2.1 [] with h | ⟨h, h2, h3⟩
      · exact .inl h
      · exact .inr ⟨by omega, h2, h3⟩
    · exact .inr ⟨⟨by decide, by decide⟩, rfl, rfl⟩
  · exact .inr ⟨⟨by decide, by decide⟩, rfl, rfl⟩
theorem and255 (x : Int) : 0 ≤ Go.bits .and .i64 x 255 ∧ Go.bits .and .i64 x 255 ≤ 255 := by
  have h : ∃ n : Nat, n ≤ 255 ∧ Go.bits .and .i64 x 255 = IntKind.i64.wrap (n : Int) := by
    refine ⟨(BitVec.ofInt 64 x).toNat &&& 255, Nat.and_le_right, ?_⟩
    simp only [Go.bits, BitVec.toNat_and]
    rfl
  obtain ⟨n, h1, h2⟩ := h
  rw [h2, IntKind.wrap_i64]
  omega
theorem l01New_l (b : List Int) (hb : b.length ≤ 10000000) : ∀ (d n k : Nat) (h : Int), n + d = b.length → d < k → ∃ h', spec_l01New.l0 k b h (n : Int) = some (b, 0, h') := by
  intro d
  induction d with
  | zero =>
    intro n k h hd hk
    obtain ⟨k, rfl⟩ : ∃ m, k = m + 1 := ⟨k - 1, by omega⟩
    exact ⟨h, by rw [spec_l01New.l0, if_neg (by omega)]⟩
  | succ d ih =>
    intro n k h hd hk
    obtain ⟨k, rfl⟩ : ∃ m, k = m + 1 := ⟨k - 1, by omega⟩
    by_cases q : (n : Int) < 4000
    · have e : wrap64 ((n : Int) + 1) = ((n + 1 : Nat) : Int) := by unfold wrap64; omega
      obtain ⟨h', hh⟩ := ih (n + 1) k (Go.bits .and .i64 (wrap64 ((wrap64 ((wrap64 (h * 31)) + (wrap64 (rd b (n : Int))))) + 7)) 1073741823) (by omega) (by omega)
      exact ⟨h', by rw [spec_l01New.l0, if_pos (by omega), if_pos q, if_pos (by omega), e]; exact hh⟩
    · exact ⟨h, by rw [spec_l01New.l0, if_pos (by omega), if_neg q]⟩
theorem l01New_at (b : List Int) (hb : b.length ≤ 10000000) (k : Nat) (hk : b.length < k) : ∃ h, spec_l01New.f k b = some (b, 0, h) := by
  unfold spec_l01New.f
  exact l01New_l b hb b.length 0 k _ (by omega) hk
theorem l01Byte_at (b : List Int) (i h : Int) (hb : b.length ≤ 10000000) (h0 : 0 ≤ i) (h1 : i ≤ (b.length : Int)) : ∃ r i' h', spec_l01Byte.f b i h = some (r, i', h') ∧ 0 ≤ r ∧ r ≤ 255 ∧ 0 ≤ i' ∧ i' ≤ (b.length : Int) := by
  unfold spec_l01Byte.f
  by_cases q : i < (b.length : Int)
  · rw [if_pos q, if_pos h0]
    have e : wrap64 (i + 1) = i + 1 := by unfold wrap64; omega
    exact ⟨_, _, _, rfl, (and255 _).1, (and255 _).2, by rw [e]; omega, by rw [e]; omega⟩
  · rw [if_neg q]
    exact ⟨_, _, _, rfl, (and255 _).1, (and255 _).2, h0, h1⟩
theorem l01Below_at (b : List Int) (i h n : Int) (hb : b.length ≤ 10000000) (h0 : 0 ≤ i) (h1 : i ≤ (b.length : Int)) (n0 : 0 < n) (n1 : n ≤ 256) : ∃ r i' h', spec_l01Below.f b i h n = some (r, i', h') ∧ 0 ≤ r ∧ r < n ∧ 0 ≤ i' ∧ i' ≤ (b.length : Int) := by
  obtain ⟨r, i', h', e, r0, r1, q0, q1⟩ := l01Byte_at b i h hb h0 h1
  unfold spec_l01Below.f
  rw [if_neg (by omega), if_pos n1, e, Option.bind_some, if_neg (by omega)]
  exact ⟨_, _, _, rfl, Int.tmod_nonneg _ r0, Int.tmod_lt_of_pos _ n0, q0, q1⟩
theorem l01Str_at (b : List Int) (i h : Int) (l : List ByteArray) (hb : b.length ≤ 10000000) (h0 : 0 ≤ i) (h1 : i ≤ (b.length : Int)) (n0 : 0 < l.length) (n1 : l.length ≤ 256) : ∃ s i' h', spec_l01Str.f b i h l = some (s, i', h') ∧ s ∈ l ∧ 0 ≤ i' ∧ i' ≤ (b.length : Int) := by
  obtain ⟨r, i', h', e, r0, r1, q0, q1⟩ := l01Below_at b i h (l.length : Int) hb h0 h1 (by omega) (by omega)
  unfold spec_l01Str.f
  rw [e, Option.bind_some, if_pos r0, if_pos r1]
  refine ⟨_, _, _, rfl, ?_, q0, q1⟩
  obtain ⟨n, rfl⟩ := Int.eq_ofNat_of_zero_le r0
  have hn : n < l.length := by omega
  unfold rdOf
  simp [List.getD, hn]
theorem l01Once_at (b : List Int) (i h n : Int) (hb : b.length ≤ 10000000) (h0 : 0 ≤ i) (h1 : i ≤ (b.length : Int)) (n0 : 0 < n) (n1 : n ≤ 256) : ∃ r i' h', spec_l01Once.f b i h n = some (r, i', h') ∧ 0 ≤ i' ∧ i' ≤ (b.length : Int) := by
  obtain ⟨r, i', h', e, r0, r1, q0, q1⟩ := l01Below_at b i h n hb h0 h1 n0 n1
  unfold spec_l01Once.f
  rw [e, Option.bind_some]
  exact ⟨_, _, _, rfl, q0, q1⟩
theorem l03Text_l (b : List Int) (hb : b.length ≤ 10000000) (N : Nat) (hN : N ≤ 1000) (t : Int) : ∀ (d k : Nat) (s : ByteArray) (i h : Int), s.size + d = N → 0 ≤ i → i ≤ (b.length : Int) → ((t = 1 ∨ t = 3) → (bytesOf s).all isDig = true) → (¬ (t = 1 ∨ t = 3) → (bytesOf s).all isPri = true) → 2 * d < k →
    ∃ s' i' h', spec_l03Text.l0 k (N : Int) t s b i h = some (s', i', h') ∧ s'.size = N ∧ ((t = 1 ∨ t = 3) → (bytesOf s').all isDig = true) ∧ (¬ (t = 1 ∨ t = 3) → (bytesOf s').all isPri = true) ∧ 0 ≤ i' ∧ i' ≤ (b.length : Int) := by
  intro d
  induction d with
  | zero =>
    intro k s i h hd h0 h1 hp1 hp2 hk
    obtain ⟨k, rfl⟩ : ∃ m, k = m + 1 := ⟨k - 1, by omega⟩
    rw [spec_l03Text.l0, if_neg (by omega)]
    exact ⟨s, i, h, rfl, by omega, hp1, hp2, h0, h1⟩
  | succ d ih =>
    intro k s i h hd h0 h1 hp1 hp2 hk
    obtain ⟨k, rfl⟩ : ∃ m, k = m + 2 := ⟨k - 2, by omega⟩
    have hgo : ∀ q : Bool, q = decide (t = 1 ∨ t = 3) → ∃ s' i' h', spec_l03Text.j2 (k + 1) (N : Int) t s q b i h = some (s', i', h') ∧ s'.size = N ∧ ((t = 1 ∨ t = 3) → (bytesOf s').all isDig = true) ∧ (¬ (t = 1 ∨ t = 3) → (bytesOf s').all isPri = true) ∧ 0 ≤ i' ∧ i' ≤ (b.length : Int) := by
      intro q hq
      subst hq
      by_cases z : t = 1 ∨ t = 3
      · obtain ⟨r, i', h', e, r0, r1, q0, q1⟩ := l01Below_at b i h 10 hb h0 h1 (by omega) (by omega)
        have e48 : wrap64 (48 + r) % 256 = 48 + r := by unfold wrap64; omega
        rw [spec_l03Text.j2, if_pos (decide_eq_true z), e, Option.bind_some, Option.bind_some]
        simp only
        rw [e48, strOfNums_size, if_pos (by simp; omega)]
        refine ih k _ i' h' (by rw [ByteArray.size_append, strOfNums_size]; simp; omega) q0 q1 (fun _ => ?_) (fun z' => absurd z z') (by omega)
        rw [bytesOf_append, List.all_append, hp1 z, bytesOf_strOfNums [48 + r] (fun c hc => by rw [List.mem_singleton.1 hc]; unfold isByte; omega)]
        unfold isDig
        simp; omega
      · obtain ⟨u, i', h', e, hu, q0, q1⟩ := l01Str_at b i h [(⟨#[97]⟩ : ByteArray), (⟨#[98]⟩ : ByteArray), (⟨#[55]⟩ : ByteArray), (⟨#[32]⟩ : ByteArray), (⟨#[126]⟩ : ByteArray)] hb h0 h1 (by decide) (by decide)
        have hu1 : u.size = 1 ∧ (bytesOf u).all isPri = true := by
          simp only [List.mem_cons, List.not_mem_nil, or_false] at hu
          rcases hu with rfl | rfl | rfl | rfl | rfl <;> exact ⟨rfl, rfl⟩
        rw [spec_l03Text.j2, if_neg (by simpa using z), e, Option.bind_some]
        simp only
        rw [if_pos (by omega)]
        refine ih k _ i' h' (by rw [ByteArray.size_append]; omega) q0 q1 (fun z' => absurd z' z) (fun _ => ?_) (by omega)
        rw [bytesOf_append, List.all_append, hp2 z, hu1.2]
        rfl
    rw [spec_l03Text.l0, if_pos (by omega)]
    by_cases z1 : t = 1
    · rw [if_pos z1]; exact hgo true (by simp [z1])
    · rw [if_neg z1]
      refine hgo _ ?_
      by_cases z3 : t = 3 <;> simp [z1, z3]
theorem l03Text_at (b : List Int) (i h x : Int) (hb : b.length ≤ 10000000) (h0 : 0 ≤ i) (h1 : i ≤ (b.length : Int)) (hx : ¬ kindOf x = 0) (k : Nat) (hk : 300 < k) : ∃ s i' h', spec_l03Text.f k b i h x = some (s, i', h') ∧ fieldOk x (bytesOf s) = true ∧ s.size ≤ 60 ∧ 0 ≤ i' ∧ i' ≤ (b.length : Int) := by
  have s0 := sizeOf_range x
  have s1 := size_pos x hx
  have kr := kind_range x
  obtain ⟨k, rfl⟩ : ∃ m, k = m + 1 := ⟨k - 1, by omega⟩
  have hgo : ∀ (N : Nat) (i h : Int), 1 ≤ N → (N : Int) ≤ sizeOf_ x → ((kindOf x = 1 ∨ kindOf x = 2) → (N : Int) = sizeOf_ x) → 0 ≤ i → i ≤ (b.length : Int) →
      ∃ s i' h', spec_l03Text.j0 (k + 1) (N : Int) (kindOf x) b i h = some (s, i', h') ∧ fieldOk x (bytesOf s) = true ∧ s.size ≤ 60 ∧ 0 ≤ i' ∧ i' ≤ (b.length : Int) := by
    intro N i h hN1 hN2 hN3 h0 h1
    obtain ⟨s, i', h', e, hz, p1, p2, q0, q1⟩ := l03Text_l b hb N (by omega) (kindOf x) N k ⟨#[]⟩ i h (by have : (⟨#[]⟩ : ByteArray).size = 0 := rfl; omega) h0 h1 (fun _ => rfl) (fun _ => rfl) (by omega)
    rw [spec_l03Text.j0]
    refine ⟨s, i', h', e, ?_, by omega, q0, q1⟩
    have hlen : ((bytesOf s).length : Int) = N := by rw [bytesOf_length, hz]
    have hne : digs (bytesOf s) = (bytesOf s).all isDig := by
      unfold digs
      have : (bytesOf s).isEmpty = false := by
        cases hh : bytesOf s with
        | nil => rw [hh] at hlen; simp at hlen; omega
        | cons a t => rfl
      rw [this]; simp
    unfold fieldOk
    rw [hlen, hne]
    by_cases z1 : kindOf x = 1
    · rw [if_pos z1, p1 (.inl z1), hN3 (.inl z1)]; simp
    rw [if_neg z1]
    by_cases z2 : kindOf x = 2
    · rw [if_pos z2, p2 (by omega), hN3 (.inr z2)]; simp
    rw [if_neg z2]
    by_cases z3 : kindOf x = 3
    · rw [if_pos z3, p1 (.inr z3)]; simp; omega
    rw [if_neg z3, if_pos (by omega), p2 (by omega)]
    simp; omega
  unfold spec_l03Text.f
  rw [spec_FieldSize_at x _ (by omega), Option.bind_some, spec_FieldKind_at x _ (by omega), Option.bind_some, spec_l03Width_at _ _ (by omega), Option.bind_some]
  by_cases z : kindOf x = 3 ∨ kindOf x = 4 ∨ kindOf x = 5
  · have hpos : (if kindOf x = 3 ∨ kindOf x = 4 then (2 : Int) else if kindOf x = 5 then 3 else 0) > 0 := by
      by_cases z5 : kindOf x = 5
      · rw [if_neg (by omega), if_pos z5]; omega
      · rw [if_pos (by omega)]; omega
    obtain ⟨r, i', h', e, r0, r1, q0, q1⟩ := l01Below_at b i h (sizeOf_ x) hb h0 h1 (by omega) (by omega)
    obtain ⟨n, rfl⟩ := Int.eq_ofNat_of_zero_le r0
    have ew : wrap64 (1 + (n : Int)) = ((n + 1 : Nat) : Int) := by unfold wrap64; omega
    rw [if_pos hpos, e, Option.bind_some]
    simp only
    rw [ew]
    exact hgo (n + 1) i' h' (by omega) (by omega) (by omega) q0 q1
  · rw [if_neg (by omega)]
    obtain ⟨n, hn⟩ := Int.eq_ofNat_of_zero_le s0.1
    rw [hn]
    rw [hn] at s0 s1 hgo
    exact hgo n i h (by omega) (by omega) (fun _ => rfl) h0 h1
def nosL : List Int := [2, 3, 4, 7, 11, 14, 37, 38, 39, 41, 48, 49, 54, 95, 102, 103]
theorem spec_FieldNos_at (k : Nat) (hk : 150 ≤ k) : spec_FieldNos.f k = some nosL :=
  later (g := fun k => spec_FieldNos.f k) (fun k => spec_FieldNos.mono k) (k0 := 150) (by decide +kernel) k hk
theorem nosL_sorted : nosL.Pairwise (fun a b => a < b) := by unfold nosL; decide
theorem nosL_kind : ∀ c ∈ nosL, ¬ kindOf c = 0 := by unfold nosL; decide
theorem okFrom_snoc : ∀ (y : List IF) (p : Option Int) (f : IF), okFrom p y = true → fieldOk f.f0 (bytesOf f.f1) = true → (∀ q, p = some q → q < f.f0) → (∀ g ∈ y, g.f0 < f.f0) → okFrom p (y ++ [f]) = true := by
  intro y
  induction y with
  | nil =>
    intro p f _ h2 h3 _
    rw [List.nil_append, okFrom_cons, h2]
    cases p with
    | none => rfl
    | some q => simp [h3 q rfl, okFrom]
  | cons g t ih =>
    intro p f h1 h2 h3 h4
    rw [okFrom_cons] at h1
    simp only [Bool.and_eq_true] at h1
    rw [List.cons_append, okFrom_cons, ih (some g.f0) f h1.2 h2 (fun q hq => by cases hq; exact h4 g List.mem_cons_self) (fun u hu => h4 u (List.mem_cons_of_mem _ hu))]
    simp only [Bool.and_true, Bool.and_eq_true]
    exact h1.1
theorem l04Draw_l (b : List Int) (hb : b.length ≤ 10000000) (m : ByteArray) (nos : List Int) (hn : nos.length ≤ 1000) (hs : nos.Pairwise (fun a b => a < b)) (hk0 : ∀ c ∈ nos, ¬ kindOf c = 0) : ∀ (d n k : Nat) (y : List IF) (i h : Int), n + d = nos.length → y.length ≤ n → okFrom none y = true → (∀ f ∈ y, f.f1.size ≤ 60 ∧ ∀ c ∈ nos.drop n, f.f0 < c) → 0 ≤ i → i ≤ (b.length : Int) → d + 400 < k →
    ∃ z i' h', spec_l04Draw.l0 k nos (nos.length : Int) (n : Int) b i h m y = some (m, z, i', h') ∧ okFrom none z = true ∧ z.length ≤ nos.length ∧ (∀ f ∈ z, f.f1.size ≤ 60) ∧ 0 ≤ i' ∧ i' ≤ (b.length : Int) := by
  intro d
  induction d with
  | zero =>
    intro n k y i h hd hy h1 h2 h3 h4 hk
    obtain ⟨k, rfl⟩ : ∃ m, k = m + 1 := ⟨k - 1, by omega⟩
    rw [spec_l04Draw.l0, if_neg (by omega)]
    exact ⟨y, i, h, rfl, h1, by omega, fun f hf => (h2 f hf).1, h3, h4⟩
  | succ d ih =>
    intro n k y i h hd hy h1 h2 h3 h4 hk
    obtain ⟨k, rfl⟩ : ∃ m, k = m + 1 := ⟨k - 1, by omega⟩
    have hlt : n < nos.length := by omega
    have hdr := drop_rd nos n hlt
    have hmem := rd_mem nos n hlt
    have hsd : (nos.drop n).Pairwise (fun a b => a < b) := hs.sublist (List.drop_sublist _ _)
    rw [hdr] at hsd
    have hhead := (List.pairwise_cons.1 hsd).1
    have ew : wrap64 ((n : Int) + 1) = ((n + 1 : Nat) : Int) := by unfold wrap64; omega
    obtain ⟨r, i', h', e, q0, q1⟩ := l01Once_at b i h 3 hb h3 h4 (by omega) (by omega)
    rw [spec_l04Draw.l0, if_pos (by omega), if_pos (by omega), if_pos (by omega), e, Option.bind_some]
    simp only
    rw [ew]
    cases r with
    | true =>
      obtain ⟨s, i2, h2', e2, f1, f2, f3, f4⟩ := l03Text_at b i' h' (rd nos (n : Int)) hb q0 q1 (hk0 _ hmem) k (by omega)
      rw [if_pos rfl, e2, Option.bind_some]
      simp only
      rw [if_pos (by omega)]
      refine ih (n + 1) k _ i2 h2' (by omega) (by simp; omega) (okFrom_snoc y none ⟨rd nos (n : Int), s⟩ h1 f1 (fun q hq => by cases hq) (fun g hg => (h2 g hg).2 _ (by rw [hdr]; exact List.mem_cons_self))) (fun f hf => ?_) f3 f4 (by omega)
      rcases List.mem_append.1 hf with hf | hf
      · exact ⟨(h2 f hf).1, fun c hc => (h2 f hf).2 c (by rw [hdr]; exact List.mem_cons_of_mem _ hc)⟩
      · rw [List.mem_singleton.1 hf]
        exact ⟨f2, fun c hc => hhead c hc⟩
    | false =>
      rw [if_neg (by simp)]
      exact ih (n + 1) k y i' h' (by omega) (by omega) h1 (fun f hf => ⟨(h2 f hf).1, fun c hc => (h2 f hf).2 c (by rw [hdr]; exact List.mem_cons_of_mem _ hc)⟩) q0 q1 (by omega)
theorem l04Draw_at (b : List Int) (i h : Int) (hb : b.length ≤ 10000000) (h0 : 0 ≤ i) (h1 : i ≤ (b.length : Int)) (k : Nat) (hk : 500 < k) : ∃ m z i' h', spec_l04Draw.f k b i h = some (m, z, i', h') ∧ msgOk m z = true ∧ m.size = 4 ∧ z.length ≤ 16 ∧ (∀ f ∈ z, f.f1.size ≤ 60) ∧ 0 ≤ i' ∧ i' ≤ (b.length : Int) := by
  unfold spec_l04Draw.f
  obtain ⟨m, i', h', e, hm, q0, q1⟩ := l01Str_at b i h [(⟨#[48, 49, 48, 48]⟩ : ByteArray), (⟨#[48, 50, 48, 48]⟩ : ByteArray), (⟨#[48, 50, 50, 48]⟩ : ByteArray), (⟨#[48, 49, 49, 48]⟩ : ByteArray), (⟨#[48, 56, 48, 48]⟩ : ByteArray), (⟨#[49, 50, 51, 52]⟩ : ByteArray), (⟨#[48, 48, 48, 48]⟩ : ByteArray)] hb h0 h1 (by decide) (by decide)
  have hm1 : isMti m = true ∧ m.size = 4 := by
    simp only [List.mem_cons, List.not_mem_nil, or_false] at hm
    rcases hm with rfl | rfl | rfl | rfl | rfl | rfl | rfl <;> exact ⟨rfl, rfl⟩
  rw [e, Option.bind_some, spec_FieldNos_at k (by omega), Option.bind_some]
  simp only
  obtain ⟨z, i2, h2, e2, f1, f2, f3, f4, f5⟩ := l04Draw_l b hb m nosL (by decide) nosL_sorted nosL_kind nosL.length 0 k [] i' h' (by simp) (by simp) rfl (fun f hf => by cases hf) q0 q1 (by have : nosL.length = 16 := rfl; omega)
  exact ⟨m, z, i2, h2, e2, by unfold msgOk; rw [hm1.1, f1]; rfl, hm1.2, f2, f3, f4, f5⟩
theorem spec_PutBits_l (l : List Int) (hl : l.length ≤ 1000000000) : ∀ (d n k : Nat) (x : List Int), n + d = l.length → x.length = 8 → d < k →
    spec_PutBits.l0 k x l (l.length : Int) (n : Int) = some ((l.drop n).foldl orBit x) ∧ impl_PutBits.l0 k x l (l.length : Int) (n : Int) = some ((l.drop n).foldl orBit x) := by
  intro d
  induction d with
  | zero =>
    intro n k x hd hx hk
    obtain ⟨k, rfl⟩ : ∃ m, k = m + 1 := ⟨k - 1, by omega⟩
    have c1 : ¬ (n : Int) < (l.length : Int) := by omega
    rw [List.drop_eq_nil_of_le (by omega)]
    simp only [spec_PutBits.l0, impl_PutBits.l0, if_neg c1]
    exact ⟨rfl, rfl⟩
  | succ d ih =>
    intro n k x hd hx hk
    obtain ⟨k, rfl⟩ : ∃ m, k = m + 1 := ⟨k - 1, by omega⟩
    have c1 : (n : Int) < (l.length : Int) := by omega
    have c2 : 0 ≤ (n : Int) := by omega
    have ih' := ih (n + 1) k (orBit x (rd l (n : Int))) (by omega) (by rw [orBit_length, hx]) (by omega)
    rw [drop_rd l n (by omega), List.foldl_cons]
    have en : wrap64 ((n : Int) + 1) = ((n + 1 : Nat) : Int) := by unfold wrap64; omega
    simp only [spec_PutBits.l0, impl_PutBits.l0, if_pos c1, if_pos c2, en]
    generalize rd l (n : Int) = b at ih' ⊢
    unfold spec_l01In.f impl_within.f
    by_cases h1 : 1 ≤ b
    · have h1' : b ≥ 1 := h1
      simp only [if_pos h1, if_pos h1', Option.bind_some]
      by_cases h2 : b ≤ 64
      · simp only [h2, decide_true, if_true]
        have e1 : wrap64 (b - 1) = b - 1 := by unfold wrap64; omega
        have e2 : Int.tdiv (b - 1) 8 = (b - 1) / 8 := Int.tdiv_eq_ediv_of_nonneg (by omega)
        have e3 : Int.tmod (b - 1) 8 = (b - 1) % 8 := Int.tmod_eq_emod_of_nonneg (by omega)
        have e4 : wrap64 ((b - 1) / 8) = (b - 1) / 8 := by unfold wrap64; omega
        have c3 : 0 ≤ (b - 1) / 8 := by omega
        have c4 : (b - 1) / 8 < (x.length : Int) := by omega
        have c5 : 0 ≤ (b - 1) % 8 := by omega
        have eo : orBit x b = x.set ((b - 1) / 8).toNat (Go.bits .or .u8 (rd x ((b - 1) / 8)) (shr .u8 128 ((b - 1) % 8))) := by unfold orBit; rw [if_pos ⟨h1, h2⟩]
        simp only [e1, e2, e3, e4, if_pos c3, if_pos c4, if_pos c5]
        rw [← eo]
        exact ih'
      · have eo : orBit x b = x := by unfold orBit; rw [if_neg (fun h => h2 h.2)]
        simp only [h2, decide_false, Bool.false_eq_true, if_false]
        rw [eo] at ih' ⊢
        exact ih'
    · have h1' : ¬ b ≥ 1 := h1
      have eo : orBit x b = x := by unfold orBit; rw [if_neg (fun h => h1 h.1)]
      simp only [if_neg h1, if_neg h1', Option.bind_some, Bool.false_eq_true, if_false]
      rw [eo] at ih' ⊢
      exact ih'
theorem spec_PutBits_at (l : List Int) (hl : l.length ≤ 1000000000) (k : Nat) (hk : l.length < k) : spec_PutBits.f k l = some (putBits l) := by
  unfold spec_PutBits.f
  rw [if_pos (by omega)]
  exact (spec_PutBits_l l hl l.length 0 k _ (by omega) (by simp) hk).1
theorem impl_PutBits_at (l : List Int) (hl : l.length ≤ 1000000000) (k : Nat) (hk : l.length < k) : impl_PutBits.f k l = some (putBits l) := by
  unfold impl_PutBits.f
  rw [if_pos (by omega)]
  exact (spec_PutBits_l l hl l.length 0 k _ (by omega) (by simp) hk).2
theorem impl_PutField_at (x : Int) (s : ByteArray) (h : s.size ≤ 140737488351232) : impl_PutField.f x s = some (putField x (bytesOf s)) := by
  unfold impl_PutField.f
  rw [if_pos h]
theorem spec_PutField_at (x : Int) (s : ByteArray) (h : s.size ≤ 140737488351232) : spec_PutField.f x s = some (putField x (bytesOf s)) := by
  unfold spec_PutField.f
  rw [if_pos h]
theorem low_cons (f : IF) (t : List IF) : lowOf (f :: t) = if f.f0 > 64 then lowOf t else f.f0 :: lowOf t := by
  unfold lowOf
  by_cases h : f.f0 > 64
  · rw [if_pos h, List.filter_cons_of_neg (by simp; omega)]
  · rw [if_neg h, List.filter_cons_of_pos (by simp; omega)]; rfl
theorem high_cons (f : IF) (t : List IF) : highOf (f :: t) = if f.f0 > 64 then (f.f0 - 64) :: highOf t else highOf t := by
  unfold highOf
  by_cases h : f.f0 > 64
  · rw [if_pos h, List.filter_cons_of_pos (by simp; omega)]; rfl
  · rw [if_neg h, List.filter_cons_of_neg (by simp; omega)]
theorem impl_Encode_l (m : ByteArray) (l : List IF) (hl : l.length ≤ 10000000) (hw : ∀ f ∈ l, f.f1.size ≤ 10000000) (hr : ∀ f ∈ l, 2 ≤ f.f0 ∧ f.f0 ≤ 103) : ∀ (d n k : Nat) (x4 x5 x6 : List Int), n + d = l.length → x4.length ≤ n → x5.length ≤ n → x6.length ≤ 100 * n →
    impl_Encode.l0 (k + d) x4 x5 x6 l (l.length : Int) (n : Int) m l = impl_Encode.l0 k (x4 ++ lowOf (l.drop n)) (x5 ++ highOf (l.drop n)) (x6 ++ bodyOf (l.drop n)) l (l.length : Int) (l.length : Int) m l := by
  intro d
  induction d with
  | zero =>
    intro n k x4 x5 x6 hd h4 h5 h6
    have e : n = l.length := by omega
    subst e
    rw [List.drop_eq_nil_of_le (Nat.le_refl _)]
    simp [lowOf, highOf, bodyOf]
  | succ d ih =>
    intro n k x4 x5 x6 hd h4 h5 h6
    have hm := rdF_mem l n (by omega)
    have hs := hw _ hm
    have hx := hr _ hm
    rw [show k + (d + 1) = (k + d) + 1 by omega, impl_Encode.l0, if_pos (by omega), if_pos (by omega), if_pos (by omega), dropF l n (by omega), low_cons, high_cons, bodyOf, impl_PutField_at _ _ (by omega), w64s (by omega)]
    have hb := putField_len (rd_T79 l (n : Int)).f0 (bytesOf (rd_T79 l (n : Int)).f1)
    generalize rd_T79 l (n : Int) = f at hs hx hb
    rw [Option.bind_some]
    by_cases q : f.f0 > 64
    · have e : wrap64 (f.f0 - 64) = f.f0 - 64 := by unfold wrap64; omega
      rw [if_pos q, if_pos q, if_pos q, if_pos (by omega), if_pos (by omega), e, ih (n + 1) k _ _ _ (by omega) (by omega) (by simp; omega) (by simp; omega)]
      simp
    · rw [if_neg q, if_neg q, if_neg q, if_pos (by omega), Option.bind_some, if_pos (by omega), ih (n + 1) k _ _ _ (by omega) (by simp; omega) (by omega) (by simp; omega)]
      simp
theorem low_len : ∀ (l : List IF), (lowOf l).length ≤ l.length := by
  intro l
  unfold lowOf
  rw [List.length_map]
  exact List.length_filter_le _ _
theorem high_len : ∀ (l : List IF), (highOf l).length ≤ l.length := by
  intro l
  unfold highOf
  rw [List.length_map]
  exact List.length_filter_le _ _
theorem mti_bcd (m : ByteArray) (h : isMti m = true) : putBcd (bytesOf m) = (bcd (evened (bytesOf m)), true) ∧ (bcd (evened (bytesOf m))).length = 2 ∧ m.size = 4 := by
  obtain ⟨h1, h2⟩ := isMti_facts m h
  have := bcd_length _ _ (evened_length (bytesOf m))
  exact ⟨putBcd_digits _ h1 (by omega) (by omega), by omega, by rw [← bytesOf_length]; exact h2⟩
theorem msg_parts (m : ByteArray) (l : List IF) (h : msgOk m l = true) : isMti m = true ∧ ∀ f ∈ l, 2 ≤ f.f0 ∧ f.f0 ≤ 103 := by
  unfold msgOk at h
  simp only [Bool.and_eq_true] at h
  obtain ⟨o1, _, _⟩ := (okFrom_iff l none).1 h.2
  exact ⟨h.1, fun f hf => known_range _ (fieldOk_kind _ _ (o1 f hf))⟩
theorem impl_Encode_at (m : ByteArray) (l : List IF) (hm : m.size ≤ 10000000) (hl : l.length ≤ 10000000) (hw : ∀ f ∈ l, f.f1.size ≤ 10000000) (k : Nat) (hk : 2 * l.length + m.size + 20000000 < k) : impl_Encode.f k m l = some (encode m l) := by
  unfold impl_Encode.f encode
  rw [impl_MsgOk_at m l hm hl 10000000 (by omega) hw k (by omega), Option.bind_some]
  by_cases h : msgOk m l = true
  · obtain ⟨hmti, hr⟩ := msg_parts m l h
    obtain ⟨b1, b2, b3⟩ := mti_bcd m hmti
    rw [if_pos h, if_pos h]
    have hz := impl_Encode_l m l hl hw hr l.length 0 (k - l.length) [] [] [] (by omega) (by simp) (by simp) (by simp)
    rw [show k - l.length + l.length = k by omega] at hz
    refine hz.trans ?_
    rw [List.drop_zero, List.nil_append, List.nil_append, List.nil_append]
    obtain ⟨k, rfl⟩ : ∃ q, k = q + 1 + l.length := ⟨k - 1 - l.length, by omega⟩
    have z4 := low_len l
    have z5 := high_len l
    have z6 := bodyOf_len l
    have p1 := putBits_length (lowOf l)
    have p2 := putBits_length (lowOf l ++ [1])
    have p3 := putBits_length (highOf l)
    rw [show k + 1 + l.length - l.length = k + 1 by omega, impl_Encode.l0, if_neg (by omega), impl_PutBcd_at m (by omega) k (by omega), b1, Option.bind_some]
    unfold headOf
    by_cases q : highOf l = []
    · rw [q, if_neg (by simp), impl_PutBits_at _ (by omega) k (by omega), Option.bind_some, if_pos rfl]
      simp only
      rw [if_pos (by omega), Option.bind_some, if_pos (by rw [List.length_append]; omega)]
    · have q2 : (highOf l).length ≠ 0 := fun z => q (List.length_eq_zero_iff.1 z)
      rw [if_pos (by omega), if_pos (by omega), impl_PutBits_at _ (by simp; omega) k (by simp; omega), Option.bind_some, if_neg q]
      simp only
      rw [if_pos (by omega), Option.bind_some, impl_PutBits_at _ (by omega) k (by omega), Option.bind_some, if_pos (by rw [List.length_append]; omega), Option.bind_some, if_pos (by rw [List.length_append, List.length_append]; omega)]
      simp
  · rw [if_neg h, if_neg h]
theorem spec_Encode_l (m : ByteArray) (l : List IF) (hl : l.length ≤ 10000000) (hr : ∀ f ∈ l, 2 ≤ f.f0 ∧ f.f0 ≤ 103) : ∀ (d n k : Nat) (x4 x5 : List Int), n + d = l.length → x4.length ≤ n → x5.length ≤ n →
    spec_Encode.l0 (k + d) x4 x5 l (l.length : Int) (n : Int) m l = spec_Encode.l0 k (x4 ++ lowOf (l.drop n)) (x5 ++ highOf (l.drop n)) l (l.length : Int) (l.length : Int) m l := by
  intro d
  induction d with
  | zero =>
    intro n k x4 x5 hd h4 h5
    have e : n = l.length := by omega
    subst e
    rw [List.drop_eq_nil_of_le (Nat.le_refl _)]
    simp [lowOf, highOf]
  | succ d ih =>
    intro n k x4 x5 hd h4 h5
    have hx := hr _ (rdF_mem l n (by omega))
    rw [show k + (d + 1) = (k + d) + 1 by omega, spec_Encode.l0, if_pos (by omega), if_pos (by omega), if_pos (by omega), dropF l n (by omega), low_cons, high_cons, w64s (by omega)]
    generalize rd_T79 l (n : Int) = f at hx
    by_cases q : f.f0 > 64
    · have e : wrap64 (f.f0 - 64) = f.f0 - 64 := by unfold wrap64; omega
      rw [if_pos q, if_pos q, if_pos q, if_pos (by omega), e, ih (n + 1) k _ _ (by omega) (by omega) (by simp; omega)]
      simp
    · rw [if_neg q, if_neg q, if_neg q, if_pos (by omega), ih (n + 1) k _ _ (by omega) (by simp; omega) (by omega)]
      simp
theorem spec_Encode_l1 (l : List IF) (hl : l.length ≤ 10000000) (hw : ∀ f ∈ l, f.f1.size ≤ 10000000) : ∀ (d n k : Nat) (x : List Int), n + d = l.length → x.length ≤ 100 + 100 * n → d < k →
    spec_Encode.l1 k x l (l.length : Int) (n : Int) = some (x ++ bodyOf (l.drop n), true) := by
  intro d
  induction d with
  | zero =>
    intro n k x hd hx hk
    obtain ⟨k, rfl⟩ : ∃ m, k = m + 1 := ⟨k - 1, by omega⟩
    rw [spec_Encode.l1, if_neg (by omega), List.drop_eq_nil_of_le (by omega), bodyOf, List.append_nil]
  | succ d ih =>
    intro n k x hd hx hk
    obtain ⟨k, rfl⟩ : ∃ m, k = m + 1 := ⟨k - 1, by omega⟩
    have hs := hw _ (rdF_mem l n (by omega))
    rw [spec_Encode.l1, if_pos (by omega), if_pos (by omega), if_pos (by omega), dropF l n (by omega), bodyOf, spec_PutField_at _ _ (by omega), w64s (by omega), Option.bind_some]
    have hb := putField_len (rd_T79 l (n : Int)).f0 (bytesOf (rd_T79 l (n : Int)).f1)
    rw [if_pos (by omega), ih (n + 1) k _ (by omega) (by simp; omega) (by omega), List.append_assoc]
theorem spec_Encode_at (m : ByteArray) (l : List IF) (hm : m.size ≤ 10000000) (hl : l.length ≤ 10000000) (hw : ∀ f ∈ l, f.f1.size ≤ 10000000) (k : Nat) (hk : 3 * l.length + m.size + 20000000 < k) : spec_Encode.f k m l = some (encode m l) := by
  unfold spec_Encode.f encode
  rw [spec_MsgOk_at m l hm hl 10000000 (by omega) hw k (by omega), Option.bind_some]
  by_cases h : msgOk m l = true
  · obtain ⟨hmti, hr⟩ := msg_parts m l h
    obtain ⟨b1, b2, b3⟩ := mti_bcd m hmti
    rw [if_pos h, if_pos h]
    have hz := spec_Encode_l m l hl hr l.length 0 (k - l.length) [] [] (by omega) (by simp) (by simp)
    rw [show k - l.length + l.length = k by omega] at hz
    refine hz.trans ?_
    rw [List.drop_zero, List.nil_append, List.nil_append]
    obtain ⟨k, rfl⟩ : ∃ q, k = q + 3 + l.length := ⟨k - 3 - l.length, by omega⟩
    have z4 := low_len l
    have z5 := high_len l
    have z6 := bodyOf_len l
    have p1 := putBits_length (lowOf l)
    have p2 := putBits_length (lowOf l ++ [1])
    have p3 := putBits_length (highOf l)
    have hj2 : ∀ x : List Int, x.length ≤ 100 → spec_Encode.j2 (k + 1) x m l = some (x ++ bodyOf l, true) := by
      intro x hx
      rw [spec_Encode.j2]
      exact spec_Encode_l1 l hl hw l.length 0 k x (by omega) (by omega) (by omega)
    rw [show k + 3 + l.length - l.length = k + 2 + 1 by omega, spec_Encode.l0, if_neg (by omega), spec_PutBcd_at m (by omega) (k + 2) (by omega), b1, Option.bind_some]
    unfold headOf
    by_cases q : highOf l = []
    · rw [q, if_neg (by simp), spec_Encode.j1, spec_PutBits_at _ (by omega) (k + 1) (by omega), Option.bind_some, if_pos rfl]
      simp only
      rw [if_pos (by omega), Option.bind_some, if_neg (by simp), hj2 _ (by rw [List.length_append]; omega)]
    · have q2 : (highOf l).length ≠ 0 := fun z => q (List.length_eq_zero_iff.1 z)
      rw [if_pos (by omega), if_pos (by omega), spec_Encode.j1, spec_PutBits_at _ (by simp; omega) (k + 1) (by simp; omega), Option.bind_some, if_neg q]
      simp only
      rw [if_pos (by omega), Option.bind_some, if_pos (by omega), spec_PutBits_at _ (by omega) (k + 1) (by omega), Option.bind_some, if_pos (by rw [List.length_append]; omega), hj2 _ (by rw [List.length_append, List.length_append]; omega)]
      simp
  · rw [if_neg h, if_neg h]
theorem set_bytes (l : List Int) (n : Nat) (c : Int) (hl : ∀ x ∈ l, isByte x) (hc : isByte c) : ∀ x ∈ l.set n c, isByte x := by
  intro x hx
  rcases List.mem_or_eq_of_mem_set hx with h | rfl
  · exact hl x h
  · exact hc
theorem mod_byte (c : Int) : isByte (c % 256) := by unfold isByte; omega
theorem l01Bytes_l (b : List Int) (hb : b.length ≤ 10000000) : ∀ (d k : Nat) (x : List Int) (i h : Int), x.length + d ≤ 1000 → (∀ c ∈ x, isByte c) → 0 ≤ i → i ≤ (b.length : Int) → d < k →
    ∃ y i' h', spec_l01Bytes.l0 k x (d : Int) b i h = some (y, i', h') ∧ (∀ c ∈ y, isByte c) ∧ y.length = x.length + d := by
  intro d
  induction d with
  | zero =>
    intro k x i h hx hc h0 h1 hk
    obtain ⟨k, rfl⟩ : ∃ m, k = m + 1 := ⟨k - 1, by omega⟩
    rw [spec_l01Bytes.l0, if_neg (by omega)]
    exact ⟨x, i, h, rfl, hc, rfl⟩
  | succ d ih =>
    intro k x i h hx hc h0 h1 hk
    obtain ⟨k, rfl⟩ : ∃ m, k = m + 1 := ⟨k - 1, by omega⟩
    obtain ⟨r, i', h', e, r0, r1, q0, q1⟩ := l01Byte_at b i h hb h0 h1
    have ed : wrap64 (((d + 1 : Nat) : Int) - 1) = (d : Int) := by unfold wrap64; omega
    rw [spec_l01Bytes.l0, if_pos (by omega), e, Option.bind_some, if_pos (by omega), ed]
    obtain ⟨y, i2, h2, e2, f1, f2⟩ := ih k (x ++ [r % 256]) i' h' (by simp; omega) (fun c hx => by
      rcases List.mem_append.1 hx with hx | hx
      · exact hc c hx
      · rw [List.mem_singleton.1 hx]; exact mod_byte r) q0 q1 (by omega)
    exact ⟨y, i2, h2, e2, f1, by rw [f2]; simp; omega⟩
theorem l01Any_at (b : List Int) (i h n : Int) (hb : b.length ≤ 10000000) (h0 : 0 ≤ i) (h1 : i ≤ (b.length : Int)) (n0 : 0 < n) : ∃ r i' h', spec_l01Below.f b i h n = some (r, i', h') ∧ 0 ≤ r ∧ r < n ∧ 0 ≤ i' ∧ i' ≤ (b.length : Int) := by
  by_cases hn : n ≤ 256
  · exact l01Below_at b i h n hb h0 h1 n0 hn
  obtain ⟨r, i', h', e, r0, r1, q0, q1⟩ := l01Byte_at b i h hb h0 h1
  obtain ⟨s, i2, h2, e2, s0, s1, q2, q3⟩ := l01Byte_at b i' h' hb q0 q1
  obtain ⟨t, i3, h3, e3, t0, t1, q4, q5⟩ := l01Byte_at b i2 h2 hb q2 q3
  obtain ⟨u, i4, h4, e4, u0, u1, q6, q7⟩ := l01Byte_at b i3 h3 hb q4 q5
  unfold spec_l01Below.f
  rw [if_neg (by omega), if_neg (by omega), e, Option.bind_some]
  simp only
  rw [e2, Option.bind_some]
  simp only
  rw [e3, Option.bind_some]
  simp only
  rw [e4, Option.bind_some, if_neg (by omega)]
  exact ⟨_, _, _, rfl, Int.tmod_nonneg _ (by unfold wrap64; omega), Int.tmod_lt_of_pos _ n0, q6, q7⟩
theorem l04Bytes_at (b : List Int) (i h : Int) (hb : b.length ≤ 10000000) (h0 : 0 ≤ i) (h1 : i ≤ (b.length : Int)) (k : Nat) (hk : 30000000 < k) :
    ∃ y i' h', spec_l04Bytes.f k b i h = some (y, i', h') ∧ (∀ c ∈ y, isByte c) ∧ y.length ≤ 10000 := by
  obtain ⟨m, l, i1, h1', e1, m1, m2, m3, m4, q0, q1⟩ := l04Draw_at b i h hb h0 h1 k (by omega)
  have hE := spec_Encode_at m l (by omega) (by omega) (fun f hf => Nat.le_trans (m4 f hf) (by omega)) k (by omega)
  have hby := encode_bytes m l
  have hle := encode_len m l m1
  generalize encode m l = v at hE hby hle
  obtain ⟨v, vb⟩ := v
  simp only at hby hle
  obtain ⟨r, i2, h2, e2, r0, r1, q2, q3⟩ := l01Below_at b i1 h1' 8 hb q0 q1 (by omega) (by omega)
  unfold spec_l04Bytes.f
  rw [e1, Option.bind_some]
  simp only
  rw [hE, Option.bind_some]
  simp only
  rw [e2, Option.bind_some]
  simp only
  by_cases c0 : r = 0
  · have ew : wrap64 ((v.length : Int) + 1) = (v.length : Int) + 1 := by unfold wrap64; omega
    obtain ⟨s, i3, h3, e3, s0, s1, _⟩ := l01Any_at b i2 h2 ((v.length : Int) + 1) hb q2 q3 (by omega)
    rw [if_pos c0, ew, e3, Option.bind_some]
    simp only
    rw [if_pos s0, if_pos (by omega)]
    exact ⟨_, _, _, rfl, fun c hc => hby c (List.mem_of_mem_take hc), by simp; omega⟩
  rw [if_neg c0]
  by_cases c1 : r = 1
  · obtain ⟨s, i3, h3, e3, s0, s1, q4, q5⟩ := l01Any_at b i2 h2 (v.length : Int) hb q2 q3 (by omega)
    obtain ⟨t, i4, h4, e4, _⟩ := l01Byte_at b i3 h3 hb q4 q5
    rw [if_pos c1, e3, Option.bind_some]
    simp only
    rw [e4, Option.bind_some, if_pos s0, if_pos s1]
    exact ⟨_, _, _, rfl, set_bytes _ _ _ hby (mod_byte _), by simp; omega⟩
  rw [if_neg c1]
  by_cases c2 : r = 2
  · obtain ⟨s, i3, h3, e3, s0, s1, q4, q5⟩ := l01Below_at b i2 h2 8 hb q2 q3 (by omega) (by omega)
    obtain ⟨t, i4, h4, e4, _⟩ := l01Byte_at b i3 h3 hb q4 q5
    have ew : wrap64 (2 + s) = 2 + s := by unfold wrap64; omega
    rw [if_pos c2, e3, Option.bind_some]
    simp only
    rw [e4, Option.bind_some, ew, if_pos (by omega), if_pos (by omega)]
    exact ⟨_, _, _, rfl, set_bytes _ _ _ hby (mod_byte _), by simp; omega⟩
  rw [if_neg c2]
  by_cases c3 : r = 3
  · obtain ⟨t, i4, h4, e4, _⟩ := l01Byte_at b i2 h2 hb q2 q3
    rw [if_pos c3, e4, Option.bind_some, if_pos (by omega)]
    refine ⟨_, _, _, rfl, fun c hc => ?_, by simp; omega⟩
    rcases List.mem_append.1 hc with hc | hc
    · exact hby c hc
    · rw [List.mem_singleton.1 hc]; exact mod_byte _
  rw [if_neg c3]
  exact ⟨_, _, _, rfl, hby, by omega⟩
theorem MakeBytes_at (b : List Int) (hb : b.length ≤ 10000000) (k : Nat) (hk : b.length + 30000000 < k) : ∃ y, spec_MakeBytes.f k b = some y ∧ (∀ c ∈ y, isByte c) ∧ y.length ≤ 10000 := by
  obtain ⟨h, e⟩ := l01New_at b hb k (by omega)
  obtain ⟨r, i', h', e2, q0, q1⟩ := l01Once_at b 0 h 4 hb (by omega) (by omega) (by omega) (by omega)
  unfold spec_MakeBytes.f
  rw [e, Option.bind_some]
  simp only
  rw [e2, Option.bind_some]
  simp only
  cases r with
  | true =>
    have ew : wrap64 (30 + 1) = 31 := by unfold wrap64; omega
    obtain ⟨n, i2, h2, e3, n0, n1, q2, q3⟩ := l01Below_at b i' h' 31 hb q0 q1 (by omega) (by omega)
    obtain ⟨d, rfl⟩ := Int.eq_ofNat_of_zero_le n0
    obtain ⟨y, i3, h3, e4, f1, f2⟩ := l01Bytes_l b hb d k [] i2 h2 (by simp; omega) (fun c hc => by cases hc) q2 q3 (by omega)
    rw [if_pos rfl]
    unfold spec_l01Bytes.f
    rw [ew, e3, Option.bind_some]
    simp only
    rw [e4, Option.bind_some]
    exact ⟨y, rfl, f1, by rw [f2]; simp; omega⟩
  | false =>
    obtain ⟨y, i3, h3, e4, f1, f2⟩ := l04Bytes_at b i' h' hb q0 q1 k (by omega)
    rw [if_neg (by simp), e4, Option.bind_some]
    exact ⟨y, rfl, f1, f2⟩
theorem FnBytes : ∀ (l0 : List Int), l0.length ≤ maxLen → l0.length * 1 ≤ 140737488351232 → (∀ x ∈ l0, (Lit.int .u8 x).wf = true) → ∃ k, laws_FnBytes.f k l0 = some true := by
  intro b _ _ _
  by_cases hb : (b.length : Int) > 1048576
  · exact ⟨0, by unfold laws_FnBytes.f; rw [if_pos hb]⟩
  obtain ⟨K, hK⟩ : ∃ K : Nat, b.length + 100000000 ≤ K := ⟨_, Nat.le_refl _⟩
  refine ⟨K, ?_⟩
  obtain ⟨y, e1, y1, y2⟩ := MakeBytes_at b (by omega) K (by omega)
  have h2 := impl_Parse_at y (by omega) y1 K (by omega)
  have hz := parse_len y
  have hback := encode_parse y y1
  have hcodes := parse_codes y
  generalize parse y = r at h2 hz hback hcodes
  obtain ⟨m, z, c⟩ := r
  simp only at hz hcodes
  unfold laws_FnBytes.f
  rw [if_neg hb, e1, Option.bind_some, h2, Option.bind_some]
  simp only
  by_cases hc : c = 0
  · subst hc
    obtain ⟨ok, he⟩ := hback m z rfl
    have ok' := ok
    unfold msgOk at ok'
    simp only [Bool.and_eq_true] at ok'
    obtain ⟨_, hm4⟩ := isMti_facts m ok'.1
    rw [bytesOf_length] at hm4
    obtain ⟨o1, _, _⟩ := (okFrom_iff z none).1 ok'.2
    have hw : ∀ f ∈ z, f.f1.size ≤ 10000000 := fun f hf => by
      have h := fieldOk_len _ _ (o1 f hf)
      rw [bytesOf_length] at h
      have := sizeOf_range f.f0
      omega
    have h3 := impl_Encode_at m z (by omega) (by omega) hw K (by omega)
    rw [he] at h3
    have h4 := impl_MsgOk_at m z (by omega) (by omega) 10000000 (by omega) hw K (by omega)
    rw [ok] at h4
    rw [if_pos rfl, h3, Option.bind_some]
    simp only
    rw [if_pos trivial, if_pos trivial, h4, Option.bind_some]
  · rcases hcodes with h | ⟨⟨h5, h6⟩, rfl, rfl⟩
    · exact absurd h hc
    rw [if_neg hc, if_pos h5, if_pos h6, if_pos (show ((([] : List IF).length : Nat) : Int) = 0 from rfl)]
    have : (((⟨#[]⟩ : ByteArray).toList) == ([] : List UInt8)) = true := by rw [ByteArray.toList_eq]; rfl
    rw [this]
end Go.Proofs.YtfiieppnpmodoaaDoor.Q
end
