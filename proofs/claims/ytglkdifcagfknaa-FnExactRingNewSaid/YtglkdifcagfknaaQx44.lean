-- Written by a program of this session (wip/mkprint.py, after the kit's print). Lean checks it.
import Derived.Test.YtglkdifcagfknaaQx0
import Derived.Test.YtglkdifcagfknaaQx40
import Derived.Test.YtglkdifcagfknaaQx41
import Derived.Test.YtglkdifcagfknaaQx42
import Derived.Test.YtglkdifcagfknaaQx43
namespace Go.Proofs.Ytglkdifcagfknaa.Q
open Go.RowKit Go.Proofs.YtglkdifcagfknaaW.PrintWords Go.Proofs.YtglkdifcagfknaaW.PrintLast Go.Proofs.YtglkdifcagfknaaW.PrintMore
attribute [local go_sem] max2_int min2_int max_two min_two max_three min_three max_four min_four   -- for this text's walks alone
set_option linter.unusedVariables false
set_option linter.unusedSimpArgs false

/-! ### laws_FnExactRingNew: function 14 -/
mutual
def laws_FnExactRingNew.j0 : Nat → Int → Int → Bool → Bool → Int → Int → List Int → List Int → Int → Int → List Int → List Int → Option (Bool)
  | 0, _, _, _, _, _, _, _, _, _, _, _, _ => none
  | k + 1, x0, x1, x6, x33, x416000, x416001, x416002, x416003, x426000, x426001, x426002, x426003 => if x33 = true then (some false) else ((laws_markRing.f k x426000 x426001 x426002 x426003 1).bind fun bt427 => ((laws_heldRing.f k x426000 x426001 bt427.2.1 bt427.2.2 1).bind fun t430 => (if t430 < 0 then (some false) else (if t430 = bt427.1 then ((impl_RingNew.f x0 x1).bind fun bt431 => ((laws_eqRing.f k bt431.1 bt431.2.1 bt431.2.2.1 bt431.2.2.2.1 x416000 x416001 x416002 x416003).bind fun t441 => (if t441 = true then (laws_FnExactRingNew.j1 k bt427.1 (bt431.2.2.2.2 != x6) x426000 x426001 bt427.2.1 bt427.2.2) else (laws_FnExactRingNew.j1 k bt427.1 true x426000 x426001 bt427.2.1 bt427.2.2)))) else (some false)))))
def laws_FnExactRingNew.j1 : Nat → Int → Bool → Int → Int → List Int → List Int → Option (Bool)
  | 0, _, _, _, _, _, _ => none
  | k + 1, x9, x59, x426000, x426001, x426002, x426003 => if x59 = true then (some false) else ((laws_heldRing.f k x426000 x426001 x426002 x426003 1).bind fun t442 => (if t442 < 0 then (some false) else (if t442 = x9 then (some true) else (some false))))
end
def laws_FnExactRingNew.f (k : Nat) (a0 : Int) (a1 : Int) : Option (Bool) := (spec_RingNew.f a0 a1).bind fun bt406 => ((impl_RingNew.f a0 a1).bind fun bt416 => ((laws_eqRing.f k bt416.1 bt416.2.1 bt416.2.2.1 bt416.2.2.2.1 bt406.1 bt406.2.1 bt406.2.2.1 bt406.2.2.2.1).bind fun t426 => (if t426 = true then (laws_FnExactRingNew.j0 k a0 a1 bt406.2.2.2.2 (bt416.2.2.2.2 != bt406.2.2.2.2) bt406.1 bt406.2.1 bt406.2.2.1 bt406.2.2.2.1 bt416.1 bt416.2.1 bt416.2.2.1 bt416.2.2.2.1) else (laws_FnExactRingNew.j0 k a0 a1 bt406.2.2.2.2 true bt406.1 bt406.2.1 bt406.2.2.1 bt406.2.2.2.1 bt416.1 bt416.2.1 bt416.2.2.1 bt416.2.2.2.1))))
theorem laws_FnExactRingNew.mono_l : ∀ k, (∀ y0 y1 y2 y3 y4 y5 y6 y7 y8 y9 y10 y11, LeO (laws_FnExactRingNew.j0 k y0 y1 y2 y3 y4 y5 y6 y7 y8 y9 y10 y11) (laws_FnExactRingNew.j0 (k + 1) y0 y1 y2 y3 y4 y5 y6 y7 y8 y9 y10 y11)) ∧ (∀ y0 y1 y2 y3 y4 y5, LeO (laws_FnExactRingNew.j1 k y0 y1 y2 y3 y4 y5) (laws_FnExactRingNew.j1 (k + 1) y0 y1 y2 y3 y4 y5))
  | 0 => ⟨fun _ _ _ _ _ _ _ _ _ _ _ _ r h => by simp [laws_FnExactRingNew.j0] at h, fun _ _ _ _ _ _ r h => by simp [laws_FnExactRingNew.j1] at h⟩
  | k + 1 => by
    obtain ⟨ih0, ih1⟩ := laws_FnExactRingNew.mono_l k
    refine ⟨?_, ?_⟩
    · intro y0 y1 y2 y3 y4 y5 y6 y7 y8 y9 y10 y11
      unfold laws_FnExactRingNew.j0
      repeat' first
      | (with_reducible exact ih0 _ _ _ _ _ _ _ _ _ _ _ _)
      | (with_reducible exact ih1 _ _ _ _ _ _)
      | (with_reducible exact laws_eqRing.mono _ _ _ _ _ _ _ _ _)
      | (with_reducible exact laws_heldRing.mono _ _ _ _ _ _)
      | (with_reducible exact laws_markRing.mono _ _ _ _ _ _)
      | (with_reducible exact LeO.refl _)
      | (with_reducible exact LeO.none _)
      | (with_reducible refine LeO.ite ?_ ?_)
      | (with_reducible refine LeO.bind ?_ (fun _ => ?_))
      | exact ih0 _ _ _ _ _ _ _ _ _ _ _ _
      | exact ih1 _ _ _ _ _ _
      | exact laws_eqRing.mono _ _ _ _ _ _ _ _ _
      | exact laws_heldRing.mono _ _ _ _ _ _
      | exact laws_markRing.mono _ _ _ _ _ _
      | exact LeO.none _
      | refine LeO.ite ?_ ?_
      | refine LeO.bind ?_ (fun _ => ?_)
    · intro y0 y1 y2 y3 y4 y5
      unfold laws_FnExactRingNew.j1
      repeat' first
      | (with_reducible exact ih0 _ _ _ _ _ _ _ _ _ _ _ _)
      | (with_reducible exact ih1 _ _ _ _ _ _)
      | (with_reducible exact laws_eqRing.mono _ _ _ _ _ _ _ _ _)
      | (with_reducible exact laws_heldRing.mono _ _ _ _ _ _)
      | (with_reducible exact laws_markRing.mono _ _ _ _ _ _)
      | (with_reducible exact LeO.refl _)
      | (with_reducible exact LeO.none _)
      | (with_reducible refine LeO.ite ?_ ?_)
      | (with_reducible refine LeO.bind ?_ (fun _ => ?_))
      | exact ih0 _ _ _ _ _ _ _ _ _ _ _ _
      | exact ih1 _ _ _ _ _ _
      | exact laws_eqRing.mono _ _ _ _ _ _ _ _ _
      | exact laws_heldRing.mono _ _ _ _ _ _
      | exact laws_markRing.mono _ _ _ _ _ _
      | exact LeO.none _
      | refine LeO.ite ?_ ?_
      | refine LeO.bind ?_ (fun _ => ?_)
theorem laws_FnExactRingNew.mono : ∀ a0 a1 k, LeO (laws_FnExactRingNew.f k a0 a1) (laws_FnExactRingNew.f (k + 1) a0 a1) := by
  intro a0 a1 k
  obtain ⟨ih0, ih1⟩ := laws_FnExactRingNew.mono_l k
  unfold laws_FnExactRingNew.f
  repeat' first
      | (with_reducible exact ih0 _ _ _ _ _ _ _ _ _ _ _ _)
      | (with_reducible exact ih1 _ _ _ _ _ _)
      | (with_reducible exact laws_eqRing.mono _ _ _ _ _ _ _ _ _)
      | (with_reducible exact laws_heldRing.mono _ _ _ _ _ _)
      | (with_reducible exact laws_markRing.mono _ _ _ _ _ _)
      | (with_reducible exact LeO.refl _)
      | (with_reducible exact LeO.none _)
      | (with_reducible refine LeO.ite ?_ ?_)
      | (with_reducible refine LeO.bind ?_ (fun _ => ?_))
      | exact ih0 _ _ _ _ _ _ _ _ _ _ _ _
      | exact ih1 _ _ _ _ _ _
      | exact laws_eqRing.mono _ _ _ _ _ _ _ _ _
      | exact laws_heldRing.mono _ _ _ _ _ _
      | exact laws_markRing.mono _ _ _ _ _ _
      | exact LeO.none _
      | refine LeO.ite ?_ ?_
      | refine LeO.bind ?_ (fun _ => ?_)
set_option maxHeartbeats 8000000 in
set_option maxRecDepth 100000 in
theorem laws_FnExactRingNew.calls (k : Nat) (a0 : Int) (a1 : Int) (r : Bool) (w : World) (hr_ : r = true) (h : laws_FnExactRingNew.f k a0 a1 = some r) :
    Calls Try.prog 14 #[.int .i64 a0, .int .i64 a1] w fun e w' => e = .returned (.bool r) ∧ Below w.heap.size w w' := by
  have hu45 := Try.underlying45
  have HB := Aside0.mk (Below.refl w.heap.size w)
  have H : ((spec_RingNew.f a0 a1).bind fun bt406 => ((impl_RingNew.f a0 a1).bind fun bt416 => ((laws_eqRing.f k bt416.1 bt416.2.1 bt416.2.2.1 bt416.2.2.2.1 bt406.1 bt406.2.1 bt406.2.2.1 bt406.2.2.2.1).bind fun t426 => (if t426 = true then (laws_FnExactRingNew.j0 k a0 a1 bt406.2.2.2.2 (bt416.2.2.2.2 != bt406.2.2.2.2) bt406.1 bt406.2.1 bt406.2.2.1 bt406.2.2.2.1 bt416.1 bt416.2.1 bt416.2.2.1 bt416.2.2.2.1) else (laws_FnExactRingNew.j0 k a0 a1 bt406.2.2.2.2 true bt406.1 bt406.2.1 bt406.2.2.1 bt406.2.2.2.1 bt416.1 bt416.2.1 bt416.2.2.1 bt416.2.2.2.1))))) = some r := h
  clear h
  replace H := Option.bind_eq_some_iff.mp H
  obtain ⟨⟨t406, t407, t408, t411, t414⟩, A30, H⟩ := H
  replace H : ((impl_RingNew.f a0 a1).bind fun bt416 => ((laws_eqRing.f k bt416.1 bt416.2.1 bt416.2.2.1 bt416.2.2.2.1 t406 t407 t408 t411).bind fun t426 => (if t426 = true then (laws_FnExactRingNew.j0 k a0 a1 t414 (bt416.2.2.2.2 != t414) t406 t407 t408 t411 bt416.1 bt416.2.1 bt416.2.2.1 bt416.2.2.2.1) else (laws_FnExactRingNew.j0 k a0 a1 t414 true t406 t407 t408 t411 bt416.1 bt416.2.1 bt416.2.2.1 bt416.2.2.2.1)))) = some r := H
  have A3 := Aside0.mk A30
  clear A30
  replace H := Option.bind_eq_some_iff.mp H
  obtain ⟨⟨t416, t417, t418, t421, t424⟩, A40, H⟩ := H
  replace H : ((laws_eqRing.f k t416 t417 t418 t421 t406 t407 t408 t411).bind fun t426 => (if t426 = true then (laws_FnExactRingNew.j0 k a0 a1 t414 (t424 != t414) t406 t407 t408 t411 t416 t417 t418 t421) else (laws_FnExactRingNew.j0 k a0 a1 t414 true t406 t407 t408 t411 t416 t417 t418 t421))) = some r := H
  have A4 := Aside0.mk A40
  clear A40
  have HC5 := Aside0.mk H
  clear H
  go_enter Try.func14, Try.ntmps14
  go_upto_region 3 with (first | ((with_reducible refine gate_callee (f := 45) rfl ?_); refine goesL_ (some 16) rfl rfl Try.func45 (by kernel_rfl) rfl #[.int .i64 a0, .int .i64 a1] rfl (by (try simp only [List.map_toArray, List.map_cons, List.map_nil]); first | done | rfl | (simp only [List.length_drop, List.length_take]; rfl)) ?_; (with_reducible refine (spec_RingNew.calls a0 a1 t406 t407 t408 t411 t414 _ A3.out).mono ?_); rintro e w6 ⟨v409, v412, rfl, ho0, ho1, hb⟩; refine ⟨_, rfl, ?_⟩; have n0_ := Aside0.mk (Kd.R_lower ho0 (below_size (by repeat (first | (with_reducible first | exact HB.out | apply below_alloc | apply pw_below_drewN | apply below_drew1) | exact HB.out)))); have n1_ := Aside0.mk (Kd.R_lower ho1 (below_size (by repeat (first | (with_reducible first | exact HB.out | apply below_alloc | apply pw_below_drewN | apply below_drew1) | exact HB.out)))); have n2_ := Aside0.mk (below_step (by repeat (first | (with_reducible first | exact HB.out | apply below_alloc | apply pw_below_drewN | apply below_drew1) | exact HB.out)) hb); clear HB; have HO410 := n0_; have HO413 := n1_; have HB := n2_; clear n0_ n1_ n2_; (try clear hb); (try clear hb2); (try clear hk); (try clear hi); (try clear ho0); (try clear ho1)) | ((with_reducible refine gate_dst (N := 5) rfl ?_); refine box_event ?hg (N := 5) ?hd (cs := #[.int .i64 0, .int .i64 0, .slice none 0 0, .slice none 0 0]) (t := 45) ?hr ?_; (case hd => rfl); (case hg => rfl); (case hr => first | (go_simp; done) | (go_simp; rfl)); intro gb415 hg w7 hbox hb; have n0_ := Aside0.mk (Kd.R_below (by (with_reducible repeat (first | apply Kd.R_alloc | apply Kd.R_drewN | apply Kd.R_drew)); exact HO410.out) hb); have n1_ := Aside0.mk (Kd.R_below (by (with_reducible repeat (first | apply Kd.R_alloc | apply Kd.R_drewN | apply Kd.R_drew)); exact HO413.out) hb); have n2_ := Aside0.mk (below_step (by repeat (first | (with_reducible first | exact HB.out | apply below_alloc | apply pw_below_drewN | apply below_drew1) | exact HB.out)) hb); have n3_ := Aside0.mk (hbox); have n4_ := Aside0.mk ((by rw [hg]; exact (below_size (by repeat (first | (with_reducible first | exact HB.out | apply below_alloc | apply pw_below_drewN | apply below_drew1) | exact HB.out))) : w.heap.size ≤ gb415)); have n5_ := Aside0.mk ((by rw [hg]; exact (below_size (by repeat (first | (with_reducible first | exact HB.out | apply below_alloc | apply pw_below_drewN | apply below_drew1) | exact HB.out))) : w.heap.size ≤ gb415)); clear HO410; clear HO413; clear HB; have HO410 := n0_; have HO413 := n1_; have HB := n2_; have BK415 := n3_; have GW415 := n4_; have GE415 := n5_; clear n0_ n1_ n2_ n3_ n4_ n5_; clear hb hbox hg; have hcz8_0 : w7.cell? ⟨gb415, 0, none⟩ = some (.int .i64 0) := (blk_cell BK415.out 0).trans rfl; have hcz8_1 : w7.cell? ⟨gb415, 1, none⟩ = some (.int .i64 0) := (blk_cell BK415.out 1).trans rfl; have hcz8_2 : w7.cell? ⟨gb415, 2, none⟩ = some (.slice none 0 0) := (blk_cell BK415.out 2).trans rfl; have hcz8_3 : w7.cell? ⟨gb415, 3, none⟩ = some (.slice none 0 0) := (blk_cell BK415.out 3).trans rfl; have hfz8_0 := blk_frozen BK415.out 0; have hfz8_1 := blk_frozen BK415.out 1; have hfz8_2 := blk_frozen BK415.out 2; have hfz8_3 := blk_frozen BK415.out 3; obtain ⟨Ao9, co9, eo9⟩ := Kd.R_slice HO410.out; subst eo9; obtain ⟨Ao10, co10, eo10⟩ := Kd.R_slice HO413.out; subst eo10) | ((with_reducible refine gate_callee (f := 46) rfl ?_); refine goesL_ (some 22) rfl rfl Try.func46 (by kernel_rfl) rfl #[.int .i64 a0, .int .i64 a1] rfl (by (try simp only [List.map_toArray, List.map_cons, List.map_nil]); first | done | rfl | (simp only [List.length_drop, List.length_take]; rfl)) ?_; (with_reducible refine (impl_RingNew.calls a0 a1 t416 t417 t418 t421 t424 _ A4.out).mono ?_); rintro e w11 ⟨v419, v422, rfl, ho0, ho1, hb⟩; refine ⟨_, rfl, ?_⟩; have n0_ := Aside0.mk (Kd.R_mono (Kd.R_told (Kd.R_told (Kd.R_old (by (with_reducible repeat (first | apply Kd.R_alloc | apply Kd.R_drewN | apply Kd.R_drew)); exact (Kd.R_mono (Kd.R_far (p := ⟨gb415, 3, none⟩) (Kd.R_far (p := ⟨gb415, 2, none⟩) (Kd.R_far (p := ⟨gb415, 1, none⟩) (Kd.R_far (p := ⟨gb415, 0, none⟩) (Kd.R_types HO410.out BK415.out (by decide)) (fun _ hk => hk.2) (.int .i64 t406)) (fun _ hk => hk.2) (.int .i64 t407)) (fun _ hk => hk.2) (.slice Ao9 t408.length co9)) (fun _ hk => hk.2) (.slice Ao10 t411.length co10)) (fun _ h_ => h_.1))) hb) (Kd.R_base ho0)) (Kd.R_base ho1)) (fun _ h_ => h_.1)); have n1_ := Aside0.mk (Kd.R_mono (Kd.R_told (Kd.R_told (Kd.R_old (by (with_reducible repeat (first | apply Kd.R_alloc | apply Kd.R_drewN | apply Kd.R_drew)); exact (Kd.R_mono (Kd.R_far (p := ⟨gb415, 3, none⟩) (Kd.R_far (p := ⟨gb415, 2, none⟩) (Kd.R_far (p := ⟨gb415, 1, none⟩) (Kd.R_far (p := ⟨gb415, 0, none⟩) (Kd.R_types HO413.out BK415.out (by decide)) (fun _ hk => hk.2) (.int .i64 t406)) (fun _ hk => hk.2) (.int .i64 t407)) (fun _ hk => hk.2) (.slice Ao9 t408.length co9)) (fun _ hk => hk.2) (.slice Ao10 t411.length co10)) (fun _ h_ => h_.1))) hb) (Kd.R_base ho0)) (Kd.R_base ho1)) (fun _ h_ => h_.1)); have n2_ := Aside0.mk (Kd.R_lower (Kd.R_new' (Kd.R_new' ho0 (Kd.R_lt (by (with_reducible repeat (first | apply Kd.R_alloc | apply Kd.R_drewN | apply Kd.R_drew)); exact (Kd.R_mono (Kd.R_far (p := ⟨gb415, 3, none⟩) (Kd.R_far (p := ⟨gb415, 2, none⟩) (Kd.R_far (p := ⟨gb415, 1, none⟩) (Kd.R_far (p := ⟨gb415, 0, none⟩) (Kd.R_types HO410.out BK415.out (by decide)) (fun _ hk => hk.2) (.int .i64 t406)) (fun _ hk => hk.2) (.int .i64 t407)) (fun _ hk => hk.2) (.slice Ao9 t408.length co9)) (fun _ hk => hk.2) (.slice Ao10 t411.length co10)) (fun _ h_ => h_.1))))) (Kd.R_lt (by (with_reducible repeat (first | apply Kd.R_alloc | apply Kd.R_drewN | apply Kd.R_drew)); exact (Kd.R_mono (Kd.R_far (p := ⟨gb415, 3, none⟩) (Kd.R_far (p := ⟨gb415, 2, none⟩) (Kd.R_far (p := ⟨gb415, 1, none⟩) (Kd.R_far (p := ⟨gb415, 0, none⟩) (Kd.R_types HO413.out BK415.out (by decide)) (fun _ hk => hk.2) (.int .i64 t406)) (fun _ hk => hk.2) (.int .i64 t407)) (fun _ hk => hk.2) (.slice Ao9 t408.length co9)) (fun _ hk => hk.2) (.slice Ao10 t411.length co10)) (fun _ h_ => h_.1))))) (below_size (by repeat (first | (with_reducible first | exact HB.out | apply below_alloc | apply pw_below_drewN | apply below_drew1 | refine below_set ?_ GE415.out) | exact HB.out)))); have n3_ := Aside0.mk (Kd.R_lower (Kd.R_new' (Kd.R_new' ho1 (Kd.R_lt (by (with_reducible repeat (first | apply Kd.R_alloc | apply Kd.R_drewN | apply Kd.R_drew)); exact (Kd.R_mono (Kd.R_far (p := ⟨gb415, 3, none⟩) (Kd.R_far (p := ⟨gb415, 2, none⟩) (Kd.R_far (p := ⟨gb415, 1, none⟩) (Kd.R_far (p := ⟨gb415, 0, none⟩) (Kd.R_types HO410.out BK415.out (by decide)) (fun _ hk => hk.2) (.int .i64 t406)) (fun _ hk => hk.2) (.int .i64 t407)) (fun _ hk => hk.2) (.slice Ao9 t408.length co9)) (fun _ hk => hk.2) (.slice Ao10 t411.length co10)) (fun _ h_ => h_.1))))) (Kd.R_lt (by (with_reducible repeat (first | apply Kd.R_alloc | apply Kd.R_drewN | apply Kd.R_drew)); exact (Kd.R_mono (Kd.R_far (p := ⟨gb415, 3, none⟩) (Kd.R_far (p := ⟨gb415, 2, none⟩) (Kd.R_far (p := ⟨gb415, 1, none⟩) (Kd.R_far (p := ⟨gb415, 0, none⟩) (Kd.R_types HO413.out BK415.out (by decide)) (fun _ hk => hk.2) (.int .i64 t406)) (fun _ hk => hk.2) (.int .i64 t407)) (fun _ hk => hk.2) (.slice Ao9 t408.length co9)) (fun _ hk => hk.2) (.slice Ao10 t411.length co10)) (fun _ h_ => h_.1))))) (below_size (by repeat (first | (with_reducible first | exact HB.out | apply below_alloc | apply pw_below_drewN | apply below_drew1 | refine below_set ?_ GE415.out) | exact HB.out)))); have n4_ := Aside0.mk (blk_below (g := gb415) (o := .cells #[.int .i64 t406, .int .i64 t407, .slice Ao9 t408.length co9, .slice Ao10 t411.length co10] 45 (0, 0)) (by (with_reducible repeat (first | refine blk_drewN ?_ _ | refine blk_drew ?_ | refine blk_alloc ?_ _)); refine blk_put (cs := #[.int .i64 t406, .int .i64 t407, .slice Ao9 t408.length co9, .slice none 0 0]) ?_ 3 _ rfl; (with_reducible repeat (first | refine blk_drewN ?_ _ | refine blk_drew ?_ | refine blk_alloc ?_ _)); refine blk_put (cs := #[.int .i64 t406, .int .i64 t407, .slice none 0 0, .slice none 0 0]) ?_ 2 _ rfl; (with_reducible repeat (first | refine blk_drewN ?_ _ | refine blk_drew ?_ | refine blk_alloc ?_ _)); refine blk_put (cs := #[.int .i64 t406, .int .i64 0, .slice none 0 0, .slice none 0 0]) ?_ 1 _ rfl; (with_reducible repeat (first | refine blk_drewN ?_ _ | refine blk_drew ?_ | refine blk_alloc ?_ _)); refine blk_put (cs := #[.int .i64 0, .int .i64 0, .slice none 0 0, .slice none 0 0]) ?_ 0 _ rfl; (with_reducible repeat (first | refine blk_drewN ?_ _ | refine blk_drew ?_ | refine blk_alloc ?_ _)); exact BK415.out) hb); have n5_ := Aside0.mk (below_step (by repeat (first | (with_reducible first | exact HB.out | apply below_alloc | apply pw_below_drewN | apply below_drew1 | refine below_set ?_ GE415.out) | exact HB.out)) hb); clear HO410; clear HO413; clear BK415; clear HB; have HO410 := n0_; have HO413 := n1_; have HO420 := n2_; have HO423 := n3_; have BK415 := n4_; have HB := n5_; clear n0_ n1_ n2_ n3_ n4_ n5_; (try clear hb); (try clear hb2); (try clear hk); (try clear hi); (try clear ho0); (try clear ho1)) | ((with_reducible refine gate_dst (N := 7) rfl ?_); refine box_event ?hg (N := 7) ?hd (cs := #[.int .i64 0, .int .i64 0, .slice none 0 0, .slice none 0 0]) (t := 45) ?hr ?_; (case hd => rfl); (case hg => rfl); (case hr => first | (go_simp; done) | (go_simp; rfl)); intro gb425 hg w12 hbox hb; have n0_ := Aside0.mk (Kd.R_below (by (with_reducible repeat (first | apply Kd.R_alloc | apply Kd.R_drewN | apply Kd.R_drew)); exact HO410.out) hb); have n1_ := Aside0.mk (Kd.R_below (by (with_reducible repeat (first | apply Kd.R_alloc | apply Kd.R_drewN | apply Kd.R_drew)); exact HO413.out) hb); have n2_ := Aside0.mk (Kd.R_below (by (with_reducible repeat (first | apply Kd.R_alloc | apply Kd.R_drewN | apply Kd.R_drew)); exact HO420.out) hb); have n3_ := Aside0.mk (Kd.R_below (by (with_reducible repeat (first | apply Kd.R_alloc | apply Kd.R_drewN | apply Kd.R_drew)); exact HO423.out) hb); have n4_ := Aside0.mk (blk_below (g := gb415) (o := .cells #[.int .i64 t406, .int .i64 t407, .slice Ao9 t408.length co9, .slice Ao10 t411.length co10] 45 (0, 0)) (by (with_reducible repeat (first | refine blk_drewN ?_ _ | refine blk_drew ?_ | refine blk_alloc ?_ _)); exact BK415.out) hb); have n5_ := Aside0.mk (below_step (by repeat (first | (with_reducible first | exact HB.out | apply below_alloc | apply pw_below_drewN | apply below_drew1 | refine below_set ?_ GE415.out) | exact HB.out)) hb); have n6_ := Aside0.mk (hbox); have n7_ := Aside0.mk ((by rw [hg]; exact (below_size (by repeat (first | (with_reducible first | exact HB.out | apply below_alloc | apply pw_below_drewN | apply below_drew1 | refine below_set ?_ GE415.out) | exact HB.out))) : w.heap.size ≤ gb425)); have n8_ := Aside0.mk ((by rw [hg]; exact (below_size (by repeat (first | (with_reducible first | exact HB.out | apply below_alloc | apply pw_below_drewN | apply below_drew1 | refine below_set ?_ GE415.out) | exact HB.out))) : w.heap.size ≤ gb425)); have n9_ := Aside0.mk ((by rw [hg]; exact Nat.ne_of_lt (blk_lt (g := gb415) (o := .cells #[.int .i64 t406, .int .i64 t407, .slice Ao9 t408.length co9, .slice Ao10 t411.length co10] 45 (0, 0)) (by (with_reducible repeat (first | refine blk_drewN ?_ _ | refine blk_drew ?_ | refine blk_alloc ?_ _)); exact BK415.out)) : gb415 ≠ gb425)); have n10_ := Aside0.mk ((by rw [hg]; exact Nat.ne_of_gt (blk_lt (g := gb415) (o := .cells #[.int .i64 t406, .int .i64 t407, .slice Ao9 t408.length co9, .slice Ao10 t411.length co10] 45 (0, 0)) (by (with_reducible repeat (first | refine blk_drewN ?_ _ | refine blk_drew ?_ | refine blk_alloc ?_ _)); exact BK415.out)) : gb425 ≠ gb415)); clear HO410; clear HO413; clear HO420; clear HO423; clear BK415; clear HB; have HO410 := n0_; have HO413 := n1_; have HO420 := n2_; have HO423 := n3_; have BK415 := n4_; have HB := n5_; have BK425 := n6_; have GW425 := n7_; have GE425 := n8_; have NB415_425 := n9_; have NB425_415 := n10_; clear n0_ n1_ n2_ n3_ n4_ n5_ n6_ n7_ n8_ n9_ n10_; clear hb hbox hg; have hnb13 := NB425_415.out; have hnc13 := NB415_425.out; have hcz14_0 : w12.cell? ⟨gb425, 0, none⟩ = some (.int .i64 0) := (blk_cell BK425.out 0).trans rfl; have hcz14_1 : w12.cell? ⟨gb425, 1, none⟩ = some (.int .i64 0) := (blk_cell BK425.out 1).trans rfl; have hcz14_2 : w12.cell? ⟨gb425, 2, none⟩ = some (.slice none 0 0) := (blk_cell BK425.out 2).trans rfl; have hcz14_3 : w12.cell? ⟨gb425, 3, none⟩ = some (.slice none 0 0) := (blk_cell BK425.out 3).trans rfl; have hfz14_0 := blk_frozen BK425.out 0; have hfz14_1 := blk_frozen BK425.out 1; have hfz14_2 := blk_frozen BK425.out 2; have hfz14_3 := blk_frozen BK425.out 3; obtain ⟨Ao15, co15, eo15⟩ := Kd.R_slice HO420.out; subst eo15; obtain ⟨Ao16, co16, eo16⟩ := Kd.R_slice HO423.out; subst eo16))
  (try simp only [Act.put, List.setIfInBounds_toArray, List.set_cons_zero, List.set_cons_succ])
  go_cut [33] (fun v33 wc => ∃ (kq : Nat) (x33_4 : Bool), v33 = .bool x33_4 ∧ Aside0 (laws_FnExactRingNew.j0 kq a0 a1 t414 x33_4 t406 t407 t408 t411 t416 t417 t418 t421 = some r) ∧ Aside0 (kq ≤ k) ∧ Aside0 (Kd.R (Kd.int .i64) 3 wc w.heap.size (fun k_ => some k_ ≠ ((.slice Ao10 t411.length co10) : Value).ownBlock ∧ some k_ ≠ ((.slice Ao15 t418.length co15) : Value).ownBlock ∧ some k_ ≠ ((.slice Ao16 t421.length co16) : Value).ownBlock) (.slice Ao9 t408.length co9) t408) ∧ Aside0 (Kd.R (Kd.int .i64) 3 wc w.heap.size (fun k_ => some k_ ≠ ((.slice Ao9 t408.length co9) : Value).ownBlock ∧ some k_ ≠ ((.slice Ao15 t418.length co15) : Value).ownBlock ∧ some k_ ≠ ((.slice Ao16 t421.length co16) : Value).ownBlock) (.slice Ao10 t411.length co10) t411) ∧ Aside0 (Kd.R (Kd.int .i64) 3 wc w.heap.size (fun k_ => some k_ ≠ ((.slice Ao9 t408.length co9) : Value).ownBlock ∧ some k_ ≠ ((.slice Ao10 t411.length co10) : Value).ownBlock ∧ some k_ ≠ ((.slice Ao16 t421.length co16) : Value).ownBlock) (.slice Ao15 t418.length co15) t418) ∧ Aside0 (Kd.R (Kd.int .i64) 3 wc w.heap.size (fun k_ => some k_ ≠ ((.slice Ao9 t408.length co9) : Value).ownBlock ∧ some k_ ≠ ((.slice Ao10 t411.length co10) : Value).ownBlock ∧ some k_ ≠ ((.slice Ao15 t418.length co15) : Value).ownBlock) (.slice Ao16 t421.length co16) t421) ∧ Aside0 (wc.heap[gb415]? = some (.cells #[.int .i64 t406, .int .i64 t407, (.slice Ao9 t408.length co9), (.slice Ao10 t411.length co10)] 45 (0, 0))) ∧ Aside0 (wc.heap[gb425]? = some (.cells #[.int .i64 t416, .int .i64 t417, (.slice Ao15 t418.length co15), (.slice Ao16 t421.length co16)] 45 (0, 0))) ∧ Aside0 (Below w.heap.size w wc))
  case first =>
    have H := HC5.out
    clear HC5
    replace H := Option.bind_eq_some_iff.mp H
    obtain ⟨t426, A170, H⟩ := H
    replace H : (if t426 = true then (laws_FnExactRingNew.j0 k a0 a1 t414 (t424 != t414) t406 t407 t408 t411 t416 t417 t418 t421) else (laws_FnExactRingNew.j0 k a0 a1 t414 true t406 t407 t408 t411 t416 t417 t418 t421)) = some r := H
    have A17 := Aside0.mk A170
    clear A170
    by_cases c18 : t426 = true
    · subst c18
      have H1 : (laws_FnExactRingNew.j0 k a0 a1 t414 (t424 != t414) t406 t407 t408 t411 t416 t417 t418 t421) = some r := by rw [if_pos rfl] at H; exact H
      clear H
      have H := H1
      clear H1
      have H' := Aside0.mk H
      clear H
      have hnb19 := NB425_415.out
      have hnc19 := NB415_425.out
      have hcz20_0 : w12.cell? ⟨gb425, 0, none⟩ = some (.int .i64 0) := (blk_cell BK425.out 0).trans rfl
      have hcz20_1 : w12.cell? ⟨gb425, 1, none⟩ = some (.int .i64 0) := (blk_cell BK425.out 1).trans rfl
      have hcz20_2 : w12.cell? ⟨gb425, 2, none⟩ = some (.slice none 0 0) := (blk_cell BK425.out 2).trans rfl
      have hcz20_3 : w12.cell? ⟨gb425, 3, none⟩ = some (.slice none 0 0) := (blk_cell BK425.out 3).trans rfl
      have hfz20_0 := blk_frozen BK425.out 0
      have hfz20_1 := blk_frozen BK425.out 1
      have hfz20_2 := blk_frozen BK425.out 2
      have hfz20_3 := blk_frozen BK425.out 3
      have hcz21_0 : w12.cell? ⟨gb415, 0, none⟩ = some (.int .i64 t406) := (blk_cell BK415.out 0).trans rfl
      have hcz21_1 : w12.cell? ⟨gb415, 1, none⟩ = some (.int .i64 t407) := (blk_cell BK415.out 1).trans rfl
      have hcz21_2 : w12.cell? ⟨gb415, 2, none⟩ = some (.slice Ao9 t408.length co9) := (blk_cell BK415.out 2).trans rfl
      have hcz21_3 : w12.cell? ⟨gb415, 3, none⟩ = some (.slice Ao10 t411.length co10) := (blk_cell BK415.out 3).trans rfl
      have hfz21_0 := blk_frozen BK415.out 0
      have hfz21_1 := blk_frozen BK415.out 1
      have hfz21_2 := blk_frozen BK415.out 2
      have hfz21_3 := blk_frozen BK415.out 3
      go_wp2_with (first | ((with_reducible refine gate_callee (f := 47) rfl ?_); refine goesL_ (some 27) rfl rfl Try.func47 (by kernel_rfl) rfl #[.agg #[.int .i64 t416, .int .i64 t417, .slice Ao15 t418.length co15, .slice Ao16 t421.length co16], .agg #[.int .i64 t406, .int .i64 t407, .slice Ao9 t408.length co9, .slice Ao10 t411.length co10]] rfl (by (try simp only [List.map_toArray, List.map_cons, List.map_nil]); first | done | rfl | (simp only [List.length_drop, List.length_take]; rfl)) ?_; (with_reducible refine (laws_eqRing.calls k t416 t417 _ _ t418 _ _ t421 t406 t407 _ _ t408 _ _ t411 true _ ?side1 ?side2 ?side3 ?side4 ?side5 ?side6 ?side7 ?side8 A17.out).mono ?_); (case side1 => refine (Kd.R_reads' (e := 3) (base := w.heap.size) (ok := fun k_ => ((some k_ ≠ (.slice Ao16 t421.length co16 : Value).ownBlock ∧ some k_ ≠ (.slice Ao9 t408.length co9 : Value).ownBlock) ∧ some k_ ≠ (.slice Ao10 t411.length co10 : Value).ownBlock)) (n := t418.length) (c := co15) ?_).2.2; exact (by (with_reducible repeat (first | apply Kd.R_alloc | apply Kd.R_drewN | apply Kd.R_drew)); exact (Kd.R_mono (Kd.R_far (p := ⟨gb425, 3, none⟩) (Kd.R_far (p := ⟨gb425, 2, none⟩) (Kd.R_far (p := ⟨gb425, 1, none⟩) (Kd.R_far (p := ⟨gb425, 0, none⟩) (Kd.R_types HO420.out BK425.out (by decide)) (fun _ hk => hk.2) (.int .i64 t416)) (fun _ hk => hk.2) (.int .i64 t417)) (fun _ hk => hk.2) (.slice Ao15 t418.length co15)) (fun _ hk => hk.2) (.slice Ao16 t421.length co16)) (fun _ h_ => h_.1)))); (case side2 => exact (Kd.R_reads' HO420.out).2.1); (case side3 => refine (Kd.R_reads' (e := 3) (base := w.heap.size) (ok := fun k_ => ((some k_ ≠ (.slice Ao15 t418.length co15 : Value).ownBlock ∧ some k_ ≠ (.slice Ao9 t408.length co9 : Value).ownBlock) ∧ some k_ ≠ (.slice Ao10 t411.length co10 : Value).ownBlock)) (n := t421.length) (c := co16) ?_).2.2; exact (by (with_reducible repeat (first | apply Kd.R_alloc | apply Kd.R_drewN | apply Kd.R_drew)); exact (Kd.R_mono (Kd.R_far (p := ⟨gb425, 3, none⟩) (Kd.R_far (p := ⟨gb425, 2, none⟩) (Kd.R_far (p := ⟨gb425, 1, none⟩) (Kd.R_far (p := ⟨gb425, 0, none⟩) (Kd.R_types HO423.out BK425.out (by decide)) (fun _ hk => hk.2) (.int .i64 t416)) (fun _ hk => hk.2) (.int .i64 t417)) (fun _ hk => hk.2) (.slice Ao15 t418.length co15)) (fun _ hk => hk.2) (.slice Ao16 t421.length co16)) (fun _ h_ => h_.1)))); (case side4 => exact (Kd.R_reads' HO423.out).2.1); (case side5 => refine (Kd.R_reads' (e := 3) (base := w.heap.size) (ok := fun k_ => ((some k_ ≠ (.slice Ao10 t411.length co10 : Value).ownBlock ∧ some k_ ≠ (.slice Ao15 t418.length co15 : Value).ownBlock) ∧ some k_ ≠ (.slice Ao16 t421.length co16 : Value).ownBlock)) (n := t408.length) (c := co9) ?_).2.2; exact (by (with_reducible repeat (first | apply Kd.R_alloc | apply Kd.R_drewN | apply Kd.R_drew)); exact (Kd.R_mono (Kd.R_far (p := ⟨gb425, 3, none⟩) (Kd.R_far (p := ⟨gb425, 2, none⟩) (Kd.R_far (p := ⟨gb425, 1, none⟩) (Kd.R_far (p := ⟨gb425, 0, none⟩) (Kd.R_types HO410.out BK425.out (by decide)) (fun _ hk => hk.2) (.int .i64 t416)) (fun _ hk => hk.2) (.int .i64 t417)) (fun _ hk => hk.2) (.slice Ao15 t418.length co15)) (fun _ hk => hk.2) (.slice Ao16 t421.length co16)) (fun _ h_ => h_.1)))); (case side6 => exact (Kd.R_reads' HO410.out).2.1); (case side7 => refine (Kd.R_reads' (e := 3) (base := w.heap.size) (ok := fun k_ => ((some k_ ≠ (.slice Ao9 t408.length co9 : Value).ownBlock ∧ some k_ ≠ (.slice Ao15 t418.length co15 : Value).ownBlock) ∧ some k_ ≠ (.slice Ao16 t421.length co16 : Value).ownBlock)) (n := t411.length) (c := co10) ?_).2.2; exact (by (with_reducible repeat (first | apply Kd.R_alloc | apply Kd.R_drewN | apply Kd.R_drew)); exact (Kd.R_mono (Kd.R_far (p := ⟨gb425, 3, none⟩) (Kd.R_far (p := ⟨gb425, 2, none⟩) (Kd.R_far (p := ⟨gb425, 1, none⟩) (Kd.R_far (p := ⟨gb425, 0, none⟩) (Kd.R_types HO413.out BK425.out (by decide)) (fun _ hk => hk.2) (.int .i64 t416)) (fun _ hk => hk.2) (.int .i64 t417)) (fun _ hk => hk.2) (.slice Ao15 t418.length co15)) (fun _ hk => hk.2) (.slice Ao16 t421.length co16)) (fun _ h_ => h_.1)))); (case side8 => exact (Kd.R_reads' HO413.out).2.1); rintro e w22 ⟨rfl, hb⟩; refine ⟨_, rfl, ?_⟩; have n0_ := Aside0.mk (Kd.R_below (by (with_reducible repeat (first | apply Kd.R_alloc | apply Kd.R_drewN | apply Kd.R_drew)); exact (Kd.R_mono (Kd.R_far (p := ⟨gb425, 3, none⟩) (Kd.R_far (p := ⟨gb425, 2, none⟩) (Kd.R_far (p := ⟨gb425, 1, none⟩) (Kd.R_far (p := ⟨gb425, 0, none⟩) (Kd.R_types HO410.out BK425.out (by decide)) (fun _ hk => hk.2) (.int .i64 t416)) (fun _ hk => hk.2) (.int .i64 t417)) (fun _ hk => hk.2) (.slice Ao15 t418.length co15)) (fun _ hk => hk.2) (.slice Ao16 t421.length co16)) (fun _ h_ => h_.1))) hb); have n1_ := Aside0.mk (Kd.R_below (by (with_reducible repeat (first | apply Kd.R_alloc | apply Kd.R_drewN | apply Kd.R_drew)); exact (Kd.R_mono (Kd.R_far (p := ⟨gb425, 3, none⟩) (Kd.R_far (p := ⟨gb425, 2, none⟩) (Kd.R_far (p := ⟨gb425, 1, none⟩) (Kd.R_far (p := ⟨gb425, 0, none⟩) (Kd.R_types HO413.out BK425.out (by decide)) (fun _ hk => hk.2) (.int .i64 t416)) (fun _ hk => hk.2) (.int .i64 t417)) (fun _ hk => hk.2) (.slice Ao15 t418.length co15)) (fun _ hk => hk.2) (.slice Ao16 t421.length co16)) (fun _ h_ => h_.1))) hb); have n2_ := Aside0.mk (Kd.R_below (by (with_reducible repeat (first | apply Kd.R_alloc | apply Kd.R_drewN | apply Kd.R_drew)); exact (Kd.R_mono (Kd.R_far (p := ⟨gb425, 3, none⟩) (Kd.R_far (p := ⟨gb425, 2, none⟩) (Kd.R_far (p := ⟨gb425, 1, none⟩) (Kd.R_far (p := ⟨gb425, 0, none⟩) (Kd.R_types HO420.out BK425.out (by decide)) (fun _ hk => hk.2) (.int .i64 t416)) (fun _ hk => hk.2) (.int .i64 t417)) (fun _ hk => hk.2) (.slice Ao15 t418.length co15)) (fun _ hk => hk.2) (.slice Ao16 t421.length co16)) (fun _ h_ => h_.1))) hb); have n3_ := Aside0.mk (Kd.R_below (by (with_reducible repeat (first | apply Kd.R_alloc | apply Kd.R_drewN | apply Kd.R_drew)); exact (Kd.R_mono (Kd.R_far (p := ⟨gb425, 3, none⟩) (Kd.R_far (p := ⟨gb425, 2, none⟩) (Kd.R_far (p := ⟨gb425, 1, none⟩) (Kd.R_far (p := ⟨gb425, 0, none⟩) (Kd.R_types HO423.out BK425.out (by decide)) (fun _ hk => hk.2) (.int .i64 t416)) (fun _ hk => hk.2) (.int .i64 t417)) (fun _ hk => hk.2) (.slice Ao15 t418.length co15)) (fun _ hk => hk.2) (.slice Ao16 t421.length co16)) (fun _ h_ => h_.1))) hb); have n4_ := Aside0.mk (blk_below (g := gb415) (o := .cells #[.int .i64 t406, .int .i64 t407, .slice Ao9 t408.length co9, .slice Ao10 t411.length co10] 45 (0, 0)) (by (with_reducible repeat (first | refine blk_drewN ?_ _ | refine blk_drew ?_ | refine blk_alloc ?_ _)); refine blk_far ?_ NB415_425.out _; (with_reducible repeat (first | refine blk_drewN ?_ _ | refine blk_drew ?_ | refine blk_alloc ?_ _)); refine blk_far ?_ NB415_425.out _; (with_reducible repeat (first | refine blk_drewN ?_ _ | refine blk_drew ?_ | refine blk_alloc ?_ _)); refine blk_far ?_ NB415_425.out _; (with_reducible repeat (first | refine blk_drewN ?_ _ | refine blk_drew ?_ | refine blk_alloc ?_ _)); refine blk_far ?_ NB415_425.out _; (with_reducible repeat (first | refine blk_drewN ?_ _ | refine blk_drew ?_ | refine blk_alloc ?_ _)); exact BK415.out) hb); have n5_ := Aside0.mk (blk_below (g := gb425) (o := .cells #[.int .i64 t416, .int .i64 t417, .slice Ao15 t418.length co15, .slice Ao16 t421.length co16] 45 (0, 0)) (by (with_reducible repeat (first | refine blk_drewN ?_ _ | refine blk_drew ?_ | refine blk_alloc ?_ _)); refine blk_put (cs := #[.int .i64 t416, .int .i64 t417, .slice Ao15 t418.length co15, .slice none 0 0]) ?_ 3 _ rfl; (with_reducible repeat (first | refine blk_drewN ?_ _ | refine blk_drew ?_ | refine blk_alloc ?_ _)); refine blk_put (cs := #[.int .i64 t416, .int .i64 t417, .slice none 0 0, .slice none 0 0]) ?_ 2 _ rfl; (with_reducible repeat (first | refine blk_drewN ?_ _ | refine blk_drew ?_ | refine blk_alloc ?_ _)); refine blk_put (cs := #[.int .i64 t416, .int .i64 0, .slice none 0 0, .slice none 0 0]) ?_ 1 _ rfl; (with_reducible repeat (first | refine blk_drewN ?_ _ | refine blk_drew ?_ | refine blk_alloc ?_ _)); refine blk_put (cs := #[.int .i64 0, .int .i64 0, .slice none 0 0, .slice none 0 0]) ?_ 0 _ rfl; (with_reducible repeat (first | refine blk_drewN ?_ _ | refine blk_drew ?_ | refine blk_alloc ?_ _)); exact BK425.out) hb); have n6_ := Aside0.mk (below_step (by repeat (first | (with_reducible first | exact HB.out | apply below_alloc | apply pw_below_drewN | apply below_drew1 | refine below_set ?_ GE415.out | refine below_set ?_ GE425.out) | exact HB.out)) hb); clear HO410; clear HO413; clear HO420; clear HO423; clear BK415; clear BK425; clear HB; have HO410 := n0_; have HO413 := n1_; have HO420 := n2_; have HO423 := n3_; have BK415 := n4_; have BK425 := n5_; have HB := n6_; clear n0_ n1_ n2_ n3_ n4_ n5_ n6_; (try clear hb); (try clear hb2); (try clear hk); (try clear hi)))
      go_meet
      case rel => exact ⟨_, ((t424 != t414)), (by first | rfl | (simp; done) | (simp [*]; done) | (have e_ : ∀ x_ : Int, wrap64 (x_ % 256) = x_ % 256 := (fun x_ => (by unfold wrap64; omega)); simp [i64_w, IntKind.wrap_u8, e_]; done) | (simp; generalize ByteArray.toList _ = zz_; cases zz_ <;> rfl)), H', ⟨by first | omega | exact Nat.le_refl _⟩, ⟨by (with_reducible repeat (first | apply Kd.R_alloc | apply Kd.R_drewN | apply Kd.R_drew)); exact Kd.R_mono HO410.out (fun _ hk => ⟨hk.1.1, ⟨hk.1.2, hk.2⟩⟩)⟩, ⟨by (with_reducible repeat (first | apply Kd.R_alloc | apply Kd.R_drewN | apply Kd.R_drew)); exact Kd.R_mono HO413.out (fun _ hk => ⟨hk.1.1, ⟨hk.1.2, hk.2⟩⟩)⟩, ⟨by (with_reducible repeat (first | apply Kd.R_alloc | apply Kd.R_drewN | apply Kd.R_drew)); exact Kd.R_mono HO420.out (fun _ hk => ⟨hk.1.2, ⟨hk.2, hk.1.1⟩⟩)⟩, ⟨by (with_reducible repeat (first | apply Kd.R_alloc | apply Kd.R_drewN | apply Kd.R_drew)); exact Kd.R_mono HO423.out (fun _ hk => ⟨hk.1.2, ⟨hk.2, hk.1.1⟩⟩)⟩, ⟨by (with_reducible repeat (first | refine blk_drewN ?_ _ | refine blk_drew ?_ | refine blk_alloc ?_ _)); exact BK415.out⟩, ⟨by (with_reducible repeat (first | refine blk_drewN ?_ _ | refine blk_drew ?_ | refine blk_alloc ?_ _)); exact BK425.out⟩, ⟨by repeat (first | (with_reducible first | exact HB.out | apply below_alloc | apply pw_below_drewN | apply below_drew1 | refine below_set ?_ GE415.out | refine below_set ?_ GE425.out) | exact HB.out)⟩⟩
    · replace c18 := Bool.eq_false_iff.mpr c18
      subst c18
      have H1 : (laws_FnExactRingNew.j0 k a0 a1 t414 true t406 t407 t408 t411 t416 t417 t418 t421) = some r := by rw [if_neg (show ¬ (false = true) by decide)] at H; exact H
      clear H
      have H := H1
      clear H1
      have H' := Aside0.mk H
      clear H
      have hnb23 := NB425_415.out
      have hnc23 := NB415_425.out
      have hcz24_0 : w12.cell? ⟨gb425, 0, none⟩ = some (.int .i64 0) := (blk_cell BK425.out 0).trans rfl
      have hcz24_1 : w12.cell? ⟨gb425, 1, none⟩ = some (.int .i64 0) := (blk_cell BK425.out 1).trans rfl
      have hcz24_2 : w12.cell? ⟨gb425, 2, none⟩ = some (.slice none 0 0) := (blk_cell BK425.out 2).trans rfl
      have hcz24_3 : w12.cell? ⟨gb425, 3, none⟩ = some (.slice none 0 0) := (blk_cell BK425.out 3).trans rfl
      have hfz24_0 := blk_frozen BK425.out 0
      have hfz24_1 := blk_frozen BK425.out 1
      have hfz24_2 := blk_frozen BK425.out 2
      have hfz24_3 := blk_frozen BK425.out 3
      have hcz25_0 : w12.cell? ⟨gb415, 0, none⟩ = some (.int .i64 t406) := (blk_cell BK415.out 0).trans rfl
      have hcz25_1 : w12.cell? ⟨gb415, 1, none⟩ = some (.int .i64 t407) := (blk_cell BK415.out 1).trans rfl
      have hcz25_2 : w12.cell? ⟨gb415, 2, none⟩ = some (.slice Ao9 t408.length co9) := (blk_cell BK415.out 2).trans rfl
      have hcz25_3 : w12.cell? ⟨gb415, 3, none⟩ = some (.slice Ao10 t411.length co10) := (blk_cell BK415.out 3).trans rfl
      have hfz25_0 := blk_frozen BK415.out 0
      have hfz25_1 := blk_frozen BK415.out 1
      have hfz25_2 := blk_frozen BK415.out 2
      have hfz25_3 := blk_frozen BK415.out 3
      go_wp2_with (first | ((with_reducible refine gate_callee (f := 47) rfl ?_); refine goesL_ (some 27) rfl rfl Try.func47 (by kernel_rfl) rfl #[.agg #[.int .i64 t416, .int .i64 t417, .slice Ao15 t418.length co15, .slice Ao16 t421.length co16], .agg #[.int .i64 t406, .int .i64 t407, .slice Ao9 t408.length co9, .slice Ao10 t411.length co10]] rfl (by (try simp only [List.map_toArray, List.map_cons, List.map_nil]); first | done | rfl | (simp only [List.length_drop, List.length_take]; rfl)) ?_; (with_reducible refine (laws_eqRing.calls k t416 t417 _ _ t418 _ _ t421 t406 t407 _ _ t408 _ _ t411 false _ ?side1 ?side2 ?side3 ?side4 ?side5 ?side6 ?side7 ?side8 A17.out).mono ?_); (case side1 => refine (Kd.R_reads' (e := 3) (base := w.heap.size) (ok := fun k_ => ((some k_ ≠ (.slice Ao16 t421.length co16 : Value).ownBlock ∧ some k_ ≠ (.slice Ao9 t408.length co9 : Value).ownBlock) ∧ some k_ ≠ (.slice Ao10 t411.length co10 : Value).ownBlock)) (n := t418.length) (c := co15) ?_).2.2; exact (by (with_reducible repeat (first | apply Kd.R_alloc | apply Kd.R_drewN | apply Kd.R_drew)); exact (Kd.R_mono (Kd.R_far (p := ⟨gb425, 3, none⟩) (Kd.R_far (p := ⟨gb425, 2, none⟩) (Kd.R_far (p := ⟨gb425, 1, none⟩) (Kd.R_far (p := ⟨gb425, 0, none⟩) (Kd.R_types HO420.out BK425.out (by decide)) (fun _ hk => hk.2) (.int .i64 t416)) (fun _ hk => hk.2) (.int .i64 t417)) (fun _ hk => hk.2) (.slice Ao15 t418.length co15)) (fun _ hk => hk.2) (.slice Ao16 t421.length co16)) (fun _ h_ => h_.1)))); (case side2 => exact (Kd.R_reads' HO420.out).2.1); (case side3 => refine (Kd.R_reads' (e := 3) (base := w.heap.size) (ok := fun k_ => ((some k_ ≠ (.slice Ao15 t418.length co15 : Value).ownBlock ∧ some k_ ≠ (.slice Ao9 t408.length co9 : Value).ownBlock) ∧ some k_ ≠ (.slice Ao10 t411.length co10 : Value).ownBlock)) (n := t421.length) (c := co16) ?_).2.2; exact (by (with_reducible repeat (first | apply Kd.R_alloc | apply Kd.R_drewN | apply Kd.R_drew)); exact (Kd.R_mono (Kd.R_far (p := ⟨gb425, 3, none⟩) (Kd.R_far (p := ⟨gb425, 2, none⟩) (Kd.R_far (p := ⟨gb425, 1, none⟩) (Kd.R_far (p := ⟨gb425, 0, none⟩) (Kd.R_types HO423.out BK425.out (by decide)) (fun _ hk => hk.2) (.int .i64 t416)) (fun _ hk => hk.2) (.int .i64 t417)) (fun _ hk => hk.2) (.slice Ao15 t418.length co15)) (fun _ hk => hk.2) (.slice Ao16 t421.length co16)) (fun _ h_ => h_.1)))); (case side4 => exact (Kd.R_reads' HO423.out).2.1); (case side5 => refine (Kd.R_reads' (e := 3) (base := w.heap.size) (ok := fun k_ => ((some k_ ≠ (.slice Ao10 t411.length co10 : Value).ownBlock ∧ some k_ ≠ (.slice Ao15 t418.length co15 : Value).ownBlock) ∧ some k_ ≠ (.slice Ao16 t421.length co16 : Value).ownBlock)) (n := t408.length) (c := co9) ?_).2.2; exact (by (with_reducible repeat (first | apply Kd.R_alloc | apply Kd.R_drewN | apply Kd.R_drew)); exact (Kd.R_mono (Kd.R_far (p := ⟨gb425, 3, none⟩) (Kd.R_far (p := ⟨gb425, 2, none⟩) (Kd.R_far (p := ⟨gb425, 1, none⟩) (Kd.R_far (p := ⟨gb425, 0, none⟩) (Kd.R_types HO410.out BK425.out (by decide)) (fun _ hk => hk.2) (.int .i64 t416)) (fun _ hk => hk.2) (.int .i64 t417)) (fun _ hk => hk.2) (.slice Ao15 t418.length co15)) (fun _ hk => hk.2) (.slice Ao16 t421.length co16)) (fun _ h_ => h_.1)))); (case side6 => exact (Kd.R_reads' HO410.out).2.1); (case side7 => refine (Kd.R_reads' (e := 3) (base := w.heap.size) (ok := fun k_ => ((some k_ ≠ (.slice Ao9 t408.length co9 : Value).ownBlock ∧ some k_ ≠ (.slice Ao15 t418.length co15 : Value).ownBlock) ∧ some k_ ≠ (.slice Ao16 t421.length co16 : Value).ownBlock)) (n := t411.length) (c := co10) ?_).2.2; exact (by (with_reducible repeat (first | apply Kd.R_alloc | apply Kd.R_drewN | apply Kd.R_drew)); exact (Kd.R_mono (Kd.R_far (p := ⟨gb425, 3, none⟩) (Kd.R_far (p := ⟨gb425, 2, none⟩) (Kd.R_far (p := ⟨gb425, 1, none⟩) (Kd.R_far (p := ⟨gb425, 0, none⟩) (Kd.R_types HO413.out BK425.out (by decide)) (fun _ hk => hk.2) (.int .i64 t416)) (fun _ hk => hk.2) (.int .i64 t417)) (fun _ hk => hk.2) (.slice Ao15 t418.length co15)) (fun _ hk => hk.2) (.slice Ao16 t421.length co16)) (fun _ h_ => h_.1)))); (case side8 => exact (Kd.R_reads' HO413.out).2.1); rintro e w26 ⟨rfl, hb⟩; refine ⟨_, rfl, ?_⟩; have n0_ := Aside0.mk (Kd.R_below (by (with_reducible repeat (first | apply Kd.R_alloc | apply Kd.R_drewN | apply Kd.R_drew)); exact (Kd.R_mono (Kd.R_far (p := ⟨gb425, 3, none⟩) (Kd.R_far (p := ⟨gb425, 2, none⟩) (Kd.R_far (p := ⟨gb425, 1, none⟩) (Kd.R_far (p := ⟨gb425, 0, none⟩) (Kd.R_types HO410.out BK425.out (by decide)) (fun _ hk => hk.2) (.int .i64 t416)) (fun _ hk => hk.2) (.int .i64 t417)) (fun _ hk => hk.2) (.slice Ao15 t418.length co15)) (fun _ hk => hk.2) (.slice Ao16 t421.length co16)) (fun _ h_ => h_.1))) hb); have n1_ := Aside0.mk (Kd.R_below (by (with_reducible repeat (first | apply Kd.R_alloc | apply Kd.R_drewN | apply Kd.R_drew)); exact (Kd.R_mono (Kd.R_far (p := ⟨gb425, 3, none⟩) (Kd.R_far (p := ⟨gb425, 2, none⟩) (Kd.R_far (p := ⟨gb425, 1, none⟩) (Kd.R_far (p := ⟨gb425, 0, none⟩) (Kd.R_types HO413.out BK425.out (by decide)) (fun _ hk => hk.2) (.int .i64 t416)) (fun _ hk => hk.2) (.int .i64 t417)) (fun _ hk => hk.2) (.slice Ao15 t418.length co15)) (fun _ hk => hk.2) (.slice Ao16 t421.length co16)) (fun _ h_ => h_.1))) hb); have n2_ := Aside0.mk (Kd.R_below (by (with_reducible repeat (first | apply Kd.R_alloc | apply Kd.R_drewN | apply Kd.R_drew)); exact (Kd.R_mono (Kd.R_far (p := ⟨gb425, 3, none⟩) (Kd.R_far (p := ⟨gb425, 2, none⟩) (Kd.R_far (p := ⟨gb425, 1, none⟩) (Kd.R_far (p := ⟨gb425, 0, none⟩) (Kd.R_types HO420.out BK425.out (by decide)) (fun _ hk => hk.2) (.int .i64 t416)) (fun _ hk => hk.2) (.int .i64 t417)) (fun _ hk => hk.2) (.slice Ao15 t418.length co15)) (fun _ hk => hk.2) (.slice Ao16 t421.length co16)) (fun _ h_ => h_.1))) hb); have n3_ := Aside0.mk (Kd.R_below (by (with_reducible repeat (first | apply Kd.R_alloc | apply Kd.R_drewN | apply Kd.R_drew)); exact (Kd.R_mono (Kd.R_far (p := ⟨gb425, 3, none⟩) (Kd.R_far (p := ⟨gb425, 2, none⟩) (Kd.R_far (p := ⟨gb425, 1, none⟩) (Kd.R_far (p := ⟨gb425, 0, none⟩) (Kd.R_types HO423.out BK425.out (by decide)) (fun _ hk => hk.2) (.int .i64 t416)) (fun _ hk => hk.2) (.int .i64 t417)) (fun _ hk => hk.2) (.slice Ao15 t418.length co15)) (fun _ hk => hk.2) (.slice Ao16 t421.length co16)) (fun _ h_ => h_.1))) hb); have n4_ := Aside0.mk (blk_below (g := gb415) (o := .cells #[.int .i64 t406, .int .i64 t407, .slice Ao9 t408.length co9, .slice Ao10 t411.length co10] 45 (0, 0)) (by (with_reducible repeat (first | refine blk_drewN ?_ _ | refine blk_drew ?_ | refine blk_alloc ?_ _)); refine blk_far ?_ NB415_425.out _; (with_reducible repeat (first | refine blk_drewN ?_ _ | refine blk_drew ?_ | refine blk_alloc ?_ _)); refine blk_far ?_ NB415_425.out _; (with_reducible repeat (first | refine blk_drewN ?_ _ | refine blk_drew ?_ | refine blk_alloc ?_ _)); refine blk_far ?_ NB415_425.out _; (with_reducible repeat (first | refine blk_drewN ?_ _ | refine blk_drew ?_ | refine blk_alloc ?_ _)); refine blk_far ?_ NB415_425.out _; (with_reducible repeat (first | refine blk_drewN ?_ _ | refine blk_drew ?_ | refine blk_alloc ?_ _)); exact BK415.out) hb); have n5_ := Aside0.mk (blk_below (g := gb425) (o := .cells #[.int .i64 t416, .int .i64 t417, .slice Ao15 t418.length co15, .slice Ao16 t421.length co16] 45 (0, 0)) (by (with_reducible repeat (first | refine blk_drewN ?_ _ | refine blk_drew ?_ | refine blk_alloc ?_ _)); refine blk_put (cs := #[.int .i64 t416, .int .i64 t417, .slice Ao15 t418.length co15, .slice none 0 0]) ?_ 3 _ rfl; (with_reducible repeat (first | refine blk_drewN ?_ _ | refine blk_drew ?_ | refine blk_alloc ?_ _)); refine blk_put (cs := #[.int .i64 t416, .int .i64 t417, .slice none 0 0, .slice none 0 0]) ?_ 2 _ rfl; (with_reducible repeat (first | refine blk_drewN ?_ _ | refine blk_drew ?_ | refine blk_alloc ?_ _)); refine blk_put (cs := #[.int .i64 t416, .int .i64 0, .slice none 0 0, .slice none 0 0]) ?_ 1 _ rfl; (with_reducible repeat (first | refine blk_drewN ?_ _ | refine blk_drew ?_ | refine blk_alloc ?_ _)); refine blk_put (cs := #[.int .i64 0, .int .i64 0, .slice none 0 0, .slice none 0 0]) ?_ 0 _ rfl; (with_reducible repeat (first | refine blk_drewN ?_ _ | refine blk_drew ?_ | refine blk_alloc ?_ _)); exact BK425.out) hb); have n6_ := Aside0.mk (below_step (by repeat (first | (with_reducible first | exact HB.out | apply below_alloc | apply pw_below_drewN | apply below_drew1 | refine below_set ?_ GE415.out | refine below_set ?_ GE425.out) | exact HB.out)) hb); clear HO410; clear HO413; clear HO420; clear HO423; clear BK415; clear BK425; clear HB; have HO410 := n0_; have HO413 := n1_; have HO420 := n2_; have HO423 := n3_; have BK415 := n4_; have BK425 := n5_; have HB := n6_; clear n0_ n1_ n2_ n3_ n4_ n5_ n6_; (try clear hb); (try clear hb2); (try clear hk); (try clear hi)))
      go_meet
      case rel => exact ⟨_, (true), (by first | rfl | (simp; done) | (simp [*]; done) | (have e_ : ∀ x_ : Int, wrap64 (x_ % 256) = x_ % 256 := (fun x_ => (by unfold wrap64; omega)); simp [i64_w, IntKind.wrap_u8, e_]; done) | (simp; generalize ByteArray.toList _ = zz_; cases zz_ <;> rfl)), H', ⟨by first | omega | exact Nat.le_refl _⟩, ⟨by (with_reducible repeat (first | apply Kd.R_alloc | apply Kd.R_drewN | apply Kd.R_drew)); exact Kd.R_mono HO410.out (fun _ hk => ⟨hk.1.1, ⟨hk.1.2, hk.2⟩⟩)⟩, ⟨by (with_reducible repeat (first | apply Kd.R_alloc | apply Kd.R_drewN | apply Kd.R_drew)); exact Kd.R_mono HO413.out (fun _ hk => ⟨hk.1.1, ⟨hk.1.2, hk.2⟩⟩)⟩, ⟨by (with_reducible repeat (first | apply Kd.R_alloc | apply Kd.R_drewN | apply Kd.R_drew)); exact Kd.R_mono HO420.out (fun _ hk => ⟨hk.1.2, ⟨hk.2, hk.1.1⟩⟩)⟩, ⟨by (with_reducible repeat (first | apply Kd.R_alloc | apply Kd.R_drewN | apply Kd.R_drew)); exact Kd.R_mono HO423.out (fun _ hk => ⟨hk.1.2, ⟨hk.2, hk.1.1⟩⟩)⟩, ⟨by (with_reducible repeat (first | refine blk_drewN ?_ _ | refine blk_drew ?_ | refine blk_alloc ?_ _)); exact BK415.out⟩, ⟨by (with_reducible repeat (first | refine blk_drewN ?_ _ | refine blk_drew ?_ | refine blk_alloc ?_ _)); exact BK425.out⟩, ⟨by repeat (first | (with_reducible first | exact HB.out | apply below_alloc | apply pw_below_drewN | apply below_drew1 | refine below_set ?_ GE415.out | refine below_set ?_ GE425.out) | exact HB.out)⟩⟩
  case rest =>
    clear HC5
    try clear c1
    try clear c2
    try clear p2
    try clear c4
    try clear p6
    try clear c13
    try clear c14
    try clear c18
    try clear c19
    try clear c23
    try clear hcz14_0
    try clear hcz14_1
    try clear hcz14_2
    try clear hcz14_3
    try clear hcz20_0
    try clear hcz20_1
    try clear hcz20_2
    try clear hcz20_3
    try clear hcz21_0
    try clear hcz21_1
    try clear hcz21_2
    try clear hcz21_3
    try clear hcz24_0
    try clear hcz24_1
    try clear hcz24_2
    try clear hcz24_3
    try clear hcz25_0
    try clear hcz25_1
    try clear hcz25_2
    try clear hcz25_3
    try clear hcz8_0
    try clear hcz8_1
    try clear hcz8_2
    try clear hcz8_3
    try clear hfz14_0
    try clear hfz14_1
    try clear hfz14_2
    try clear hfz14_3
    try clear hfz20_0
    try clear hfz20_1
    try clear hfz20_2
    try clear hfz20_3
    try clear hfz21_0
    try clear hfz21_1
    try clear hfz21_2
    try clear hfz21_3
    try clear hfz24_0
    try clear hfz24_1
    try clear hfz24_2
    try clear hfz24_3
    try clear hfz25_0
    try clear hfz25_1
    try clear hfz25_2
    try clear hfz25_3
    try clear hfz8_0
    try clear hfz8_1
    try clear hfz8_2
    try clear hfz8_3
    obtain ⟨kq, x33_4, rfl, HA, HJ4, HO_416002, HO_416003, HO_426002, HO_426003, BK415, BK425, HB⟩ := hcut
    cases kq with
    | zero => exact absurd HA.out (by simp [laws_FnExactRingNew.j0])
    | succ kj4 =>
      have H := HA.out
      clear HA
      simp only [laws_FnExactRingNew.j0] at H
      by_cases c27 : x33_4 = true
      · subst c27
        have H1 : (some false) = some r := by rw [if_pos rfl] at H; exact H
        clear H
        have H := H1
        clear H1
        obtain rfl := Option.some.inj H
        exact absurd hr_ (by simp)
      · replace c27 := Bool.eq_false_iff.mpr c27
        subst c27
        have H1 : ((laws_markRing.f kj4 t416 t417 t418 t421 1).bind fun bt427 => ((laws_heldRing.f kj4 t416 t417 bt427.2.1 bt427.2.2 1).bind fun t430 => (if t430 < 0 then (some false) else (if t430 = bt427.1 then ((impl_RingNew.f a0 a1).bind fun bt431 => ((laws_eqRing.f kj4 bt431.1 bt431.2.1 bt431.2.2.1 bt431.2.2.2.1 t406 t407 t408 t411).bind fun t441 => (if t441 = true then (laws_FnExactRingNew.j1 kj4 bt427.1 (bt431.2.2.2.2 != t414) t416 t417 bt427.2.1 bt427.2.2) else (laws_FnExactRingNew.j1 kj4 bt427.1 true t416 t417 bt427.2.1 bt427.2.2)))) else (some false))))) = some r := by rw [if_neg (show ¬ (false = true) by decide)] at H; exact H
        clear H
        have H := H1
        clear H1
        replace H := Option.bind_eq_some_iff.mp H
        obtain ⟨⟨t427, t428, t429⟩, A280, H⟩ := H
        replace H : ((laws_heldRing.f kj4 t416 t417 t428 t429 1).bind fun t430 => (if t430 < 0 then (some false) else (if t430 = t427 then ((impl_RingNew.f a0 a1).bind fun bt431 => ((laws_eqRing.f kj4 bt431.1 bt431.2.1 bt431.2.2.1 bt431.2.2.2.1 t406 t407 t408 t411).bind fun t441 => (if t441 = true then (laws_FnExactRingNew.j1 kj4 t427 (bt431.2.2.2.2 != t414) t416 t417 t428 t429) else (laws_FnExactRingNew.j1 kj4 t427 true t416 t417 t428 t429)))) else (some false)))) = some r := H
        have A28 := Aside0.mk A280
        clear A280
        replace H := Option.bind_eq_some_iff.mp H
        obtain ⟨t430, A290, H⟩ := H
        replace H : (if t430 < 0 then (some false) else (if t430 = t427 then ((impl_RingNew.f a0 a1).bind fun bt431 => ((laws_eqRing.f kj4 bt431.1 bt431.2.1 bt431.2.2.1 bt431.2.2.2.1 t406 t407 t408 t411).bind fun t441 => (if t441 = true then (laws_FnExactRingNew.j1 kj4 t427 (bt431.2.2.2.2 != t414) t416 t417 t428 t429) else (laws_FnExactRingNew.j1 kj4 t427 true t416 t417 t428 t429)))) else (some false))) = some r := H
        have A29 := Aside0.mk A290
        clear A290
        by_cases c30 : t430 < 0
        · rw [if_pos c30] at H
          have c30b0 : decide (t430 < 0) = true := decide_eq_true c30
          clear c30
          obtain rfl := Option.some.inj H
          exact absurd hr_ (by simp)
        · rw [if_neg c30] at H
          have c30b0 : decide (t430 < 0) = false := decide_eq_false c30
          clear c30
          by_cases c31 : t430 = t427
          · rw [if_pos c31] at H
            have c31b0 : (t430 == t427) = true := beq_iff_eq.mpr c31
            have c31b1 : (t430 != t427) = false := bne_eq_false_iff_eq.mpr c31
            clear c31
            replace H := Option.bind_eq_some_iff.mp H
            obtain ⟨⟨t431, t432, t433, t436, t439⟩, A320, H⟩ := H
            replace H : ((laws_eqRing.f kj4 t431 t432 t433 t436 t406 t407 t408 t411).bind fun t441 => (if t441 = true then (laws_FnExactRingNew.j1 kj4 t427 (t439 != t414) t416 t417 t428 t429) else (laws_FnExactRingNew.j1 kj4 t427 true t416 t417 t428 t429))) = some r := H
            have A32 := Aside0.mk A320
            clear A320
            have HC33 := Aside0.mk H
            clear H
            have hnb34 := NB425_415.out
            have hnc34 := NB415_425.out
            have hcz35_0 : wc.cell? ⟨gb425, 0, none⟩ = some (.int .i64 t416) := (blk_cell BK425.out 0).trans rfl
            have hcz35_1 : wc.cell? ⟨gb425, 1, none⟩ = some (.int .i64 t417) := (blk_cell BK425.out 1).trans rfl
            have hcz35_2 : wc.cell? ⟨gb425, 2, none⟩ = some (.slice Ao15 t418.length co15) := (blk_cell BK425.out 2).trans rfl
            have hcz35_3 : wc.cell? ⟨gb425, 3, none⟩ = some (.slice Ao16 t421.length co16) := (blk_cell BK425.out 3).trans rfl
            have hfz35_0 := blk_frozen BK425.out 0
            have hfz35_1 := blk_frozen BK425.out 1
            have hfz35_2 := blk_frozen BK425.out 2
            have hfz35_3 := blk_frozen BK425.out 3
            go_upto_region 14 with (first | ((with_reducible refine gate_callee (f := 48) rfl ?_); refine goesL_ (some 36) rfl rfl Try.func48 (by kernel_rfl) rfl #[.agg #[.int .i64 t416, .int .i64 t417, .slice Ao15 t418.length co15, .slice Ao16 t421.length co16], .int .i64 1] rfl (by (try simp only [List.map_toArray, List.map_cons, List.map_nil]); first | done | rfl | (simp only [List.length_drop, List.length_take]; rfl)) ?_; (with_reducible refine (laws_markRing.calls kj4 t416 t417 (fun k_ => some k_ = (.slice Ao15 t418.length co15 : Value).ownBlock) (.slice Ao15 t418.length co15) t418 (fun k_ => some k_ = (.slice Ao16 t421.length co16 : Value).ownBlock) (.slice Ao16 t421.length co16) t421 1 t427 t428 t429 w _ ?side1 ?side2 ?side3 ?side4 ?side5 A28.out).mono ?_); (case side1 => repeat (first | (with_reducible first | exact HB.out | apply below_alloc | apply pw_below_drewN | apply below_drew1 | refine below_set ?_ GE415.out | refine below_set ?_ GE425.out) | exact HB.out)); (case side2 => exact Kd.R_tight rfl HO_426002.out); (case side3 => exact fun k_ e_ => (HO_426002.out.1 k_ e_.symm).2.2); (case side4 => exact Kd.R_tight rfl HO_426003.out); (case side5 => exact fun k_ e_ => (HO_426003.out.1 k_ e_.symm).2.2); rintro e w36 ⟨rfl, hy0, hy1, hb, hkp⟩; refine ⟨_, rfl, ?_⟩; have n0_ := Aside0.mk (Kd.R_mono (ok' := fun k_ => some k_ ≠ (.slice Ao10 t411.length co10 : Value).ownBlock ∧ some k_ ≠ (.slice Ao15 t418.length co15 : Value).ownBlock ∧ some k_ ≠ (.slice Ao16 t421.length co16 : Value).ownBlock) (Kd.R_keptB (HO_416002.out) hkp (fun k_ hk_ hs_ => Or.elim hs_ (fun e_ => (hk_.2.1) e_) (fun e_ => (hk_.2.2) e_))) (fun k_ hk_ => ⟨hk_.1.1, hk_.1.2.1, hk_.1.2.2⟩)); have n1_ := Aside0.mk (Kd.R_mono (ok' := fun k_ => some k_ ≠ (.slice Ao9 t408.length co9 : Value).ownBlock ∧ some k_ ≠ (.slice Ao15 t418.length co15 : Value).ownBlock ∧ some k_ ≠ (.slice Ao16 t421.length co16 : Value).ownBlock) (Kd.R_keptB (HO_416003.out) hkp (fun k_ hk_ hs_ => Or.elim hs_ (fun e_ => (hk_.2.1) e_) (fun e_ => (hk_.2.2) e_))) (fun k_ hk_ => ⟨hk_.1.1, hk_.1.2.1, hk_.1.2.2⟩)); have n2_ := Aside0.mk (Kd.R_reok rfl hy0 (fun k_ e_ => HO_426002.out.1 k_ e_)); have n3_ := Aside0.mk (Kd.R_reok rfl hy1 (fun k_ e_ => HO_426003.out.1 k_ e_)); have n4_ := Aside0.mk (blk_kept (by (with_reducible repeat (first | refine blk_drewN ?_ _ | refine blk_drew ?_ | refine blk_alloc ?_ _)); exact BK415.out) hkp (fun hs_ => Or.elim hs_ (fun e_ => (fun e_ => (Kd.R_ne HO_426002.out BK415.out (by decide)) e_) e_) (fun e_ => (fun e_ => (Kd.R_ne HO_426003.out BK415.out (by decide)) e_) e_))); have n5_ := Aside0.mk (blk_kept (by (with_reducible repeat (first | refine blk_drewN ?_ _ | refine blk_drew ?_ | refine blk_alloc ?_ _)); exact BK425.out) hkp (fun hs_ => Or.elim hs_ (fun e_ => (fun e_ => (Kd.R_ne HO_426002.out BK425.out (by decide)) e_) e_) (fun e_ => (fun e_ => (Kd.R_ne HO_426003.out BK425.out (by decide)) e_) e_))); have n6_ := Aside0.mk (hb); clear HO_416002; clear HO_416003; clear HO_426002; clear HO_426003; clear BK415; clear BK425; clear HB; have HO_416002 := n0_; have HO_416003 := n1_; have HO_426002 := n2_; have HO_426003 := n3_; have BK415 := n4_; have BK425 := n5_; have HB := n6_; clear n0_ n1_ n2_ n3_ n4_ n5_ n6_; (try clear hb); (try clear hkp); (try clear hy0); (try clear hy1); have hcz37_0 : w36.cell? ⟨gb425, 0, none⟩ = some (.int .i64 t416) := (blk_cell BK425.out 0).trans rfl; have hcz37_1 : w36.cell? ⟨gb425, 1, none⟩ = some (.int .i64 t417) := (blk_cell BK425.out 1).trans rfl; have hcz37_2 : w36.cell? ⟨gb425, 2, none⟩ = some (.slice Ao15 t418.length co15) := (blk_cell BK425.out 2).trans rfl; have hcz37_3 : w36.cell? ⟨gb425, 3, none⟩ = some (.slice Ao16 t421.length co16) := (blk_cell BK425.out 3).trans rfl; have hfz37_0 := blk_frozen BK425.out 0; have hfz37_1 := blk_frozen BK425.out 1; have hfz37_2 := blk_frozen BK425.out 2; have hfz37_3 := blk_frozen BK425.out 3) | ((with_reducible refine gate_callee (f := 49) rfl ?_); refine goesL_ (some 39) rfl rfl Try.func49 (by kernel_rfl) rfl #[.agg #[.int .i64 t416, .int .i64 t417, .slice Ao15 t428.length co15, .slice Ao16 t429.length co16], .int .i64 1] rfl (by (try simp only [List.map_toArray, List.map_cons, List.map_nil]); first | done | (rw [show t428.length = t418.length from (Kd.R_reads' HO_426002.out).1.symm, show t429.length = t421.length from (Kd.R_reads' HO_426003.out).1.symm] <;> rfl) | rfl | (simp only [List.length_drop, List.length_take]; rfl)) ?_; (with_reducible refine (laws_heldRing.calls kj4 t416 t417 _ _ t428 _ _ t429 1 t430 _ ?side1 ?side2 ?side3 ?side4 A29.out).mono ?_); (case side1 => repeat (first | exact (Kd.R_reads' HO_426002.out).2.2 | (with_reducible refine Kd.C_alloc ?_ _) | (with_reducible refine Kd.C_drewN ?_ _) | (with_reducible refine Kd.C_drew ?_))); (case side2 => rw [show t428.length = t418.length from (Kd.R_reads' HO_426002.out).1.symm]; exact (Kd.R_reads' HO_426002.out).2.1); (case side3 => repeat (first | exact (Kd.R_reads' HO_426003.out).2.2 | (with_reducible refine Kd.C_alloc ?_ _) | (with_reducible refine Kd.C_drewN ?_ _) | (with_reducible refine Kd.C_drew ?_))); (case side4 => rw [show t429.length = t421.length from (Kd.R_reads' HO_426003.out).1.symm]; exact (Kd.R_reads' HO_426003.out).2.1); rintro e w38 ⟨rfl, hb⟩; refine ⟨_, rfl, ?_⟩; have n0_ := Aside0.mk (Kd.R_below (by (with_reducible repeat (first | apply Kd.R_alloc | apply Kd.R_drewN | apply Kd.R_drew)); exact HO_416002.out) hb); have n1_ := Aside0.mk (Kd.R_below (by (with_reducible repeat (first | apply Kd.R_alloc | apply Kd.R_drewN | apply Kd.R_drew)); exact HO_416003.out) hb); have n2_ := Aside0.mk (Kd.R_below (by (with_reducible repeat (first | apply Kd.R_alloc | apply Kd.R_drewN | apply Kd.R_drew)); exact HO_426002.out) hb); have n3_ := Aside0.mk (Kd.R_below (by (with_reducible repeat (first | apply Kd.R_alloc | apply Kd.R_drewN | apply Kd.R_drew)); exact HO_426003.out) hb); have n4_ := Aside0.mk (blk_below (g := gb415) (o := .cells #[.int .i64 t406, .int .i64 t407, .slice Ao9 t408.length co9, .slice Ao10 t411.length co10] 45 (0, 0)) (by (with_reducible repeat (first | refine blk_drewN ?_ _ | refine blk_drew ?_ | refine blk_alloc ?_ _)); exact BK415.out) hb); have n5_ := Aside0.mk (blk_below (g := gb425) (o := .cells #[.int .i64 t416, .int .i64 t417, .slice Ao15 t418.length co15, .slice Ao16 t421.length co16] 45 (0, 0)) (by (with_reducible repeat (first | refine blk_drewN ?_ _ | refine blk_drew ?_ | refine blk_alloc ?_ _)); exact BK425.out) hb); have n6_ := Aside0.mk (below_step (by repeat (first | (with_reducible first | exact HB.out | apply below_alloc | apply pw_below_drewN | apply below_drew1 | refine below_set ?_ GE415.out | refine below_set ?_ GE425.out) | exact HB.out)) hb); clear HO_416002; clear HO_416003; clear HO_426002; clear HO_426003; clear BK415; clear BK425; clear HB; have HO_416002 := n0_; have HO_416003 := n1_; have HO_426002 := n2_; have HO_426003 := n3_; have BK415 := n4_; have BK425 := n5_; have HB := n6_; clear n0_ n1_ n2_ n3_ n4_ n5_ n6_; (try clear hb); (try clear hb2); (try clear hk); (try clear hi)) | ((with_reducible refine gate_callee (f := 46) rfl ?_); refine goesL_ (some 48) rfl rfl Try.func46 (by kernel_rfl) rfl #[.int .i64 a0, .int .i64 a1] rfl (by (try simp only [List.map_toArray, List.map_cons, List.map_nil]); first | done | rfl | (simp only [List.length_drop, List.length_take]; rfl)) ?_; (with_reducible refine (impl_RingNew.calls a0 a1 t431 t432 t433 t436 t439 _ A32.out).mono ?_); rintro e w39 ⟨v434, v437, rfl, ho0, ho1, hb⟩; refine ⟨_, rfl, ?_⟩; have n0_ := Aside0.mk (Kd.R_mono (Kd.R_told (Kd.R_told (Kd.R_old (by (with_reducible repeat (first | apply Kd.R_alloc | apply Kd.R_drewN | apply Kd.R_drew)); exact HO_416002.out) hb) (Kd.R_base ho0)) (Kd.R_base ho1)) (fun _ h_ => h_.1)); have n1_ := Aside0.mk (Kd.R_mono (Kd.R_told (Kd.R_told (Kd.R_old (by (with_reducible repeat (first | apply Kd.R_alloc | apply Kd.R_drewN | apply Kd.R_drew)); exact HO_416003.out) hb) (Kd.R_base ho0)) (Kd.R_base ho1)) (fun _ h_ => h_.1)); have n2_ := Aside0.mk (Kd.R_mono (Kd.R_told (Kd.R_told (Kd.R_old (by (with_reducible repeat (first | apply Kd.R_alloc | apply Kd.R_drewN | apply Kd.R_drew)); exact HO_426002.out) hb) (Kd.R_base ho0)) (Kd.R_base ho1)) (fun _ h_ => h_.1)); have n3_ := Aside0.mk (Kd.R_mono (Kd.R_told (Kd.R_told (Kd.R_old (by (with_reducible repeat (first | apply Kd.R_alloc | apply Kd.R_drewN | apply Kd.R_drew)); exact HO_426003.out) hb) (Kd.R_base ho0)) (Kd.R_base ho1)) (fun _ h_ => h_.1)); have n4_ := Aside0.mk (Kd.R_lower (Kd.R_new' (Kd.R_new' (Kd.R_new' (Kd.R_new' ho0 (Kd.R_lt (by (with_reducible repeat (first | apply Kd.R_alloc | apply Kd.R_drewN | apply Kd.R_drew)); exact HO_416002.out))) (Kd.R_lt (by (with_reducible repeat (first | apply Kd.R_alloc | apply Kd.R_drewN | apply Kd.R_drew)); exact HO_416003.out))) (Kd.R_lt (by (with_reducible repeat (first | apply Kd.R_alloc | apply Kd.R_drewN | apply Kd.R_drew)); exact HO_426002.out))) (Kd.R_lt (by (with_reducible repeat (first | apply Kd.R_alloc | apply Kd.R_drewN | apply Kd.R_drew)); exact HO_426003.out))) (below_size (by repeat (first | (with_reducible first | exact HB.out | apply below_alloc | apply pw_below_drewN | apply below_drew1 | refine below_set ?_ GE415.out | refine below_set ?_ GE425.out) | exact HB.out)))); have n5_ := Aside0.mk (Kd.R_lower (Kd.R_new' (Kd.R_new' (Kd.R_new' (Kd.R_new' ho1 (Kd.R_lt (by (with_reducible repeat (first | apply Kd.R_alloc | apply Kd.R_drewN | apply Kd.R_drew)); exact HO_416002.out))) (Kd.R_lt (by (with_reducible repeat (first | apply Kd.R_alloc | apply Kd.R_drewN | apply Kd.R_drew)); exact HO_416003.out))) (Kd.R_lt (by (with_reducible repeat (first | apply Kd.R_alloc | apply Kd.R_drewN | apply Kd.R_drew)); exact HO_426002.out))) (Kd.R_lt (by (with_reducible repeat (first | apply Kd.R_alloc | apply Kd.R_drewN | apply Kd.R_drew)); exact HO_426003.out))) (below_size (by repeat (first | (with_reducible first | exact HB.out | apply below_alloc | apply pw_below_drewN | apply below_drew1 | refine below_set ?_ GE415.out | refine below_set ?_ GE425.out) | exact HB.out)))); have n6_ := Aside0.mk (blk_below (g := gb415) (o := .cells #[.int .i64 t406, .int .i64 t407, .slice Ao9 t408.length co9, .slice Ao10 t411.length co10] 45 (0, 0)) (by (with_reducible repeat (first | refine blk_drewN ?_ _ | refine blk_drew ?_ | refine blk_alloc ?_ _)); exact BK415.out) hb); have n7_ := Aside0.mk (blk_below (g := gb425) (o := .cells #[.int .i64 t416, .int .i64 t417, .slice Ao15 t418.length co15, .slice Ao16 t421.length co16] 45 (0, 0)) (by (with_reducible repeat (first | refine blk_drewN ?_ _ | refine blk_drew ?_ | refine blk_alloc ?_ _)); exact BK425.out) hb); have n8_ := Aside0.mk (below_step (by repeat (first | (with_reducible first | exact HB.out | apply below_alloc | apply pw_below_drewN | apply below_drew1 | refine below_set ?_ GE415.out | refine below_set ?_ GE425.out) | exact HB.out)) hb); clear HO_416002; clear HO_416003; clear HO_426002; clear HO_426003; clear BK415; clear BK425; clear HB; have HO_416002 := n0_; have HO_416003 := n1_; have HO_426002 := n2_; have HO_426003 := n3_; have HO435 := n4_; have HO438 := n5_; have BK415 := n6_; have BK425 := n7_; have HB := n8_; clear n0_ n1_ n2_ n3_ n4_ n5_ n6_ n7_ n8_; (try clear hb); (try clear hb2); (try clear hk); (try clear hi); (try clear ho0); (try clear ho1)) | ((with_reducible refine gate_dst (N := 11) rfl ?_); refine box_event ?hg (N := 11) ?hd (cs := #[.int .i64 0, .int .i64 0, .slice none 0 0, .slice none 0 0]) (t := 45) ?hr ?_; (case hd => rfl); (case hg => rfl); (case hr => first | (go_simp; done) | (go_simp; rfl)); intro gb440 hg w40 hbox hb; have n0_ := Aside0.mk (Kd.R_below (by (with_reducible repeat (first | apply Kd.R_alloc | apply Kd.R_drewN | apply Kd.R_drew)); exact HO_416002.out) hb); have n1_ := Aside0.mk (Kd.R_below (by (with_reducible repeat (first | apply Kd.R_alloc | apply Kd.R_drewN | apply Kd.R_drew)); exact HO_416003.out) hb); have n2_ := Aside0.mk (Kd.R_below (by (with_reducible repeat (first | apply Kd.R_alloc | apply Kd.R_drewN | apply Kd.R_drew)); exact HO_426002.out) hb); have n3_ := Aside0.mk (Kd.R_below (by (with_reducible repeat (first | apply Kd.R_alloc | apply Kd.R_drewN | apply Kd.R_drew)); exact HO_426003.out) hb); have n4_ := Aside0.mk (Kd.R_below (by (with_reducible repeat (first | apply Kd.R_alloc | apply Kd.R_drewN | apply Kd.R_drew)); exact HO435.out) hb); have n5_ := Aside0.mk (Kd.R_below (by (with_reducible repeat (first | apply Kd.R_alloc | apply Kd.R_drewN | apply Kd.R_drew)); exact HO438.out) hb); have n6_ := Aside0.mk (blk_below (g := gb415) (o := .cells #[.int .i64 t406, .int .i64 t407, .slice Ao9 t408.length co9, .slice Ao10 t411.length co10] 45 (0, 0)) (by (with_reducible repeat (first | refine blk_drewN ?_ _ | refine blk_drew ?_ | refine blk_alloc ?_ _)); exact BK415.out) hb); have n7_ := Aside0.mk (blk_below (g := gb425) (o := .cells #[.int .i64 t416, .int .i64 t417, .slice Ao15 t418.length co15, .slice Ao16 t421.length co16] 45 (0, 0)) (by (with_reducible repeat (first | refine blk_drewN ?_ _ | refine blk_drew ?_ | refine blk_alloc ?_ _)); exact BK425.out) hb); have n8_ := Aside0.mk (below_step (by repeat (first | (with_reducible first | exact HB.out | apply below_alloc | apply pw_below_drewN | apply below_drew1 | refine below_set ?_ GE415.out | refine below_set ?_ GE425.out) | exact HB.out)) hb); have n9_ := Aside0.mk (hbox); have n10_ := Aside0.mk ((by rw [hg]; exact (below_size (by repeat (first | (with_reducible first | exact HB.out | apply below_alloc | apply pw_below_drewN | apply below_drew1 | refine below_set ?_ GE415.out | refine below_set ?_ GE425.out) | exact HB.out))) : w.heap.size ≤ gb440)); have n11_ := Aside0.mk ((by rw [hg]; exact (below_size (by repeat (first | (with_reducible first | exact HB.out | apply below_alloc | apply pw_below_drewN | apply below_drew1 | refine below_set ?_ GE415.out | refine below_set ?_ GE425.out) | exact HB.out))) : w.heap.size ≤ gb440)); have n12_ := Aside0.mk ((by rw [hg]; exact Nat.ne_of_lt (blk_lt (g := gb415) (o := .cells #[.int .i64 t406, .int .i64 t407, .slice Ao9 t408.length co9, .slice Ao10 t411.length co10] 45 (0, 0)) (by (with_reducible repeat (first | refine blk_drewN ?_ _ | refine blk_drew ?_ | refine blk_alloc ?_ _)); exact BK415.out)) : gb415 ≠ gb440)); have n13_ := Aside0.mk ((by rw [hg]; exact Nat.ne_of_gt (blk_lt (g := gb415) (o := .cells #[.int .i64 t406, .int .i64 t407, .slice Ao9 t408.length co9, .slice Ao10 t411.length co10] 45 (0, 0)) (by (with_reducible repeat (first | refine blk_drewN ?_ _ | refine blk_drew ?_ | refine blk_alloc ?_ _)); exact BK415.out)) : gb440 ≠ gb415)); have n14_ := Aside0.mk ((by rw [hg]; exact Nat.ne_of_lt (blk_lt (g := gb425) (o := .cells #[.int .i64 t416, .int .i64 t417, .slice Ao15 t418.length co15, .slice Ao16 t421.length co16] 45 (0, 0)) (by (with_reducible repeat (first | refine blk_drewN ?_ _ | refine blk_drew ?_ | refine blk_alloc ?_ _)); exact BK425.out)) : gb425 ≠ gb440)); have n15_ := Aside0.mk ((by rw [hg]; exact Nat.ne_of_gt (blk_lt (g := gb425) (o := .cells #[.int .i64 t416, .int .i64 t417, .slice Ao15 t418.length co15, .slice Ao16 t421.length co16] 45 (0, 0)) (by (with_reducible repeat (first | refine blk_drewN ?_ _ | refine blk_drew ?_ | refine blk_alloc ?_ _)); exact BK425.out)) : gb440 ≠ gb425)); clear HO_416002; clear HO_416003; clear HO_426002; clear HO_426003; clear HO435; clear HO438; clear BK415; clear BK425; clear HB; have HO_416002 := n0_; have HO_416003 := n1_; have HO_426002 := n2_; have HO_426003 := n3_; have HO435 := n4_; have HO438 := n5_; have BK415 := n6_; have BK425 := n7_; have HB := n8_; have BK440 := n9_; have GW440 := n10_; have GE440 := n11_; have NB415_440 := n12_; have NB440_415 := n13_; have NB425_440 := n14_; have NB440_425 := n15_; clear n0_ n1_ n2_ n3_ n4_ n5_ n6_ n7_ n8_ n9_ n10_ n11_ n12_ n13_ n14_ n15_; clear hb hbox hg; have hnb41 := NB440_415.out; have hnc41 := NB415_440.out; have hnb42 := NB440_425.out; have hnc42 := NB425_440.out; have hcz43_0 : w40.cell? ⟨gb440, 0, none⟩ = some (.int .i64 0) := (blk_cell BK440.out 0).trans rfl; have hcz43_1 : w40.cell? ⟨gb440, 1, none⟩ = some (.int .i64 0) := (blk_cell BK440.out 1).trans rfl; have hcz43_2 : w40.cell? ⟨gb440, 2, none⟩ = some (.slice none 0 0) := (blk_cell BK440.out 2).trans rfl; have hcz43_3 : w40.cell? ⟨gb440, 3, none⟩ = some (.slice none 0 0) := (blk_cell BK440.out 3).trans rfl; have hfz43_0 := blk_frozen BK440.out 0; have hfz43_1 := blk_frozen BK440.out 1; have hfz43_2 := blk_frozen BK440.out 2; have hfz43_3 := blk_frozen BK440.out 3; obtain ⟨Ao44, co44, eo44⟩ := Kd.R_slice HO435.out; subst eo44; obtain ⟨Ao45, co45, eo45⟩ := Kd.R_slice HO438.out; subst eo45))
            (try simp only [Act.put, List.setIfInBounds_toArray, List.set_cons_zero, List.set_cons_succ])
            go_cut [59] (fun v59 wc => ∃ (kq : Nat) (x59_32 : Bool), v59 = .bool x59_32 ∧ Aside0 (laws_FnExactRingNew.j1 kq t427 x59_32 t416 t417 t428 t429 = some r) ∧ Aside0 (kq ≤ kj4) ∧ Aside0 (Kd.R (Kd.int .i64) 3 wc w.heap.size (fun k_ => some k_ ≠ ((.slice Ao10 t411.length co10) : Value).ownBlock ∧ some k_ ≠ ((.slice Ao15 t418.length co15) : Value).ownBlock ∧ some k_ ≠ ((.slice Ao16 t421.length co16) : Value).ownBlock ∧ some k_ ≠ ((.slice Ao44 t433.length co44) : Value).ownBlock ∧ some k_ ≠ ((.slice Ao45 t436.length co45) : Value).ownBlock) (.slice Ao9 t408.length co9) t408) ∧ Aside0 (Kd.R (Kd.int .i64) 3 wc w.heap.size (fun k_ => some k_ ≠ ((.slice Ao9 t408.length co9) : Value).ownBlock ∧ some k_ ≠ ((.slice Ao15 t418.length co15) : Value).ownBlock ∧ some k_ ≠ ((.slice Ao16 t421.length co16) : Value).ownBlock ∧ some k_ ≠ ((.slice Ao44 t433.length co44) : Value).ownBlock ∧ some k_ ≠ ((.slice Ao45 t436.length co45) : Value).ownBlock) (.slice Ao10 t411.length co10) t411) ∧ Aside0 (Kd.R (Kd.int .i64) 3 wc w.heap.size (fun k_ => some k_ ≠ ((.slice Ao9 t408.length co9) : Value).ownBlock ∧ some k_ ≠ ((.slice Ao10 t411.length co10) : Value).ownBlock ∧ some k_ ≠ ((.slice Ao16 t421.length co16) : Value).ownBlock ∧ some k_ ≠ ((.slice Ao44 t433.length co44) : Value).ownBlock ∧ some k_ ≠ ((.slice Ao45 t436.length co45) : Value).ownBlock) (.slice Ao15 t418.length co15) t428) ∧ Aside0 (Kd.R (Kd.int .i64) 3 wc w.heap.size (fun k_ => some k_ ≠ ((.slice Ao9 t408.length co9) : Value).ownBlock ∧ some k_ ≠ ((.slice Ao10 t411.length co10) : Value).ownBlock ∧ some k_ ≠ ((.slice Ao15 t418.length co15) : Value).ownBlock ∧ some k_ ≠ ((.slice Ao44 t433.length co44) : Value).ownBlock ∧ some k_ ≠ ((.slice Ao45 t436.length co45) : Value).ownBlock) (.slice Ao16 t421.length co16) t429) ∧ Aside0 (Kd.R (Kd.int .i64) 3 wc w.heap.size (fun k_ => some k_ ≠ ((.slice Ao9 t408.length co9) : Value).ownBlock ∧ some k_ ≠ ((.slice Ao10 t411.length co10) : Value).ownBlock ∧ some k_ ≠ ((.slice Ao15 t418.length co15) : Value).ownBlock ∧ some k_ ≠ ((.slice Ao16 t421.length co16) : Value).ownBlock ∧ some k_ ≠ ((.slice Ao45 t436.length co45) : Value).ownBlock) (.slice Ao44 t433.length co44) t433) ∧ Aside0 (Kd.R (Kd.int .i64) 3 wc w.heap.size (fun k_ => some k_ ≠ ((.slice Ao9 t408.length co9) : Value).ownBlock ∧ some k_ ≠ ((.slice Ao10 t411.length co10) : Value).ownBlock ∧ some k_ ≠ ((.slice Ao15 t418.length co15) : Value).ownBlock ∧ some k_ ≠ ((.slice Ao16 t421.length co16) : Value).ownBlock ∧ some k_ ≠ ((.slice Ao44 t433.length co44) : Value).ownBlock) (.slice Ao45 t436.length co45) t436) ∧ Aside0 (wc.heap[gb415]? = some (.cells #[.int .i64 t406, .int .i64 t407, (.slice Ao9 t408.length co9), (.slice Ao10 t411.length co10)] 45 (0, 0))) ∧ Aside0 (wc.heap[gb425]? = some (.cells #[.int .i64 t416, .int .i64 t417, (.slice Ao15 t418.length co15), (.slice Ao16 t421.length co16)] 45 (0, 0))) ∧ Aside0 (wc.heap[gb440]? = some (.cells #[.int .i64 t431, .int .i64 t432, (.slice Ao44 t433.length co44), (.slice Ao45 t436.length co45)] 45 (0, 0))) ∧ Aside0 (Below w.heap.size w wc))
            case first =>
              have H := HC33.out
              clear HC33
              replace H := Option.bind_eq_some_iff.mp H
              obtain ⟨t441, A460, H⟩ := H
              replace H : (if t441 = true then (laws_FnExactRingNew.j1 kj4 t427 (t439 != t414) t416 t417 t428 t429) else (laws_FnExactRingNew.j1 kj4 t427 true t416 t417 t428 t429)) = some r := H
              have A46 := Aside0.mk A460
              clear A460
              by_cases c47 : t441 = true
              · subst c47
                have H1 : (laws_FnExactRingNew.j1 kj4 t427 (t439 != t414) t416 t417 t428 t429) = some r := by rw [if_pos rfl] at H; exact H
                clear H
                have H := H1
                clear H1
                have H' := Aside0.mk H
                clear H
                have hnb48 := NB440_415.out
                have hnc48 := NB415_440.out
                have hnb49 := NB440_425.out
                have hnc49 := NB425_440.out
                have hcz50_0 : w40.cell? ⟨gb440, 0, none⟩ = some (.int .i64 0) := (blk_cell BK440.out 0).trans rfl
                have hcz50_1 : w40.cell? ⟨gb440, 1, none⟩ = some (.int .i64 0) := (blk_cell BK440.out 1).trans rfl
                have hcz50_2 : w40.cell? ⟨gb440, 2, none⟩ = some (.slice none 0 0) := (blk_cell BK440.out 2).trans rfl
                have hcz50_3 : w40.cell? ⟨gb440, 3, none⟩ = some (.slice none 0 0) := (blk_cell BK440.out 3).trans rfl
                have hfz50_0 := blk_frozen BK440.out 0
                have hfz50_1 := blk_frozen BK440.out 1
                have hfz50_2 := blk_frozen BK440.out 2
                have hfz50_3 := blk_frozen BK440.out 3
                have hnb51 := NB415_425.out
                have hnc51 := NB425_415.out
                have hcz52_0 : w40.cell? ⟨gb415, 0, none⟩ = some (.int .i64 t406) := (blk_cell BK415.out 0).trans rfl
                have hcz52_1 : w40.cell? ⟨gb415, 1, none⟩ = some (.int .i64 t407) := (blk_cell BK415.out 1).trans rfl
                have hcz52_2 : w40.cell? ⟨gb415, 2, none⟩ = some (.slice Ao9 t408.length co9) := (blk_cell BK415.out 2).trans rfl
                have hcz52_3 : w40.cell? ⟨gb415, 3, none⟩ = some (.slice Ao10 t411.length co10) := (blk_cell BK415.out 3).trans rfl
                have hfz52_0 := blk_frozen BK415.out 0
                have hfz52_1 := blk_frozen BK415.out 1
                have hfz52_2 := blk_frozen BK415.out 2
                have hfz52_3 := blk_frozen BK415.out 3
                go_wp2_with (first | ((with_reducible refine gate_callee (f := 47) rfl ?_); refine goesL_ (some 53) rfl rfl Try.func47 (by kernel_rfl) rfl #[.agg #[.int .i64 t431, .int .i64 t432, .slice Ao44 t433.length co44, .slice Ao45 t436.length co45], .agg #[.int .i64 t406, .int .i64 t407, .slice Ao9 t408.length co9, .slice Ao10 t411.length co10]] rfl (by (try simp only [List.map_toArray, List.map_cons, List.map_nil]); first | done | rfl | (simp only [List.length_drop, List.length_take]; rfl)) ?_; (with_reducible refine (laws_eqRing.calls kj4 t431 t432 _ _ t433 _ _ t436 t406 t407 _ _ t408 _ _ t411 true _ ?side1 ?side2 ?side3 ?side4 ?side5 ?side6 ?side7 ?side8 A46.out).mono ?_); (case side1 => refine (Kd.R_reads' (e := 3) (base := w.heap.size) (ok := fun k_ => ((((some k_ ≠ (.slice Ao45 t436.length co45 : Value).ownBlock ∧ some k_ ≠ (.slice Ao9 t408.length co9 : Value).ownBlock) ∧ some k_ ≠ (.slice Ao10 t411.length co10 : Value).ownBlock) ∧ some k_ ≠ (.slice Ao15 t418.length co15 : Value).ownBlock) ∧ some k_ ≠ (.slice Ao16 t421.length co16 : Value).ownBlock)) (n := t433.length) (c := co44) ?_).2.2; exact (by (with_reducible repeat (first | apply Kd.R_alloc | apply Kd.R_drewN | apply Kd.R_drew)); exact (Kd.R_mono (Kd.R_far (p := ⟨gb440, 3, none⟩) (Kd.R_far (p := ⟨gb440, 2, none⟩) (Kd.R_far (p := ⟨gb440, 1, none⟩) (Kd.R_far (p := ⟨gb440, 0, none⟩) (Kd.R_types HO435.out BK440.out (by decide)) (fun _ hk => hk.2) (.int .i64 t431)) (fun _ hk => hk.2) (.int .i64 t432)) (fun _ hk => hk.2) (.slice Ao44 t433.length co44)) (fun _ hk => hk.2) (.slice Ao45 t436.length co45)) (fun _ h_ => h_.1)))); (case side2 => exact (Kd.R_reads' HO435.out).2.1); (case side3 => refine (Kd.R_reads' (e := 3) (base := w.heap.size) (ok := fun k_ => ((((some k_ ≠ (.slice Ao44 t433.length co44 : Value).ownBlock ∧ some k_ ≠ (.slice Ao9 t408.length co9 : Value).ownBlock) ∧ some k_ ≠ (.slice Ao10 t411.length co10 : Value).ownBlock) ∧ some k_ ≠ (.slice Ao15 t418.length co15 : Value).ownBlock) ∧ some k_ ≠ (.slice Ao16 t421.length co16 : Value).ownBlock)) (n := t436.length) (c := co45) ?_).2.2; exact (by (with_reducible repeat (first | apply Kd.R_alloc | apply Kd.R_drewN | apply Kd.R_drew)); exact (Kd.R_mono (Kd.R_far (p := ⟨gb440, 3, none⟩) (Kd.R_far (p := ⟨gb440, 2, none⟩) (Kd.R_far (p := ⟨gb440, 1, none⟩) (Kd.R_far (p := ⟨gb440, 0, none⟩) (Kd.R_types HO438.out BK440.out (by decide)) (fun _ hk => hk.2) (.int .i64 t431)) (fun _ hk => hk.2) (.int .i64 t432)) (fun _ hk => hk.2) (.slice Ao44 t433.length co44)) (fun _ hk => hk.2) (.slice Ao45 t436.length co45)) (fun _ h_ => h_.1)))); (case side4 => exact (Kd.R_reads' HO438.out).2.1); (case side5 => refine (Kd.R_reads' (e := 3) (base := w.heap.size) (ok := fun k_ => (((some k_ ≠ (.slice Ao10 t411.length co10 : Value).ownBlock ∧ (some k_ ≠ (.slice Ao15 t418.length co15 : Value).ownBlock ∧ some k_ ≠ (.slice Ao16 t421.length co16 : Value).ownBlock)) ∧ some k_ ≠ (.slice Ao44 t433.length co44 : Value).ownBlock) ∧ some k_ ≠ (.slice Ao45 t436.length co45 : Value).ownBlock)) (n := t408.length) (c := co9) ?_).2.2; exact (by (with_reducible repeat (first | apply Kd.R_alloc | apply Kd.R_drewN | apply Kd.R_drew)); exact (Kd.R_mono (Kd.R_far (p := ⟨gb440, 3, none⟩) (Kd.R_far (p := ⟨gb440, 2, none⟩) (Kd.R_far (p := ⟨gb440, 1, none⟩) (Kd.R_far (p := ⟨gb440, 0, none⟩) (Kd.R_types HO_416002.out BK440.out (by decide)) (fun _ hk => hk.2) (.int .i64 t431)) (fun _ hk => hk.2) (.int .i64 t432)) (fun _ hk => hk.2) (.slice Ao44 t433.length co44)) (fun _ hk => hk.2) (.slice Ao45 t436.length co45)) (fun _ h_ => h_.1)))); (case side6 => exact (Kd.R_reads' HO_416002.out).2.1); (case side7 => refine (Kd.R_reads' (e := 3) (base := w.heap.size) (ok := fun k_ => (((some k_ ≠ (.slice Ao9 t408.length co9 : Value).ownBlock ∧ (some k_ ≠ (.slice Ao15 t418.length co15 : Value).ownBlock ∧ some k_ ≠ (.slice Ao16 t421.length co16 : Value).ownBlock)) ∧ some k_ ≠ (.slice Ao44 t433.length co44 : Value).ownBlock) ∧ some k_ ≠ (.slice Ao45 t436.length co45 : Value).ownBlock)) (n := t411.length) (c := co10) ?_).2.2; exact (by (with_reducible repeat (first | apply Kd.R_alloc | apply Kd.R_drewN | apply Kd.R_drew)); exact (Kd.R_mono (Kd.R_far (p := ⟨gb440, 3, none⟩) (Kd.R_far (p := ⟨gb440, 2, none⟩) (Kd.R_far (p := ⟨gb440, 1, none⟩) (Kd.R_far (p := ⟨gb440, 0, none⟩) (Kd.R_types HO_416003.out BK440.out (by decide)) (fun _ hk => hk.2) (.int .i64 t431)) (fun _ hk => hk.2) (.int .i64 t432)) (fun _ hk => hk.2) (.slice Ao44 t433.length co44)) (fun _ hk => hk.2) (.slice Ao45 t436.length co45)) (fun _ h_ => h_.1)))); (case side8 => exact (Kd.R_reads' HO_416003.out).2.1); rintro e w53 ⟨rfl, hb⟩; refine ⟨_, rfl, ?_⟩; have n0_ := Aside0.mk (Kd.R_below (by (with_reducible repeat (first | apply Kd.R_alloc | apply Kd.R_drewN | apply Kd.R_drew)); exact (Kd.R_mono (Kd.R_far (p := ⟨gb440, 3, none⟩) (Kd.R_far (p := ⟨gb440, 2, none⟩) (Kd.R_far (p := ⟨gb440, 1, none⟩) (Kd.R_far (p := ⟨gb440, 0, none⟩) (Kd.R_types HO_416002.out BK440.out (by decide)) (fun _ hk => hk.2) (.int .i64 t431)) (fun _ hk => hk.2) (.int .i64 t432)) (fun _ hk => hk.2) (.slice Ao44 t433.length co44)) (fun _ hk => hk.2) (.slice Ao45 t436.length co45)) (fun _ h_ => h_.1))) hb); have n1_ := Aside0.mk (Kd.R_below (by (with_reducible repeat (first | apply Kd.R_alloc | apply Kd.R_drewN | apply Kd.R_drew)); exact (Kd.R_mono (Kd.R_far (p := ⟨gb440, 3, none⟩) (Kd.R_far (p := ⟨gb440, 2, none⟩) (Kd.R_far (p := ⟨gb440, 1, none⟩) (Kd.R_far (p := ⟨gb440, 0, none⟩) (Kd.R_types HO_416003.out BK440.out (by decide)) (fun _ hk => hk.2) (.int .i64 t431)) (fun _ hk => hk.2) (.int .i64 t432)) (fun _ hk => hk.2) (.slice Ao44 t433.length co44)) (fun _ hk => hk.2) (.slice Ao45 t436.length co45)) (fun _ h_ => h_.1))) hb); have n2_ := Aside0.mk (Kd.R_below (by (with_reducible repeat (first | apply Kd.R_alloc | apply Kd.R_drewN | apply Kd.R_drew)); exact (Kd.R_mono (Kd.R_far (p := ⟨gb440, 3, none⟩) (Kd.R_far (p := ⟨gb440, 2, none⟩) (Kd.R_far (p := ⟨gb440, 1, none⟩) (Kd.R_far (p := ⟨gb440, 0, none⟩) (Kd.R_types HO_426002.out BK440.out (by decide)) (fun _ hk => hk.2) (.int .i64 t431)) (fun _ hk => hk.2) (.int .i64 t432)) (fun _ hk => hk.2) (.slice Ao44 t433.length co44)) (fun _ hk => hk.2) (.slice Ao45 t436.length co45)) (fun _ h_ => h_.1))) hb); have n3_ := Aside0.mk (Kd.R_below (by (with_reducible repeat (first | apply Kd.R_alloc | apply Kd.R_drewN | apply Kd.R_drew)); exact (Kd.R_mono (Kd.R_far (p := ⟨gb440, 3, none⟩) (Kd.R_far (p := ⟨gb440, 2, none⟩) (Kd.R_far (p := ⟨gb440, 1, none⟩) (Kd.R_far (p := ⟨gb440, 0, none⟩) (Kd.R_types HO_426003.out BK440.out (by decide)) (fun _ hk => hk.2) (.int .i64 t431)) (fun _ hk => hk.2) (.int .i64 t432)) (fun _ hk => hk.2) (.slice Ao44 t433.length co44)) (fun _ hk => hk.2) (.slice Ao45 t436.length co45)) (fun _ h_ => h_.1))) hb); have n4_ := Aside0.mk (Kd.R_below (by (with_reducible repeat (first | apply Kd.R_alloc | apply Kd.R_drewN | apply Kd.R_drew)); exact (Kd.R_mono (Kd.R_far (p := ⟨gb440, 3, none⟩) (Kd.R_far (p := ⟨gb440, 2, none⟩) (Kd.R_far (p := ⟨gb440, 1, none⟩) (Kd.R_far (p := ⟨gb440, 0, none⟩) (Kd.R_types HO435.out BK440.out (by decide)) (fun _ hk => hk.2) (.int .i64 t431)) (fun _ hk => hk.2) (.int .i64 t432)) (fun _ hk => hk.2) (.slice Ao44 t433.length co44)) (fun _ hk => hk.2) (.slice Ao45 t436.length co45)) (fun _ h_ => h_.1))) hb); have n5_ := Aside0.mk (Kd.R_below (by (with_reducible repeat (first | apply Kd.R_alloc | apply Kd.R_drewN | apply Kd.R_drew)); exact (Kd.R_mono (Kd.R_far (p := ⟨gb440, 3, none⟩) (Kd.R_far (p := ⟨gb440, 2, none⟩) (Kd.R_far (p := ⟨gb440, 1, none⟩) (Kd.R_far (p := ⟨gb440, 0, none⟩) (Kd.R_types HO438.out BK440.out (by decide)) (fun _ hk => hk.2) (.int .i64 t431)) (fun _ hk => hk.2) (.int .i64 t432)) (fun _ hk => hk.2) (.slice Ao44 t433.length co44)) (fun _ hk => hk.2) (.slice Ao45 t436.length co45)) (fun _ h_ => h_.1))) hb); have n6_ := Aside0.mk (blk_below (g := gb415) (o := .cells #[.int .i64 t406, .int .i64 t407, .slice Ao9 t408.length co9, .slice Ao10 t411.length co10] 45 (0, 0)) (by (with_reducible repeat (first | refine blk_drewN ?_ _ | refine blk_drew ?_ | refine blk_alloc ?_ _)); refine blk_far ?_ NB415_440.out _; (with_reducible repeat (first | refine blk_drewN ?_ _ | refine blk_drew ?_ | refine blk_alloc ?_ _)); refine blk_far ?_ NB415_440.out _; (with_reducible repeat (first | refine blk_drewN ?_ _ | refine blk_drew ?_ | refine blk_alloc ?_ _)); refine blk_far ?_ NB415_440.out _; (with_reducible repeat (first | refine blk_drewN ?_ _ | refine blk_drew ?_ | refine blk_alloc ?_ _)); refine blk_far ?_ NB415_440.out _; (with_reducible repeat (first | refine blk_drewN ?_ _ | refine blk_drew ?_ | refine blk_alloc ?_ _)); exact BK415.out) hb); have n7_ := Aside0.mk (blk_below (g := gb425) (o := .cells #[.int .i64 t416, .int .i64 t417, .slice Ao15 t418.length co15, .slice Ao16 t421.length co16] 45 (0, 0)) (by (with_reducible repeat (first | refine blk_drewN ?_ _ | refine blk_drew ?_ | refine blk_alloc ?_ _)); refine blk_far ?_ NB425_440.out _; (with_reducible repeat (first | refine blk_drewN ?_ _ | refine blk_drew ?_ | refine blk_alloc ?_ _)); refine blk_far ?_ NB425_440.out _; (with_reducible repeat (first | refine blk_drewN ?_ _ | refine blk_drew ?_ | refine blk_alloc ?_ _)); refine blk_far ?_ NB425_440.out _; (with_reducible repeat (first | refine blk_drewN ?_ _ | refine blk_drew ?_ | refine blk_alloc ?_ _)); refine blk_far ?_ NB425_440.out _; (with_reducible repeat (first | refine blk_drewN ?_ _ | refine blk_drew ?_ | refine blk_alloc ?_ _)); exact BK425.out) hb); have n8_ := Aside0.mk (blk_below (g := gb440) (o := .cells #[.int .i64 t431, .int .i64 t432, .slice Ao44 t433.length co44, .slice Ao45 t436.length co45] 45 (0, 0)) (by (with_reducible repeat (first | refine blk_drewN ?_ _ | refine blk_drew ?_ | refine blk_alloc ?_ _)); refine blk_put (cs := #[.int .i64 t431, .int .i64 t432, .slice Ao44 t433.length co44, .slice none 0 0]) ?_ 3 _ rfl; (with_reducible repeat (first | refine blk_drewN ?_ _ | refine blk_drew ?_ | refine blk_alloc ?_ _)); refine blk_put (cs := #[.int .i64 t431, .int .i64 t432, .slice none 0 0, .slice none 0 0]) ?_ 2 _ rfl; (with_reducible repeat (first | refine blk_drewN ?_ _ | refine blk_drew ?_ | refine blk_alloc ?_ _)); refine blk_put (cs := #[.int .i64 t431, .int .i64 0, .slice none 0 0, .slice none 0 0]) ?_ 1 _ rfl; (with_reducible repeat (first | refine blk_drewN ?_ _ | refine blk_drew ?_ | refine blk_alloc ?_ _)); refine blk_put (cs := #[.int .i64 0, .int .i64 0, .slice none 0 0, .slice none 0 0]) ?_ 0 _ rfl; (with_reducible repeat (first | refine blk_drewN ?_ _ | refine blk_drew ?_ | refine blk_alloc ?_ _)); exact BK440.out) hb); have n9_ := Aside0.mk (below_step (by repeat (first | (with_reducible first | exact HB.out | apply below_alloc | apply pw_below_drewN | apply below_drew1 | refine below_set ?_ GE415.out | refine below_set ?_ GE425.out | refine below_set ?_ GE440.out) | exact HB.out)) hb); clear HO_416002; clear HO_416003; clear HO_426002; clear HO_426003; clear HO435; clear HO438; clear BK415; clear BK425; clear BK440; clear HB; have HO_416002 := n0_; have HO_416003 := n1_; have HO_426002 := n2_; have HO_426003 := n3_; have HO435 := n4_; have HO438 := n5_; have BK415 := n6_; have BK425 := n7_; have BK440 := n8_; have HB := n9_; clear n0_ n1_ n2_ n3_ n4_ n5_ n6_ n7_ n8_ n9_; (try clear hb); (try clear hb2); (try clear hk); (try clear hi)))
                go_meet
                case rel => exact ⟨_, ((t439 != t414)), (by first | rfl | (simp; done) | (simp [*]; done) | (have e_ : ∀ x_ : Int, wrap64 (x_ % 256) = x_ % 256 := (fun x_ => (by unfold wrap64; omega)); simp [i64_w, IntKind.wrap_u8, e_]; done) | (simp; generalize ByteArray.toList _ = zz_; cases zz_ <;> rfl)), H', ⟨by have := HJ4.out; first | omega | exact Nat.le_refl _⟩, ⟨by (with_reducible repeat (first | apply Kd.R_alloc | apply Kd.R_drewN | apply Kd.R_drew)); exact Kd.R_mono HO_416002.out (fun _ hk => ⟨hk.1.1.1, ⟨hk.1.1.2.1, ⟨hk.1.1.2.2, ⟨hk.1.2, hk.2⟩⟩⟩⟩)⟩, ⟨by (with_reducible repeat (first | apply Kd.R_alloc | apply Kd.R_drewN | apply Kd.R_drew)); exact Kd.R_mono HO_416003.out (fun _ hk => ⟨hk.1.1.1, ⟨hk.1.1.2.1, ⟨hk.1.1.2.2, ⟨hk.1.2, hk.2⟩⟩⟩⟩)⟩, ⟨by (with_reducible repeat (first | apply Kd.R_alloc | apply Kd.R_drewN | apply Kd.R_drew)); exact Kd.R_mono HO_426002.out (fun _ hk => ⟨hk.1.1.1, ⟨hk.1.1.2.1, ⟨hk.1.1.2.2, ⟨hk.1.2, hk.2⟩⟩⟩⟩)⟩, ⟨by (with_reducible repeat (first | apply Kd.R_alloc | apply Kd.R_drewN | apply Kd.R_drew)); exact Kd.R_mono HO_426003.out (fun _ hk => ⟨hk.1.1.1, ⟨hk.1.1.2.1, ⟨hk.1.1.2.2, ⟨hk.1.2, hk.2⟩⟩⟩⟩)⟩, ⟨by (with_reducible repeat (first | apply Kd.R_alloc | apply Kd.R_drewN | apply Kd.R_drew)); exact Kd.R_mono HO435.out (fun _ hk => ⟨hk.1.1.1.2, ⟨hk.1.1.2, ⟨hk.1.2, ⟨hk.2, hk.1.1.1.1⟩⟩⟩⟩)⟩, ⟨by (with_reducible repeat (first | apply Kd.R_alloc | apply Kd.R_drewN | apply Kd.R_drew)); exact Kd.R_mono HO438.out (fun _ hk => ⟨hk.1.1.1.2, ⟨hk.1.1.2, ⟨hk.1.2, ⟨hk.2, hk.1.1.1.1⟩⟩⟩⟩)⟩, ⟨by (with_reducible repeat (first | refine blk_drewN ?_ _ | refine blk_drew ?_ | refine blk_alloc ?_ _)); exact BK415.out⟩, ⟨by (with_reducible repeat (first | refine blk_drewN ?_ _ | refine blk_drew ?_ | refine blk_alloc ?_ _)); exact BK425.out⟩, ⟨by (with_reducible repeat (first | refine blk_drewN ?_ _ | refine blk_drew ?_ | refine blk_alloc ?_ _)); exact BK440.out⟩, ⟨by repeat (first | (with_reducible first | exact HB.out | apply below_alloc | apply pw_below_drewN | apply below_drew1 | refine below_set ?_ GE415.out | refine below_set ?_ GE425.out | refine below_set ?_ GE440.out) | exact HB.out)⟩⟩
              · replace c47 := Bool.eq_false_iff.mpr c47
                subst c47
                have H1 : (laws_FnExactRingNew.j1 kj4 t427 true t416 t417 t428 t429) = some r := by rw [if_neg (show ¬ (false = true) by decide)] at H; exact H
                clear H
                have H := H1
                clear H1
                have H' := Aside0.mk H
                clear H
                have hnb54 := NB440_415.out
                have hnc54 := NB415_440.out
                have hnb55 := NB440_425.out
                have hnc55 := NB425_440.out
                have hcz56_0 : w40.cell? ⟨gb440, 0, none⟩ = some (.int .i64 0) := (blk_cell BK440.out 0).trans rfl
                have hcz56_1 : w40.cell? ⟨gb440, 1, none⟩ = some (.int .i64 0) := (blk_cell BK440.out 1).trans rfl
                have hcz56_2 : w40.cell? ⟨gb440, 2, none⟩ = some (.slice none 0 0) := (blk_cell BK440.out 2).trans rfl
                have hcz56_3 : w40.cell? ⟨gb440, 3, none⟩ = some (.slice none 0 0) := (blk_cell BK440.out 3).trans rfl
                have hfz56_0 := blk_frozen BK440.out 0
                have hfz56_1 := blk_frozen BK440.out 1
                have hfz56_2 := blk_frozen BK440.out 2
                have hfz56_3 := blk_frozen BK440.out 3
                have hnb57 := NB415_425.out
                have hnc57 := NB425_415.out
                have hcz58_0 : w40.cell? ⟨gb415, 0, none⟩ = some (.int .i64 t406) := (blk_cell BK415.out 0).trans rfl
                have hcz58_1 : w40.cell? ⟨gb415, 1, none⟩ = some (.int .i64 t407) := (blk_cell BK415.out 1).trans rfl
                have hcz58_2 : w40.cell? ⟨gb415, 2, none⟩ = some (.slice Ao9 t408.length co9) := (blk_cell BK415.out 2).trans rfl
                have hcz58_3 : w40.cell? ⟨gb415, 3, none⟩ = some (.slice Ao10 t411.length co10) := (blk_cell BK415.out 3).trans rfl
                have hfz58_0 := blk_frozen BK415.out 0
                have hfz58_1 := blk_frozen BK415.out 1
                have hfz58_2 := blk_frozen BK415.out 2
                have hfz58_3 := blk_frozen BK415.out 3
                go_wp2_with (first | ((with_reducible refine gate_callee (f := 47) rfl ?_); refine goesL_ (some 53) rfl rfl Try.func47 (by kernel_rfl) rfl #[.agg #[.int .i64 t431, .int .i64 t432, .slice Ao44 t433.length co44, .slice Ao45 t436.length co45], .agg #[.int .i64 t406, .int .i64 t407, .slice Ao9 t408.length co9, .slice Ao10 t411.length co10]] rfl (by (try simp only [List.map_toArray, List.map_cons, List.map_nil]); first | done | rfl | (simp only [List.length_drop, List.length_take]; rfl)) ?_; (with_reducible refine (laws_eqRing.calls kj4 t431 t432 _ _ t433 _ _ t436 t406 t407 _ _ t408 _ _ t411 false _ ?side1 ?side2 ?side3 ?side4 ?side5 ?side6 ?side7 ?side8 A46.out).mono ?_); (case side1 => refine (Kd.R_reads' (e := 3) (base := w.heap.size) (ok := fun k_ => ((((some k_ ≠ (.slice Ao45 t436.length co45 : Value).ownBlock ∧ some k_ ≠ (.slice Ao9 t408.length co9 : Value).ownBlock) ∧ some k_ ≠ (.slice Ao10 t411.length co10 : Value).ownBlock) ∧ some k_ ≠ (.slice Ao15 t418.length co15 : Value).ownBlock) ∧ some k_ ≠ (.slice Ao16 t421.length co16 : Value).ownBlock)) (n := t433.length) (c := co44) ?_).2.2; exact (by (with_reducible repeat (first | apply Kd.R_alloc | apply Kd.R_drewN | apply Kd.R_drew)); exact (Kd.R_mono (Kd.R_far (p := ⟨gb440, 3, none⟩) (Kd.R_far (p := ⟨gb440, 2, none⟩) (Kd.R_far (p := ⟨gb440, 1, none⟩) (Kd.R_far (p := ⟨gb440, 0, none⟩) (Kd.R_types HO435.out BK440.out (by decide)) (fun _ hk => hk.2) (.int .i64 t431)) (fun _ hk => hk.2) (.int .i64 t432)) (fun _ hk => hk.2) (.slice Ao44 t433.length co44)) (fun _ hk => hk.2) (.slice Ao45 t436.length co45)) (fun _ h_ => h_.1)))); (case side2 => exact (Kd.R_reads' HO435.out).2.1); (case side3 => refine (Kd.R_reads' (e := 3) (base := w.heap.size) (ok := fun k_ => ((((some k_ ≠ (.slice Ao44 t433.length co44 : Value).ownBlock ∧ some k_ ≠ (.slice Ao9 t408.length co9 : Value).ownBlock) ∧ some k_ ≠ (.slice Ao10 t411.length co10 : Value).ownBlock) ∧ some k_ ≠ (.slice Ao15 t418.length co15 : Value).ownBlock) ∧ some k_ ≠ (.slice Ao16 t421.length co16 : Value).ownBlock)) (n := t436.length) (c := co45) ?_).2.2; exact (by (with_reducible repeat (first | apply Kd.R_alloc | apply Kd.R_drewN | apply Kd.R_drew)); exact (Kd.R_mono (Kd.R_far (p := ⟨gb440, 3, none⟩) (Kd.R_far (p := ⟨gb440, 2, none⟩) (Kd.R_far (p := ⟨gb440, 1, none⟩) (Kd.R_far (p := ⟨gb440, 0, none⟩) (Kd.R_types HO438.out BK440.out (by decide)) (fun _ hk => hk.2) (.int .i64 t431)) (fun _ hk => hk.2) (.int .i64 t432)) (fun _ hk => hk.2) (.slice Ao44 t433.length co44)) (fun _ hk => hk.2) (.slice Ao45 t436.length co45)) (fun _ h_ => h_.1)))); (case side4 => exact (Kd.R_reads' HO438.out).2.1); (case side5 => refine (Kd.R_reads' (e := 3) (base := w.heap.size) (ok := fun k_ => (((some k_ ≠ (.slice Ao10 t411.length co10 : Value).ownBlock ∧ (some k_ ≠ (.slice Ao15 t418.length co15 : Value).ownBlock ∧ some k_ ≠ (.slice Ao16 t421.length co16 : Value).ownBlock)) ∧ some k_ ≠ (.slice Ao44 t433.length co44 : Value).ownBlock) ∧ some k_ ≠ (.slice Ao45 t436.length co45 : Value).ownBlock)) (n := t408.length) (c := co9) ?_).2.2; exact (by (with_reducible repeat (first | apply Kd.R_alloc | apply Kd.R_drewN | apply Kd.R_drew)); exact (Kd.R_mono (Kd.R_far (p := ⟨gb440, 3, none⟩) (Kd.R_far (p := ⟨gb440, 2, none⟩) (Kd.R_far (p := ⟨gb440, 1, none⟩) (Kd.R_far (p := ⟨gb440, 0, none⟩) (Kd.R_types HO_416002.out BK440.out (by decide)) (fun _ hk => hk.2) (.int .i64 t431)) (fun _ hk => hk.2) (.int .i64 t432)) (fun _ hk => hk.2) (.slice Ao44 t433.length co44)) (fun _ hk => hk.2) (.slice Ao45 t436.length co45)) (fun _ h_ => h_.1)))); (case side6 => exact (Kd.R_reads' HO_416002.out).2.1); (case side7 => refine (Kd.R_reads' (e := 3) (base := w.heap.size) (ok := fun k_ => (((some k_ ≠ (.slice Ao9 t408.length co9 : Value).ownBlock ∧ (some k_ ≠ (.slice Ao15 t418.length co15 : Value).ownBlock ∧ some k_ ≠ (.slice Ao16 t421.length co16 : Value).ownBlock)) ∧ some k_ ≠ (.slice Ao44 t433.length co44 : Value).ownBlock) ∧ some k_ ≠ (.slice Ao45 t436.length co45 : Value).ownBlock)) (n := t411.length) (c := co10) ?_).2.2; exact (by (with_reducible repeat (first | apply Kd.R_alloc | apply Kd.R_drewN | apply Kd.R_drew)); exact (Kd.R_mono (Kd.R_far (p := ⟨gb440, 3, none⟩) (Kd.R_far (p := ⟨gb440, 2, none⟩) (Kd.R_far (p := ⟨gb440, 1, none⟩) (Kd.R_far (p := ⟨gb440, 0, none⟩) (Kd.R_types HO_416003.out BK440.out (by decide)) (fun _ hk => hk.2) (.int .i64 t431)) (fun _ hk => hk.2) (.int .i64 t432)) (fun _ hk => hk.2) (.slice Ao44 t433.length co44)) (fun _ hk => hk.2) (.slice Ao45 t436.length co45)) (fun _ h_ => h_.1)))); (case side8 => exact (Kd.R_reads' HO_416003.out).2.1); rintro e w59 ⟨rfl, hb⟩; refine ⟨_, rfl, ?_⟩; have n0_ := Aside0.mk (Kd.R_below (by (with_reducible repeat (first | apply Kd.R_alloc | apply Kd.R_drewN | apply Kd.R_drew)); exact (Kd.R_mono (Kd.R_far (p := ⟨gb440, 3, none⟩) (Kd.R_far (p := ⟨gb440, 2, none⟩) (Kd.R_far (p := ⟨gb440, 1, none⟩) (Kd.R_far (p := ⟨gb440, 0, none⟩) (Kd.R_types HO_416002.out BK440.out (by decide)) (fun _ hk => hk.2) (.int .i64 t431)) (fun _ hk => hk.2) (.int .i64 t432)) (fun _ hk => hk.2) (.slice Ao44 t433.length co44)) (fun _ hk => hk.2) (.slice Ao45 t436.length co45)) (fun _ h_ => h_.1))) hb); have n1_ := Aside0.mk (Kd.R_below (by (with_reducible repeat (first | apply Kd.R_alloc | apply Kd.R_drewN | apply Kd.R_drew)); exact (Kd.R_mono (Kd.R_far (p := ⟨gb440, 3, none⟩) (Kd.R_far (p := ⟨gb440, 2, none⟩) (Kd.R_far (p := ⟨gb440, 1, none⟩) (Kd.R_far (p := ⟨gb440, 0, none⟩) (Kd.R_types HO_416003.out BK440.out (by decide)) (fun _ hk => hk.2) (.int .i64 t431)) (fun _ hk => hk.2) (.int .i64 t432)) (fun _ hk => hk.2) (.slice Ao44 t433.length co44)) (fun _ hk => hk.2) (.slice Ao45 t436.length co45)) (fun _ h_ => h_.1))) hb); have n2_ := Aside0.mk (Kd.R_below (by (with_reducible repeat (first | apply Kd.R_alloc | apply Kd.R_drewN | apply Kd.R_drew)); exact (Kd.R_mono (Kd.R_far (p := ⟨gb440, 3, none⟩) (Kd.R_far (p := ⟨gb440, 2, none⟩) (Kd.R_far (p := ⟨gb440, 1, none⟩) (Kd.R_far (p := ⟨gb440, 0, none⟩) (Kd.R_types HO_426002.out BK440.out (by decide)) (fun _ hk => hk.2) (.int .i64 t431)) (fun _ hk => hk.2) (.int .i64 t432)) (fun _ hk => hk.2) (.slice Ao44 t433.length co44)) (fun _ hk => hk.2) (.slice Ao45 t436.length co45)) (fun _ h_ => h_.1))) hb); have n3_ := Aside0.mk (Kd.R_below (by (with_reducible repeat (first | apply Kd.R_alloc | apply Kd.R_drewN | apply Kd.R_drew)); exact (Kd.R_mono (Kd.R_far (p := ⟨gb440, 3, none⟩) (Kd.R_far (p := ⟨gb440, 2, none⟩) (Kd.R_far (p := ⟨gb440, 1, none⟩) (Kd.R_far (p := ⟨gb440, 0, none⟩) (Kd.R_types HO_426003.out BK440.out (by decide)) (fun _ hk => hk.2) (.int .i64 t431)) (fun _ hk => hk.2) (.int .i64 t432)) (fun _ hk => hk.2) (.slice Ao44 t433.length co44)) (fun _ hk => hk.2) (.slice Ao45 t436.length co45)) (fun _ h_ => h_.1))) hb); have n4_ := Aside0.mk (Kd.R_below (by (with_reducible repeat (first | apply Kd.R_alloc | apply Kd.R_drewN | apply Kd.R_drew)); exact (Kd.R_mono (Kd.R_far (p := ⟨gb440, 3, none⟩) (Kd.R_far (p := ⟨gb440, 2, none⟩) (Kd.R_far (p := ⟨gb440, 1, none⟩) (Kd.R_far (p := ⟨gb440, 0, none⟩) (Kd.R_types HO435.out BK440.out (by decide)) (fun _ hk => hk.2) (.int .i64 t431)) (fun _ hk => hk.2) (.int .i64 t432)) (fun _ hk => hk.2) (.slice Ao44 t433.length co44)) (fun _ hk => hk.2) (.slice Ao45 t436.length co45)) (fun _ h_ => h_.1))) hb); have n5_ := Aside0.mk (Kd.R_below (by (with_reducible repeat (first | apply Kd.R_alloc | apply Kd.R_drewN | apply Kd.R_drew)); exact (Kd.R_mono (Kd.R_far (p := ⟨gb440, 3, none⟩) (Kd.R_far (p := ⟨gb440, 2, none⟩) (Kd.R_far (p := ⟨gb440, 1, none⟩) (Kd.R_far (p := ⟨gb440, 0, none⟩) (Kd.R_types HO438.out BK440.out (by decide)) (fun _ hk => hk.2) (.int .i64 t431)) (fun _ hk => hk.2) (.int .i64 t432)) (fun _ hk => hk.2) (.slice Ao44 t433.length co44)) (fun _ hk => hk.2) (.slice Ao45 t436.length co45)) (fun _ h_ => h_.1))) hb); have n6_ := Aside0.mk (blk_below (g := gb415) (o := .cells #[.int .i64 t406, .int .i64 t407, .slice Ao9 t408.length co9, .slice Ao10 t411.length co10] 45 (0, 0)) (by (with_reducible repeat (first | refine blk_drewN ?_ _ | refine blk_drew ?_ | refine blk_alloc ?_ _)); refine blk_far ?_ NB415_440.out _; (with_reducible repeat (first | refine blk_drewN ?_ _ | refine blk_drew ?_ | refine blk_alloc ?_ _)); refine blk_far ?_ NB415_440.out _; (with_reducible repeat (first | refine blk_drewN ?_ _ | refine blk_drew ?_ | refine blk_alloc ?_ _)); refine blk_far ?_ NB415_440.out _; (with_reducible repeat (first | refine blk_drewN ?_ _ | refine blk_drew ?_ | refine blk_alloc ?_ _)); refine blk_far ?_ NB415_440.out _; (with_reducible repeat (first | refine blk_drewN ?_ _ | refine blk_drew ?_ | refine blk_alloc ?_ _)); exact BK415.out) hb); have n7_ := Aside0.mk (blk_below (g := gb425) (o := .cells #[.int .i64 t416, .int .i64 t417, .slice Ao15 t418.length co15, .slice Ao16 t421.length co16] 45 (0, 0)) (by (with_reducible repeat (first | refine blk_drewN ?_ _ | refine blk_drew ?_ | refine blk_alloc ?_ _)); refine blk_far ?_ NB425_440.out _; (with_reducible repeat (first | refine blk_drewN ?_ _ | refine blk_drew ?_ | refine blk_alloc ?_ _)); refine blk_far ?_ NB425_440.out _; (with_reducible repeat (first | refine blk_drewN ?_ _ | refine blk_drew ?_ | refine blk_alloc ?_ _)); refine blk_far ?_ NB425_440.out _; (with_reducible repeat (first | refine blk_drewN ?_ _ | refine blk_drew ?_ | refine blk_alloc ?_ _)); refine blk_far ?_ NB425_440.out _; (with_reducible repeat (first | refine blk_drewN ?_ _ | refine blk_drew ?_ | refine blk_alloc ?_ _)); exact BK425.out) hb); have n8_ := Aside0.mk (blk_below (g := gb440) (o := .cells #[.int .i64 t431, .int .i64 t432, .slice Ao44 t433.length co44, .slice Ao45 t436.length co45] 45 (0, 0)) (by (with_reducible repeat (first | refine blk_drewN ?_ _ | refine blk_drew ?_ | refine blk_alloc ?_ _)); refine blk_put (cs := #[.int .i64 t431, .int .i64 t432, .slice Ao44 t433.length co44, .slice none 0 0]) ?_ 3 _ rfl; (with_reducible repeat (first | refine blk_drewN ?_ _ | refine blk_drew ?_ | refine blk_alloc ?_ _)); refine blk_put (cs := #[.int .i64 t431, .int .i64 t432, .slice none 0 0, .slice none 0 0]) ?_ 2 _ rfl; (with_reducible repeat (first | refine blk_drewN ?_ _ | refine blk_drew ?_ | refine blk_alloc ?_ _)); refine blk_put (cs := #[.int .i64 t431, .int .i64 0, .slice none 0 0, .slice none 0 0]) ?_ 1 _ rfl; (with_reducible repeat (first | refine blk_drewN ?_ _ | refine blk_drew ?_ | refine blk_alloc ?_ _)); refine blk_put (cs := #[.int .i64 0, .int .i64 0, .slice none 0 0, .slice none 0 0]) ?_ 0 _ rfl; (with_reducible repeat (first | refine blk_drewN ?_ _ | refine blk_drew ?_ | refine blk_alloc ?_ _)); exact BK440.out) hb); have n9_ := Aside0.mk (below_step (by repeat (first | (with_reducible first | exact HB.out | apply below_alloc | apply pw_below_drewN | apply below_drew1 | refine below_set ?_ GE415.out | refine below_set ?_ GE425.out | refine below_set ?_ GE440.out) | exact HB.out)) hb); clear HO_416002; clear HO_416003; clear HO_426002; clear HO_426003; clear HO435; clear HO438; clear BK415; clear BK425; clear BK440; clear HB; have HO_416002 := n0_; have HO_416003 := n1_; have HO_426002 := n2_; have HO_426003 := n3_; have HO435 := n4_; have HO438 := n5_; have BK415 := n6_; have BK425 := n7_; have BK440 := n8_; have HB := n9_; clear n0_ n1_ n2_ n3_ n4_ n5_ n6_ n7_ n8_ n9_; (try clear hb); (try clear hb2); (try clear hk); (try clear hi)))
                go_meet
                case rel => exact ⟨_, (true), (by first | rfl | (simp; done) | (simp [*]; done) | (have e_ : ∀ x_ : Int, wrap64 (x_ % 256) = x_ % 256 := (fun x_ => (by unfold wrap64; omega)); simp [i64_w, IntKind.wrap_u8, e_]; done) | (simp; generalize ByteArray.toList _ = zz_; cases zz_ <;> rfl)), H', ⟨by have := HJ4.out; first | omega | exact Nat.le_refl _⟩, ⟨by (with_reducible repeat (first | apply Kd.R_alloc | apply Kd.R_drewN | apply Kd.R_drew)); exact Kd.R_mono HO_416002.out (fun _ hk => ⟨hk.1.1.1, ⟨hk.1.1.2.1, ⟨hk.1.1.2.2, ⟨hk.1.2, hk.2⟩⟩⟩⟩)⟩, ⟨by (with_reducible repeat (first | apply Kd.R_alloc | apply Kd.R_drewN | apply Kd.R_drew)); exact Kd.R_mono HO_416003.out (fun _ hk => ⟨hk.1.1.1, ⟨hk.1.1.2.1, ⟨hk.1.1.2.2, ⟨hk.1.2, hk.2⟩⟩⟩⟩)⟩, ⟨by (with_reducible repeat (first | apply Kd.R_alloc | apply Kd.R_drewN | apply Kd.R_drew)); exact Kd.R_mono HO_426002.out (fun _ hk => ⟨hk.1.1.1, ⟨hk.1.1.2.1, ⟨hk.1.1.2.2, ⟨hk.1.2, hk.2⟩⟩⟩⟩)⟩, ⟨by (with_reducible repeat (first | apply Kd.R_alloc | apply Kd.R_drewN | apply Kd.R_drew)); exact Kd.R_mono HO_426003.out (fun _ hk => ⟨hk.1.1.1, ⟨hk.1.1.2.1, ⟨hk.1.1.2.2, ⟨hk.1.2, hk.2⟩⟩⟩⟩)⟩, ⟨by (with_reducible repeat (first | apply Kd.R_alloc | apply Kd.R_drewN | apply Kd.R_drew)); exact Kd.R_mono HO435.out (fun _ hk => ⟨hk.1.1.1.2, ⟨hk.1.1.2, ⟨hk.1.2, ⟨hk.2, hk.1.1.1.1⟩⟩⟩⟩)⟩, ⟨by (with_reducible repeat (first | apply Kd.R_alloc | apply Kd.R_drewN | apply Kd.R_drew)); exact Kd.R_mono HO438.out (fun _ hk => ⟨hk.1.1.1.2, ⟨hk.1.1.2, ⟨hk.1.2, ⟨hk.2, hk.1.1.1.1⟩⟩⟩⟩)⟩, ⟨by (with_reducible repeat (first | refine blk_drewN ?_ _ | refine blk_drew ?_ | refine blk_alloc ?_ _)); exact BK415.out⟩, ⟨by (with_reducible repeat (first | refine blk_drewN ?_ _ | refine blk_drew ?_ | refine blk_alloc ?_ _)); exact BK425.out⟩, ⟨by (with_reducible repeat (first | refine blk_drewN ?_ _ | refine blk_drew ?_ | refine blk_alloc ?_ _)); exact BK440.out⟩, ⟨by repeat (first | (with_reducible first | exact HB.out | apply below_alloc | apply pw_below_drewN | apply below_drew1 | refine below_set ?_ GE415.out | refine below_set ?_ GE425.out | refine below_set ?_ GE440.out) | exact HB.out)⟩⟩
            case rest =>
              clear HC33
              try clear c1
              try clear c2
              try clear p2
              try clear c3
              try clear c4
              try clear c5
              try clear p6
              try clear c13
              try clear c14
              try clear c18
              try clear c19
              try clear c23
              try clear c27
              try clear c30
              try clear c30b0
              try clear c31
              try clear c31b0
              try clear c31b1
              try clear c34
              try clear c41
              try clear c42
              try clear c45
              try clear c46
              try clear c47
              try clear c48
              try clear c49
              try clear c51
              try clear c54
              try clear c55
              try clear c57
              try clear hcz14_0
              try clear hcz14_1
              try clear hcz14_2
              try clear hcz14_3
              try clear hcz20_0
              try clear hcz20_1
              try clear hcz20_2
              try clear hcz20_3
              try clear hcz21_0
              try clear hcz21_1
              try clear hcz21_2
              try clear hcz21_3
              try clear hcz24_0
              try clear hcz24_1
              try clear hcz24_2
              try clear hcz24_3
              try clear hcz25_0
              try clear hcz25_1
              try clear hcz25_2
              try clear hcz25_3
              try clear hcz35_0
              try clear hcz35_1
              try clear hcz35_2
              try clear hcz35_3
              try clear hcz37_0
              try clear hcz37_1
              try clear hcz37_2
              try clear hcz37_3
              try clear hcz43_0
              try clear hcz43_1
              try clear hcz43_2
              try clear hcz43_3
              try clear hcz50_0
              try clear hcz50_1
              try clear hcz50_2
              try clear hcz50_3
              try clear hcz52_0
              try clear hcz52_1
              try clear hcz52_2
              try clear hcz52_3
              try clear hcz56_0
              try clear hcz56_1
              try clear hcz56_2
              try clear hcz56_3
              try clear hcz58_0
              try clear hcz58_1
              try clear hcz58_2
              try clear hcz58_3
              try clear hcz8_0
              try clear hcz8_1
              try clear hcz8_2
              try clear hcz8_3
              try clear hfz14_0
              try clear hfz14_1
              try clear hfz14_2
              try clear hfz14_3
              try clear hfz20_0
              try clear hfz20_1
              try clear hfz20_2
              try clear hfz20_3
              try clear hfz21_0
              try clear hfz21_1
              try clear hfz21_2
              try clear hfz21_3
              try clear hfz24_0
              try clear hfz24_1
              try clear hfz24_2
              try clear hfz24_3
              try clear hfz25_0
              try clear hfz25_1
              try clear hfz25_2
              try clear hfz25_3
              try clear hfz35_0
              try clear hfz35_1
              try clear hfz35_2
              try clear hfz35_3
              try clear hfz37_0
              try clear hfz37_1
              try clear hfz37_2
              try clear hfz37_3
              try clear hfz43_0
              try clear hfz43_1
              try clear hfz43_2
              try clear hfz43_3
              try clear hfz50_0
              try clear hfz50_1
              try clear hfz50_2
              try clear hfz50_3
              try clear hfz52_0
              try clear hfz52_1
              try clear hfz52_2
              try clear hfz52_3
              try clear hfz56_0
              try clear hfz56_1
              try clear hfz56_2
              try clear hfz56_3
              try clear hfz58_0
              try clear hfz58_1
              try clear hfz58_2
              try clear hfz58_3
              try clear hfz8_0
              try clear hfz8_1
              try clear hfz8_2
              try clear hfz8_3
              try clear p2
              try clear p6
              obtain ⟨kq, x59_32, rfl, HA, HJ32, HO_416002, HO_416003, HO_426002, HO_426003, HO_441002, HO_441003, BK415, BK425, BK440, HB⟩ := hcut
              have hl426002_32 := (Kd.R_reads' HO_426002.out).1
              rw [hl426002_32] at HO_426002
              (try simp only [hl426002_32])
              (try simp only [hl426002_32] at BK415)
              (try simp only [hl426002_32] at BK425)
              (try simp only [hl426002_32] at BK440)
              (try simp only [hl426002_32] at HO_416002)
              (try simp only [hl426002_32] at HO_416003)
              (try simp only [hl426002_32] at HO_426003)
              (try simp only [hl426002_32] at HO_441002)
              (try simp only [hl426002_32] at HO_441003)
              have hl426003_32 := (Kd.R_reads' HO_426003.out).1
              rw [hl426003_32] at HO_426003
              (try simp only [hl426003_32])
              (try simp only [hl426003_32] at BK415)
              (try simp only [hl426003_32] at BK425)
              (try simp only [hl426003_32] at BK440)
              (try simp only [hl426003_32] at HO_416002)
              (try simp only [hl426003_32] at HO_416003)
              (try simp only [hl426003_32] at HO_426002)
              (try simp only [hl426003_32] at HO_441002)
              (try simp only [hl426003_32] at HO_441003)
              cases kq with
              | zero => exact absurd HA.out (by simp [laws_FnExactRingNew.j1])
              | succ kj32 =>
                have H := HA.out
                clear HA
                simp only [laws_FnExactRingNew.j1] at H
                by_cases c60 : x59_32 = true
                · subst c60
                  have H1 : (some false) = some r := by rw [if_pos rfl] at H; exact H
                  clear H
                  have H := H1
                  clear H1
                  obtain rfl := Option.some.inj H
                  exact absurd hr_ (by simp)
                · replace c60 := Bool.eq_false_iff.mpr c60
                  subst c60
                  have H1 : ((laws_heldRing.f kj32 t416 t417 t428 t429 1).bind fun t442 => (if t442 < 0 then (some false) else (if t442 = t427 then (some true) else (some false)))) = some r := by rw [if_neg (show ¬ (false = true) by decide)] at H; exact H
                  clear H
                  have H := H1
                  clear H1
                  replace H := Option.bind_eq_some_iff.mp H
                  obtain ⟨t442, A610, H⟩ := H
                  replace H : (if t442 < 0 then (some false) else (if t442 = t427 then (some true) else (some false))) = some r := H
                  have A61 := Aside0.mk A610
                  clear A610
                  by_cases c62 : t442 < 0
                  · rw [if_pos c62] at H
                    have c62b0 : decide (t442 < 0) = true := decide_eq_true c62
                    clear c62
                    obtain rfl := Option.some.inj H
                    exact absurd hr_ (by simp)
                  · rw [if_neg c62] at H
                    have c62b0 : decide (t442 < 0) = false := decide_eq_false c62
                    clear c62
                    by_cases c63 : t442 = t427
                    · rw [if_pos c63] at H
                      have c63b0 : (t442 == t427) = true := beq_iff_eq.mpr c63
                      have c63b1 : (t442 != t427) = false := bne_eq_false_iff_eq.mpr c63
                      clear c63
                      obtain rfl := Option.some.inj H
                      have hnb64 := NB425_415.out
                      have hnc64 := NB415_425.out
                      have hnb65 := NB425_440.out
                      have hnc65 := NB440_425.out
                      have hcz66_0 : wc.cell? ⟨gb425, 0, none⟩ = some (.int .i64 t416) := (blk_cell BK425.out 0).trans rfl
                      have hcz66_1 : wc.cell? ⟨gb425, 1, none⟩ = some (.int .i64 t417) := (blk_cell BK425.out 1).trans rfl
                      have hcz66_2 : wc.cell? ⟨gb425, 2, none⟩ = some (.slice Ao15 t428.length co15) := (blk_cell BK425.out 2).trans rfl
                      have hcz66_3 : wc.cell? ⟨gb425, 3, none⟩ = some (.slice Ao16 t429.length co16) := (blk_cell BK425.out 3).trans rfl
                      have hfz66_0 := blk_frozen BK425.out 0
                      have hfz66_1 := blk_frozen BK425.out 1
                      have hfz66_2 := blk_frozen BK425.out 2
                      have hfz66_3 := blk_frozen BK425.out 3
                      go_wp2_with (first | ((with_reducible refine gate_callee (f := 49) rfl ?_); refine goesL_ (some 62) rfl rfl Try.func49 (by kernel_rfl) rfl #[.agg #[.int .i64 t416, .int .i64 t417, .slice Ao15 t428.length co15, .slice Ao16 t429.length co16], .int .i64 1] rfl (by (try simp only [List.map_toArray, List.map_cons, List.map_nil]); first | done | rfl | (simp only [List.length_drop, List.length_take]; rfl)) ?_; (with_reducible refine (laws_heldRing.calls kj32 t416 t417 _ _ t428 _ _ t429 1 t442 _ ?side1 ?side2 ?side3 ?side4 A61.out).mono ?_); (case side1 => repeat (first | exact (Kd.R_reads' HO_426002.out).2.2 | (with_reducible refine Kd.C_alloc ?_ _) | (with_reducible refine Kd.C_drewN ?_ _) | (with_reducible refine Kd.C_drew ?_))); (case side2 => exact (Kd.R_reads' HO_426002.out).2.1); (case side3 => repeat (first | exact (Kd.R_reads' HO_426003.out).2.2 | (with_reducible refine Kd.C_alloc ?_ _) | (with_reducible refine Kd.C_drewN ?_ _) | (with_reducible refine Kd.C_drew ?_))); (case side4 => exact (Kd.R_reads' HO_426003.out).2.1); rintro e w67 ⟨rfl, hb⟩; refine ⟨_, rfl, ?_⟩; have n0_ := Aside0.mk (Kd.R_below (by (with_reducible repeat (first | apply Kd.R_alloc | apply Kd.R_drewN | apply Kd.R_drew)); exact HO_416002.out) hb); have n1_ := Aside0.mk (Kd.R_below (by (with_reducible repeat (first | apply Kd.R_alloc | apply Kd.R_drewN | apply Kd.R_drew)); exact HO_416003.out) hb); have n2_ := Aside0.mk (Kd.R_below (by (with_reducible repeat (first | apply Kd.R_alloc | apply Kd.R_drewN | apply Kd.R_drew)); exact HO_426002.out) hb); have n3_ := Aside0.mk (Kd.R_below (by (with_reducible repeat (first | apply Kd.R_alloc | apply Kd.R_drewN | apply Kd.R_drew)); exact HO_426003.out) hb); have n4_ := Aside0.mk (Kd.R_below (by (with_reducible repeat (first | apply Kd.R_alloc | apply Kd.R_drewN | apply Kd.R_drew)); exact HO_441002.out) hb); have n5_ := Aside0.mk (Kd.R_below (by (with_reducible repeat (first | apply Kd.R_alloc | apply Kd.R_drewN | apply Kd.R_drew)); exact HO_441003.out) hb); have n6_ := Aside0.mk (blk_below (g := gb415) (o := .cells #[.int .i64 t406, .int .i64 t407, .slice Ao9 t408.length co9, .slice Ao10 t411.length co10] 45 (0, 0)) (by (with_reducible repeat (first | refine blk_drewN ?_ _ | refine blk_drew ?_ | refine blk_alloc ?_ _)); exact BK415.out) hb); have n7_ := Aside0.mk (blk_below (g := gb425) (o := .cells #[.int .i64 t416, .int .i64 t417, .slice Ao15 t428.length co15, .slice Ao16 t429.length co16] 45 (0, 0)) (by (with_reducible repeat (first | refine blk_drewN ?_ _ | refine blk_drew ?_ | refine blk_alloc ?_ _)); exact BK425.out) hb); have n8_ := Aside0.mk (blk_below (g := gb440) (o := .cells #[.int .i64 t431, .int .i64 t432, .slice Ao44 t433.length co44, .slice Ao45 t436.length co45] 45 (0, 0)) (by (with_reducible repeat (first | refine blk_drewN ?_ _ | refine blk_drew ?_ | refine blk_alloc ?_ _)); exact BK440.out) hb); have n9_ := Aside0.mk (below_step (by repeat (first | (with_reducible first | exact HB.out | apply below_alloc | apply pw_below_drewN | apply below_drew1 | refine below_set ?_ GE415.out | refine below_set ?_ GE425.out | refine below_set ?_ GE440.out) | exact HB.out)) hb); clear HO_416002; clear HO_416003; clear HO_426002; clear HO_426003; clear HO_441002; clear HO_441003; clear BK415; clear BK425; clear BK440; clear HB; have HO_416002 := n0_; have HO_416003 := n1_; have HO_426002 := n2_; have HO_426003 := n3_; have HO_441002 := n4_; have HO_441003 := n5_; have BK415 := n6_; have BK425 := n7_; have BK440 := n8_; have HB := n9_; clear n0_ n1_ n2_ n3_ n4_ n5_ n6_ n7_ n8_ n9_; (try clear hb); (try clear hb2); (try clear hk); (try clear hi)))
                      go_ret
                      exact ⟨by first | rfl | (simp [errW_none, errW_some] <;> rfl) | (simp [*, errW_none, errW_some] <;> rfl), by repeat (first | (with_reducible first | exact HB.out | apply below_alloc | apply pw_below_drewN | apply below_drew1 | refine below_set ?_ GE415.out | refine below_set ?_ GE425.out | refine below_set ?_ GE440.out) | exact HB.out)⟩
                    · rw [if_neg c63] at H
                      have c63b0 : (t442 == t427) = false := beq_eq_false_iff_ne.mpr c63
                      have c63b1 : (t442 != t427) = true := bne_iff_ne.mpr c63
                      obtain rfl := Option.some.inj H
                      exact absurd hr_ (by simp)
          · rw [if_neg c31] at H
            have c31b0 : (t430 == t427) = false := beq_eq_false_iff_ne.mpr c31
            have c31b1 : (t430 != t427) = true := bne_iff_ne.mpr c31
            obtain rfl := Option.some.inj H
            exact absurd hr_ (by simp)

end Go.Proofs.Ytglkdifcagfknaa.Q
