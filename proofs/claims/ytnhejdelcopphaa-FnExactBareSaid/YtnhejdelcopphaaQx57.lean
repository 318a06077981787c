-- Written by a program of this session (wip/mkprint.py, after the kit's print). Lean checks it.
import Derived.Test.YtnhejdelcopphaaQx0
import Derived.Test.YtnhejdelcopphaaQx21
import Derived.Test.YtnhejdelcopphaaQx45
import Derived.Test.YtnhejdelcopphaaQx47
import Derived.Test.YtnhejdelcopphaaQx54
import Derived.Test.YtnhejdelcopphaaQx56
namespace Go.Proofs.Ytnhejdelcopphaa.Q
open Go.RowKit Go.Proofs.YtnhejdelcopphaaW.PrintWords Go.Proofs.YtnhejdelcopphaaW.PrintLast Go.Proofs.YtnhejdelcopphaaW.PrintMore
attribute [local go_sem] max2_int min2_int max_two min_two max_three min_three max_four min_four   -- for this text's walks alone
set_option linter.unusedVariables false
set_option linter.unusedSimpArgs false

/-! ### laws_FnExactBare: function 11 -/
mutual
def laws_FnExactBare.j0 : Nat → ByteArray → Int → Bool → Bool → ByteArray → List (S71) → ByteArray → List (S71) → Option (Bool)
  | 0, _, _, _, _, _, _, _, _ => none
  | k + 1, x0, x1, x6, x36, x565000, x565001, x571000, x571001 => if x36 = true then (some false) else ((laws_markMsg.f k x571000 x571001 1).bind fun bt572 => ((laws_heldMsg.f k x571000 bt572.2 1).bind fun t574 => (if t574 < 0 then (some false) else (if t574 = bt572.1 then ((impl_Bare.f k x0 x1).bind fun bt575 => ((laws_eqMsg.f k bt575.1 bt575.2.1 x565000 x565001).bind fun t581 => (if t581 = true then (laws_FnExactBare.j1 k bt572.1 (bt575.2.2 != x6) x571000 bt572.2) else (laws_FnExactBare.j1 k bt572.1 true x571000 bt572.2)))) else (some false)))))
def laws_FnExactBare.j1 : Nat → Int → Bool → ByteArray → List (S71) → Option (Bool)
  | 0, _, _, _, _ => none
  | k + 1, x9, x62, x571000, x571001 => if x62 = true then (some false) else ((laws_heldMsg.f k x571000 x571001 1).bind fun t582 => (if t582 < 0 then (some false) else (if t582 = x9 then (some true) else (some false))))
end
def laws_FnExactBare.f (k : Nat) (a0 : ByteArray) (a1 : Int) : Option (Bool) := if (a0.size : Int) > 1048576 then (some true) else ((spec_Bare.f k a0 a1).bind fun bt559 => ((impl_Bare.f k a0 a1).bind fun bt565 => ((laws_eqMsg.f k bt565.1 bt565.2.1 bt559.1 bt559.2.1).bind fun t571 => (if t571 = true then (laws_FnExactBare.j0 k a0 a1 bt559.2.2 (bt565.2.2 != bt559.2.2) bt559.1 bt559.2.1 bt565.1 bt565.2.1) else (laws_FnExactBare.j0 k a0 a1 bt559.2.2 true bt559.1 bt559.2.1 bt565.1 bt565.2.1)))))
theorem laws_FnExactBare.mono_l : ∀ k, (∀ y0 y1 y2 y3 y4 y5 y6 y7, LeO (laws_FnExactBare.j0 k y0 y1 y2 y3 y4 y5 y6 y7) (laws_FnExactBare.j0 (k + 1) y0 y1 y2 y3 y4 y5 y6 y7)) ∧ (∀ y0 y1 y2 y3, LeO (laws_FnExactBare.j1 k y0 y1 y2 y3) (laws_FnExactBare.j1 (k + 1) y0 y1 y2 y3))
  | 0 => ⟨fun _ _ _ _ _ _ _ _ r h => by simp [laws_FnExactBare.j0] at h, fun _ _ _ _ r h => by simp [laws_FnExactBare.j1] at h⟩
  | k + 1 => by
    obtain ⟨ih0, ih1⟩ := laws_FnExactBare.mono_l k
    refine ⟨?_, ?_⟩
    · intro y0 y1 y2 y3 y4 y5 y6 y7
      unfold laws_FnExactBare.j0
      repeat' first
      | (with_reducible exact ih0 _ _ _ _ _ _ _ _)
      | (with_reducible exact ih1 _ _ _ _)
      | (with_reducible exact impl_Bare.mono _ _ _)
      | (with_reducible exact laws_eqMsg.mono _ _ _ _ _)
      | (with_reducible exact laws_heldMsg.mono _ _ _ _)
      | (with_reducible exact laws_markMsg.mono _ _ _ _)
      | (with_reducible exact spec_Bare.mono _ _ _)
      | (with_reducible exact LeO.refl _)
      | (with_reducible exact LeO.none _)
      | (with_reducible refine LeO.ite ?_ ?_)
      | (with_reducible refine LeO.bind ?_ (fun _ => ?_))
      | exact ih0 _ _ _ _ _ _ _ _
      | exact ih1 _ _ _ _
      | exact impl_Bare.mono _ _ _
      | exact laws_eqMsg.mono _ _ _ _ _
      | exact laws_heldMsg.mono _ _ _ _
      | exact laws_markMsg.mono _ _ _ _
      | exact spec_Bare.mono _ _ _
      | exact LeO.none _
      | refine LeO.ite ?_ ?_
      | refine LeO.bind ?_ (fun _ => ?_)
    · intro y0 y1 y2 y3
      unfold laws_FnExactBare.j1
      repeat' first
      | (with_reducible exact ih0 _ _ _ _ _ _ _ _)
      | (with_reducible exact ih1 _ _ _ _)
      | (with_reducible exact impl_Bare.mono _ _ _)
      | (with_reducible exact laws_eqMsg.mono _ _ _ _ _)
      | (with_reducible exact laws_heldMsg.mono _ _ _ _)
      | (with_reducible exact laws_markMsg.mono _ _ _ _)
      | (with_reducible exact spec_Bare.mono _ _ _)
      | (with_reducible exact LeO.refl _)
      | (with_reducible exact LeO.none _)
      | (with_reducible refine LeO.ite ?_ ?_)
      | (with_reducible refine LeO.bind ?_ (fun _ => ?_))
      | exact ih0 _ _ _ _ _ _ _ _
      | exact ih1 _ _ _ _
      | exact impl_Bare.mono _ _ _
      | exact laws_eqMsg.mono _ _ _ _ _
      | exact laws_heldMsg.mono _ _ _ _
      | exact laws_markMsg.mono _ _ _ _
      | exact spec_Bare.mono _ _ _
      | exact LeO.none _
      | refine LeO.ite ?_ ?_
      | refine LeO.bind ?_ (fun _ => ?_)
theorem laws_FnExactBare.mono : ∀ a0 a1 k, LeO (laws_FnExactBare.f k a0 a1) (laws_FnExactBare.f (k + 1) a0 a1) := by
  intro a0 a1 k
  obtain ⟨ih0, ih1⟩ := laws_FnExactBare.mono_l k
  unfold laws_FnExactBare.f
  repeat' first
      | (with_reducible exact ih0 _ _ _ _ _ _ _ _)
      | (with_reducible exact ih1 _ _ _ _)
      | (with_reducible exact impl_Bare.mono _ _ _)
      | (with_reducible exact laws_eqMsg.mono _ _ _ _ _)
      | (with_reducible exact laws_heldMsg.mono _ _ _ _)
      | (with_reducible exact laws_markMsg.mono _ _ _ _)
      | (with_reducible exact spec_Bare.mono _ _ _)
      | (with_reducible exact LeO.refl _)
      | (with_reducible exact LeO.none _)
      | (with_reducible refine LeO.ite ?_ ?_)
      | (with_reducible refine LeO.bind ?_ (fun _ => ?_))
      | exact ih0 _ _ _ _ _ _ _ _
      | exact ih1 _ _ _ _
      | exact impl_Bare.mono _ _ _
      | exact laws_eqMsg.mono _ _ _ _ _
      | exact laws_heldMsg.mono _ _ _ _
      | exact laws_markMsg.mono _ _ _ _
      | exact spec_Bare.mono _ _ _
      | exact LeO.none _
      | refine LeO.ite ?_ ?_
      | refine LeO.bind ?_ (fun _ => ?_)
set_option maxHeartbeats 8000000 in
set_option maxRecDepth 100000 in
theorem laws_FnExactBare.calls (k : Nat) (a0 : ByteArray) (a1 : Int) (r : Bool) (w : World) (hr_ : r = true) (h : laws_FnExactBare.f k a0 a1 = some r) :
    Calls Try.prog 11 #[.string a0, .int .i64 a1] w fun e w' => e = .returned (.bool r) ∧ Below w.heap.size w w' := by
  have hu43 := Try.underlying43
  have HB := Aside0.mk (Below.refl w.heap.size w)
  have H : (if (a0.size : Int) > 1048576 then (some true) else ((spec_Bare.f k a0 a1).bind fun bt559 => ((impl_Bare.f k a0 a1).bind fun bt565 => ((laws_eqMsg.f k bt565.1 bt565.2.1 bt559.1 bt559.2.1).bind fun t571 => (if t571 = true then (laws_FnExactBare.j0 k a0 a1 bt559.2.2 (bt565.2.2 != bt559.2.2) bt559.1 bt559.2.1 bt565.1 bt565.2.1) else (laws_FnExactBare.j0 k a0 a1 bt559.2.2 true bt559.1 bt559.2.1 bt565.1 bt565.2.1)))))) = some r := h
  clear h
  by_cases c3 : (a0.size : Int) > 1048576
  · rw [if_pos c3] at H
    have c3b0 : decide (1048576 < (a0.size : Int)) = true := decide_eq_true c3
    have c3b1 : decide (1048576 < a0.size) = true := decide_eq_true (by omega)
    clear c3
    obtain rfl := Option.some.inj H
    go_enter Try.func11, Try.ntmps11
    go_wp2
    go_ret
    exact ⟨by first | rfl | (simp [errW_none, errW_some] <;> rfl) | (simp [*, errW_none, errW_some] <;> rfl), by repeat (first | (with_reducible first | exact HB.out | apply below_alloc | apply pw_below_drewN | apply below_drew1) | exact HB.out)⟩
  · rw [if_neg c3] at H
    have c3b0 : decide (1048576 < (a0.size : Int)) = false := decide_eq_false c3
    have c3b1 : decide (1048576 < a0.size) = false := decide_eq_false (by omega)
    clear c3
    replace H := Option.bind_eq_some_iff.mp H
    obtain ⟨⟨t559, t560, t563⟩, A40, H⟩ := H
    replace H : ((impl_Bare.f k a0 a1).bind fun bt565 => ((laws_eqMsg.f k bt565.1 bt565.2.1 t559 t560).bind fun t571 => (if t571 = true then (laws_FnExactBare.j0 k a0 a1 t563 (bt565.2.2 != t563) t559 t560 bt565.1 bt565.2.1) else (laws_FnExactBare.j0 k a0 a1 t563 true t559 t560 bt565.1 bt565.2.1)))) = some r := H
    have A4 := Aside0.mk A40
    clear A40
    replace H := Option.bind_eq_some_iff.mp H
    obtain ⟨⟨t565, t566, t569⟩, A50, H⟩ := H
    replace H : ((laws_eqMsg.f k t565 t566 t559 t560).bind fun t571 => (if t571 = true then (laws_FnExactBare.j0 k a0 a1 t563 (t569 != t563) t559 t560 t565 t566) else (laws_FnExactBare.j0 k a0 a1 t563 true t559 t560 t565 t566))) = some r := H
    have A5 := Aside0.mk A50
    clear A50
    have HC6 := Aside0.mk H
    clear H
    go_enter Try.func11, Try.ntmps11
    go_upto_region 5 with (first | ((with_reducible refine gate_callee (f := 42) rfl ?_); refine goesL_ (some 19) rfl rfl Try.func42 (by kernel_rfl) rfl #[.string a0, .int .i64 a1] rfl (by (try simp only [List.map_toArray, List.map_cons, List.map_nil]); first | done | rfl | (simp only [List.length_drop, List.length_take]; rfl)) ?_; (with_reducible refine (spec_Bare.calls k a0 a1 t559 t560 t563 _ A4.out).mono ?_); rintro e w7 ⟨v561, rfl, ho0, hb⟩; refine ⟨_, rfl, ?_⟩; have n0_ := Aside0.mk (Kd.R_lower ho0 (below_size (by repeat (first | (with_reducible first | exact HB.out | apply below_alloc | apply pw_below_drewN | apply below_drew1) | exact HB.out)))); have n1_ := Aside0.mk (below_step (by repeat (first | (with_reducible first | exact HB.out | apply below_alloc | apply pw_below_drewN | apply below_drew1) | exact HB.out)) hb); clear HB; have HO562 := n0_; have HB := n1_; clear n0_ n1_; (try clear hb); (try clear hb2); (try clear hk); (try clear hi); (try clear ho0)) | ((with_reducible refine gate_dst (N := 5) rfl ?_); refine box_event ?hg (N := 5) ?hd (cs := #[.string (⟨#[]⟩ : ByteArray), .slice none 0 0]) (t := 43) ?hr ?_; (case hd => rfl); (case hg => rfl); (case hr => first | (go_simp; done) | (go_simp; rfl)); intro gb564 hg w8 hbox hb; have n0_ := Aside0.mk (Kd.R_below (by (with_reducible repeat (first | apply Kd.R_alloc | apply Kd.R_drewN | apply Kd.R_drew)); exact HO562.out) hb); have n1_ := Aside0.mk (below_step (by repeat (first | (with_reducible first | exact HB.out | apply below_alloc | apply pw_below_drewN | apply below_drew1) | exact HB.out)) hb); have n2_ := Aside0.mk (hbox); have n3_ := Aside0.mk ((by rw [hg]; exact (below_size (by repeat (first | (with_reducible first | exact HB.out | apply below_alloc | apply pw_below_drewN | apply below_drew1) | exact HB.out))) : w.heap.size ≤ gb564)); have n4_ := Aside0.mk ((by rw [hg]; exact (below_size (by repeat (first | (with_reducible first | exact HB.out | apply below_alloc | apply pw_below_drewN | apply below_drew1) | exact HB.out))) : w.heap.size ≤ gb564)); clear HO562; clear HB; have HO562 := n0_; have HB := n1_; have BK564 := n2_; have GW564 := n3_; have GE564 := n4_; clear n0_ n1_ n2_ n3_ n4_; clear hb hbox hg; have hcz9_0 : w8.cell? ⟨gb564, 0, none⟩ = some (.string (⟨#[]⟩ : ByteArray)) := (blk_cell BK564.out 0).trans rfl; have hcz9_1 : w8.cell? ⟨gb564, 1, none⟩ = some (.slice none 0 0) := (blk_cell BK564.out 1).trans rfl; have hfz9_0 := blk_frozen BK564.out 0; have hfz9_1 := blk_frozen BK564.out 1; obtain ⟨Ao10, co10, eo10⟩ := Kd.R_slice HO562.out; subst eo10) | ((with_reducible refine gate_callee (f := 43) rfl ?_); refine goesL_ (some 25) rfl rfl Try.func43 (by kernel_rfl) rfl #[.string a0, .int .i64 a1] rfl (by (try simp only [List.map_toArray, List.map_cons, List.map_nil]); first | done | rfl | (simp only [List.length_drop, List.length_take]; rfl)) ?_; (with_reducible refine (impl_Bare.calls k a0 a1 t565 t566 t569 _ A5.out).mono ?_); rintro e w11 ⟨v567, rfl, ho0, hb⟩; refine ⟨_, rfl, ?_⟩; have n0_ := Aside0.mk (Kd.R_elder' (by (with_reducible repeat (first | apply Kd.R_alloc | apply Kd.R_drewN | apply Kd.R_drew)); exact (Kd.R_mono (Kd.R_far (p := ⟨gb564, 1, none⟩) (Kd.R_far (p := ⟨gb564, 0, none⟩) (Kd.R_types HO562.out BK564.out (by decide)) (fun _ hk => hk.2) (.string t559)) (fun _ hk => hk.2) (.slice Ao10 t560.length co10)) (fun _ h_ => h_.1))) (Kd.R_base ho0) hb); have n1_ := Aside0.mk (Kd.R_lower (Kd.R_new' ho0 (Kd.R_lt (by (with_reducible repeat (first | apply Kd.R_alloc | apply Kd.R_drewN | apply Kd.R_drew)); exact (Kd.R_mono (Kd.R_far (p := ⟨gb564, 1, none⟩) (Kd.R_far (p := ⟨gb564, 0, none⟩) (Kd.R_types HO562.out BK564.out (by decide)) (fun _ hk => hk.2) (.string t559)) (fun _ hk => hk.2) (.slice Ao10 t560.length co10)) (fun _ h_ => h_.1))))) (below_size (by repeat (first | (with_reducible first | exact HB.out | apply below_alloc | apply pw_below_drewN | apply below_drew1 | refine below_set ?_ GE564.out) | exact HB.out)))); have n2_ := Aside0.mk (blk_below (g := gb564) (o := .cells #[.string t559, .slice Ao10 t560.length co10] 43 (0, 0)) (by (with_reducible repeat (first | refine blk_drewN ?_ _ | refine blk_drew ?_ | refine blk_alloc ?_ _)); refine blk_put (cs := #[.string t559, .slice none 0 0]) ?_ 1 _ rfl; (with_reducible repeat (first | refine blk_drewN ?_ _ | refine blk_drew ?_ | refine blk_alloc ?_ _)); refine blk_put (cs := #[.string (⟨#[]⟩ : ByteArray), .slice none 0 0]) ?_ 0 _ rfl; (with_reducible repeat (first | refine blk_drewN ?_ _ | refine blk_drew ?_ | refine blk_alloc ?_ _)); exact BK564.out) hb); have n3_ := Aside0.mk (below_step (by repeat (first | (with_reducible first | exact HB.out | apply below_alloc | apply pw_below_drewN | apply below_drew1 | refine below_set ?_ GE564.out) | exact HB.out)) hb); clear HO562; clear BK564; clear HB; have HO562 := n0_; have HO568 := n1_; have BK564 := n2_; have HB := n3_; clear n0_ n1_ n2_ n3_; (try clear hb); (try clear hb2); (try clear hk); (try clear hi); (try clear ho0)) | ((with_reducible refine gate_dst (N := 7) rfl ?_); refine box_event ?hg (N := 7) ?hd (cs := #[.string (⟨#[]⟩ : ByteArray), .slice none 0 0]) (t := 43) ?hr ?_; (case hd => rfl); (case hg => rfl); (case hr => first | (go_simp; done) | (go_simp; rfl)); intro gb570 hg w12 hbox hb; have n0_ := Aside0.mk (Kd.R_below (by (with_reducible repeat (first | apply Kd.R_alloc | apply Kd.R_drewN | apply Kd.R_drew)); exact HO562.out) hb); have n1_ := Aside0.mk (Kd.R_below (by (with_reducible repeat (first | apply Kd.R_alloc | apply Kd.R_drewN | apply Kd.R_drew)); exact HO568.out) hb); have n2_ := Aside0.mk (blk_below (g := gb564) (o := .cells #[.string t559, .slice Ao10 t560.length co10] 43 (0, 0)) (by (with_reducible repeat (first | refine blk_drewN ?_ _ | refine blk_drew ?_ | refine blk_alloc ?_ _)); exact BK564.out) hb); have n3_ := Aside0.mk (below_step (by repeat (first | (with_reducible first | exact HB.out | apply below_alloc | apply pw_below_drewN | apply below_drew1 | refine below_set ?_ GE564.out) | exact HB.out)) hb); have n4_ := Aside0.mk (hbox); have n5_ := Aside0.mk ((by rw [hg]; exact (below_size (by repeat (first | (with_reducible first | exact HB.out | apply below_alloc | apply pw_below_drewN | apply below_drew1 | refine below_set ?_ GE564.out) | exact HB.out))) : w.heap.size ≤ gb570)); have n6_ := Aside0.mk ((by rw [hg]; exact (below_size (by repeat (first | (with_reducible first | exact HB.out | apply below_alloc | apply pw_below_drewN | apply below_drew1 | refine below_set ?_ GE564.out) | exact HB.out))) : w.heap.size ≤ gb570)); have n7_ := Aside0.mk ((by rw [hg]; exact Nat.ne_of_lt (blk_lt (g := gb564) (o := .cells #[.string t559, .slice Ao10 t560.length co10] 43 (0, 0)) (by (with_reducible repeat (first | refine blk_drewN ?_ _ | refine blk_drew ?_ | refine blk_alloc ?_ _)); exact BK564.out)) : gb564 ≠ gb570)); have n8_ := Aside0.mk ((by rw [hg]; exact Nat.ne_of_gt (blk_lt (g := gb564) (o := .cells #[.string t559, .slice Ao10 t560.length co10] 43 (0, 0)) (by (with_reducible repeat (first | refine blk_drewN ?_ _ | refine blk_drew ?_ | refine blk_alloc ?_ _)); exact BK564.out)) : gb570 ≠ gb564)); clear HO562; clear HO568; clear BK564; clear HB; have HO562 := n0_; have HO568 := n1_; have BK564 := n2_; have HB := n3_; have BK570 := n4_; have GW570 := n5_; have GE570 := n6_; have NB564_570 := n7_; have NB570_564 := n8_; clear n0_ n1_ n2_ n3_ n4_ n5_ n6_ n7_ n8_; clear hb hbox hg; have hnb13 := NB570_564.out; have hnc13 := NB564_570.out; have hcz14_0 : w12.cell? ⟨gb570, 0, none⟩ = some (.string (⟨#[]⟩ : ByteArray)) := (blk_cell BK570.out 0).trans rfl; have hcz14_1 : w12.cell? ⟨gb570, 1, none⟩ = some (.slice none 0 0) := (blk_cell BK570.out 1).trans rfl; have hfz14_0 := blk_frozen BK570.out 0; have hfz14_1 := blk_frozen BK570.out 1; obtain ⟨Ao15, co15, eo15⟩ := Kd.R_slice HO568.out; subst eo15))
    (try simp only [Act.put, List.setIfInBounds_toArray, List.set_cons_zero, List.set_cons_succ])
    go_cut [36] (fun v36 wc => ∃ (kq : Nat) (x36_5 : Bool), v36 = .bool x36_5 ∧ Aside0 (laws_FnExactBare.j0 kq a0 a1 t563 x36_5 t559 t560 t565 t566 = some r) ∧ Aside0 (kq ≤ k) ∧ Aside0 (Kd.R k71 71 wc w.heap.size (fun k_ => some k_ ≠ ((.slice Ao15 t566.length co15) : Value).ownBlock) (.slice Ao10 t560.length co10) t560) ∧ Aside0 (Kd.R k71 71 wc w.heap.size (fun k_ => some k_ ≠ ((.slice Ao10 t560.length co10) : Value).ownBlock) (.slice Ao15 t566.length co15) t566) ∧ Aside0 (wc.heap[gb564]? = some (.cells #[.string t559, (.slice Ao10 t560.length co10)] 43 (0, 0))) ∧ Aside0 (wc.heap[gb570]? = some (.cells #[.string t565, (.slice Ao15 t566.length co15)] 43 (0, 0))) ∧ Aside0 (Below w.heap.size w wc))
    case first =>
      have H := HC6.out
      clear HC6
      replace H := Option.bind_eq_some_iff.mp H
      obtain ⟨t571, A160, H⟩ := H
      replace H : (if t571 = true then (laws_FnExactBare.j0 k a0 a1 t563 (t569 != t563) t559 t560 t565 t566) else (laws_FnExactBare.j0 k a0 a1 t563 true t559 t560 t565 t566)) = some r := H
      have A16 := Aside0.mk A160
      clear A160
      by_cases c17 : t571 = true
      · subst c17
        have H1 : (laws_FnExactBare.j0 k a0 a1 t563 (t569 != t563) t559 t560 t565 t566) = some r := by rw [if_pos rfl] at H; exact H
        clear H
        have H := H1
        clear H1
        have H' := Aside0.mk H
        clear H
        have hnb18 := NB570_564.out
        have hnc18 := NB564_570.out
        have hcz19_0 : w12.cell? ⟨gb570, 0, none⟩ = some (.string (⟨#[]⟩ : ByteArray)) := (blk_cell BK570.out 0).trans rfl
        have hcz19_1 : w12.cell? ⟨gb570, 1, none⟩ = some (.slice none 0 0) := (blk_cell BK570.out 1).trans rfl
        have hfz19_0 := blk_frozen BK570.out 0
        have hfz19_1 := blk_frozen BK570.out 1
        have hcz20_0 : w12.cell? ⟨gb564, 0, none⟩ = some (.string t559) := (blk_cell BK564.out 0).trans rfl
        have hcz20_1 : w12.cell? ⟨gb564, 1, none⟩ = some (.slice Ao10 t560.length co10) := (blk_cell BK564.out 1).trans rfl
        have hfz20_0 := blk_frozen BK564.out 0
        have hfz20_1 := blk_frozen BK564.out 1
        go_wp2_with (first | ((with_reducible refine gate_callee (f := 26) rfl ?_); refine goesL_ (some 30) rfl rfl Try.func26 (by kernel_rfl) rfl #[.agg #[.string t565, .slice Ao15 t566.length co15], .agg #[.string t559, .slice Ao10 t560.length co10]] rfl (by (try simp only [List.map_toArray, List.map_cons, List.map_nil]); first | done | rfl | (simp only [List.length_drop, List.length_take]; rfl)) ?_; (with_reducible refine (laws_eqMsg.calls k t565 _ _ t566 t559 _ _ t560 true _ ?side1 ?side2 ?side3 ?side4 A16.out).mono ?_); (case side1 => refine (Kd.R_reads' (e := 71) (base := w.heap.size) (ok := fun k_ => (True ∧ some k_ ≠ (.slice Ao10 t560.length co10 : Value).ownBlock)) (n := t566.length) (c := co15) ?_).2.2; exact (by (with_reducible repeat (first | apply Kd.R_alloc | apply Kd.R_drewN | apply Kd.R_drew)); exact (Kd.R_mono (Kd.R_far (p := ⟨gb570, 1, none⟩) (Kd.R_far (p := ⟨gb570, 0, none⟩) (Kd.R_types HO568.out BK570.out (by decide)) (fun _ hk => hk.2) (.string t565)) (fun _ hk => hk.2) (.slice Ao15 t566.length co15)) (fun _ h_ => h_.1)))); (case side2 => exact (Kd.R_reads' HO568.out).2.1); (case side3 => refine (Kd.R_reads' (e := 71) (base := w.heap.size) (ok := fun k_ => (True ∧ some k_ ≠ (.slice Ao15 t566.length co15 : Value).ownBlock)) (n := t560.length) (c := co10) ?_).2.2; exact (by (with_reducible repeat (first | apply Kd.R_alloc | apply Kd.R_drewN | apply Kd.R_drew)); exact (Kd.R_mono (Kd.R_far (p := ⟨gb570, 1, none⟩) (Kd.R_far (p := ⟨gb570, 0, none⟩) (Kd.R_types HO562.out BK570.out (by decide)) (fun _ hk => hk.2) (.string t565)) (fun _ hk => hk.2) (.slice Ao15 t566.length co15)) (fun _ h_ => h_.1)))); (case side4 => exact (Kd.R_reads' HO562.out).2.1); rintro e w21 ⟨rfl, hb⟩; refine ⟨_, rfl, ?_⟩; have n0_ := Aside0.mk (Kd.R_below (by (with_reducible repeat (first | apply Kd.R_alloc | apply Kd.R_drewN | apply Kd.R_drew)); exact (Kd.R_mono (Kd.R_far (p := ⟨gb570, 1, none⟩) (Kd.R_far (p := ⟨gb570, 0, none⟩) (Kd.R_types HO562.out BK570.out (by decide)) (fun _ hk => hk.2) (.string t565)) (fun _ hk => hk.2) (.slice Ao15 t566.length co15)) (fun _ h_ => h_.1))) hb); have n1_ := Aside0.mk (Kd.R_below (by (with_reducible repeat (first | apply Kd.R_alloc | apply Kd.R_drewN | apply Kd.R_drew)); exact (Kd.R_mono (Kd.R_far (p := ⟨gb570, 1, none⟩) (Kd.R_far (p := ⟨gb570, 0, none⟩) (Kd.R_types HO568.out BK570.out (by decide)) (fun _ hk => hk.2) (.string t565)) (fun _ hk => hk.2) (.slice Ao15 t566.length co15)) (fun _ h_ => h_.1))) hb); have n2_ := Aside0.mk (blk_below (g := gb564) (o := .cells #[.string t559, .slice Ao10 t560.length co10] 43 (0, 0)) (by (with_reducible repeat (first | refine blk_drewN ?_ _ | refine blk_drew ?_ | refine blk_alloc ?_ _)); refine blk_far ?_ NB564_570.out _; (with_reducible repeat (first | refine blk_drewN ?_ _ | refine blk_drew ?_ | refine blk_alloc ?_ _)); refine blk_far ?_ NB564_570.out _; (with_reducible repeat (first | refine blk_drewN ?_ _ | refine blk_drew ?_ | refine blk_alloc ?_ _)); exact BK564.out) hb); have n3_ := Aside0.mk (blk_below (g := gb570) (o := .cells #[.string t565, .slice Ao15 t566.length co15] 43 (0, 0)) (by (with_reducible repeat (first | refine blk_drewN ?_ _ | refine blk_drew ?_ | refine blk_alloc ?_ _)); refine blk_put (cs := #[.string t565, .slice none 0 0]) ?_ 1 _ rfl; (with_reducible repeat (first | refine blk_drewN ?_ _ | refine blk_drew ?_ | refine blk_alloc ?_ _)); refine blk_put (cs := #[.string (⟨#[]⟩ : ByteArray), .slice none 0 0]) ?_ 0 _ rfl; (with_reducible repeat (first | refine blk_drewN ?_ _ | refine blk_drew ?_ | refine blk_alloc ?_ _)); exact BK570.out) hb); have n4_ := Aside0.mk (below_step (by repeat (first | (with_reducible first | exact HB.out | apply below_alloc | apply pw_below_drewN | apply below_drew1 | refine below_set ?_ GE564.out | refine below_set ?_ GE570.out) | exact HB.out)) hb); clear HO562; clear HO568; clear BK564; clear BK570; clear HB; have HO562 := n0_; have HO568 := n1_; have BK564 := n2_; have BK570 := n3_; have HB := n4_; clear n0_ n1_ n2_ n3_ n4_; (try clear hb); (try clear hb2); (try clear hk); (try clear hi)))
        go_meet
        case rel => exact ⟨_, ((t569 != t563)), (by first | rfl | (simp; done) | (simp [*]; done) | (have e_ : ∀ x_ : Int, wrap64 (x_ % 256) = x_ % 256 := (fun x_ => (by unfold wrap64; omega)); simp [i64_w, IntKind.wrap_u8, e_]; done) | (simp; generalize ByteArray.toList _ = zz_; cases zz_ <;> rfl)), H', ⟨by first | omega | exact Nat.le_refl _⟩, ⟨by (with_reducible repeat (first | apply Kd.R_alloc | apply Kd.R_drewN | apply Kd.R_drew)); exact Kd.R_mono HO562.out (fun _ hk => hk.2)⟩, ⟨by (with_reducible repeat (first | apply Kd.R_alloc | apply Kd.R_drewN | apply Kd.R_drew)); exact Kd.R_mono HO568.out (fun _ hk => hk.2)⟩, ⟨by (with_reducible repeat (first | refine blk_drewN ?_ _ | refine blk_drew ?_ | refine blk_alloc ?_ _)); exact BK564.out⟩, ⟨by (with_reducible repeat (first | refine blk_drewN ?_ _ | refine blk_drew ?_ | refine blk_alloc ?_ _)); exact BK570.out⟩, ⟨by repeat (first | (with_reducible first | exact HB.out | apply below_alloc | apply pw_below_drewN | apply below_drew1 | refine below_set ?_ GE564.out | refine below_set ?_ GE570.out) | exact HB.out)⟩⟩
      · replace c17 := Bool.eq_false_iff.mpr c17
        subst c17
        have H1 : (laws_FnExactBare.j0 k a0 a1 t563 true t559 t560 t565 t566) = some r := by rw [if_neg (show ¬ (false = true) by decide)] at H; exact H
        clear H
        have H := H1
        clear H1
        have H' := Aside0.mk H
        clear H
        have hnb22 := NB570_564.out
        have hnc22 := NB564_570.out
        have hcz23_0 : w12.cell? ⟨gb570, 0, none⟩ = some (.string (⟨#[]⟩ : ByteArray)) := (blk_cell BK570.out 0).trans rfl
        have hcz23_1 : w12.cell? ⟨gb570, 1, none⟩ = some (.slice none 0 0) := (blk_cell BK570.out 1).trans rfl
        have hfz23_0 := blk_frozen BK570.out 0
        have hfz23_1 := blk_frozen BK570.out 1
        have hcz24_0 : w12.cell? ⟨gb564, 0, none⟩ = some (.string t559) := (blk_cell BK564.out 0).trans rfl
        have hcz24_1 : w12.cell? ⟨gb564, 1, none⟩ = some (.slice Ao10 t560.length co10) := (blk_cell BK564.out 1).trans rfl
        have hfz24_0 := blk_frozen BK564.out 0
        have hfz24_1 := blk_frozen BK564.out 1
        go_wp2_with (first | ((with_reducible refine gate_callee (f := 26) rfl ?_); refine goesL_ (some 30) rfl rfl Try.func26 (by kernel_rfl) rfl #[.agg #[.string t565, .slice Ao15 t566.length co15], .agg #[.string t559, .slice Ao10 t560.length co10]] rfl (by (try simp only [List.map_toArray, List.map_cons, List.map_nil]); first | done | rfl | (simp only [List.length_drop, List.length_take]; rfl)) ?_; (with_reducible refine (laws_eqMsg.calls k t565 _ _ t566 t559 _ _ t560 false _ ?side1 ?side2 ?side3 ?side4 A16.out).mono ?_); (case side1 => refine (Kd.R_reads' (e := 71) (base := w.heap.size) (ok := fun k_ => (True ∧ some k_ ≠ (.slice Ao10 t560.length co10 : Value).ownBlock)) (n := t566.length) (c := co15) ?_).2.2; exact (by (with_reducible repeat (first | apply Kd.R_alloc | apply Kd.R_drewN | apply Kd.R_drew)); exact (Kd.R_mono (Kd.R_far (p := ⟨gb570, 1, none⟩) (Kd.R_far (p := ⟨gb570, 0, none⟩) (Kd.R_types HO568.out BK570.out (by decide)) (fun _ hk => hk.2) (.string t565)) (fun _ hk => hk.2) (.slice Ao15 t566.length co15)) (fun _ h_ => h_.1)))); (case side2 => exact (Kd.R_reads' HO568.out).2.1); (case side3 => refine (Kd.R_reads' (e := 71) (base := w.heap.size) (ok := fun k_ => (True ∧ some k_ ≠ (.slice Ao15 t566.length co15 : Value).ownBlock)) (n := t560.length) (c := co10) ?_).2.2; exact (by (with_reducible repeat (first | apply Kd.R_alloc | apply Kd.R_drewN | apply Kd.R_drew)); exact (Kd.R_mono (Kd.R_far (p := ⟨gb570, 1, none⟩) (Kd.R_far (p := ⟨gb570, 0, none⟩) (Kd.R_types HO562.out BK570.out (by decide)) (fun _ hk => hk.2) (.string t565)) (fun _ hk => hk.2) (.slice Ao15 t566.length co15)) (fun _ h_ => h_.1)))); (case side4 => exact (Kd.R_reads' HO562.out).2.1); rintro e w25 ⟨rfl, hb⟩; refine ⟨_, rfl, ?_⟩; have n0_ := Aside0.mk (Kd.R_below (by (with_reducible repeat (first | apply Kd.R_alloc | apply Kd.R_drewN | apply Kd.R_drew)); exact (Kd.R_mono (Kd.R_far (p := ⟨gb570, 1, none⟩) (Kd.R_far (p := ⟨gb570, 0, none⟩) (Kd.R_types HO562.out BK570.out (by decide)) (fun _ hk => hk.2) (.string t565)) (fun _ hk => hk.2) (.slice Ao15 t566.length co15)) (fun _ h_ => h_.1))) hb); have n1_ := Aside0.mk (Kd.R_below (by (with_reducible repeat (first | apply Kd.R_alloc | apply Kd.R_drewN | apply Kd.R_drew)); exact (Kd.R_mono (Kd.R_far (p := ⟨gb570, 1, none⟩) (Kd.R_far (p := ⟨gb570, 0, none⟩) (Kd.R_types HO568.out BK570.out (by decide)) (fun _ hk => hk.2) (.string t565)) (fun _ hk => hk.2) (.slice Ao15 t566.length co15)) (fun _ h_ => h_.1))) hb); have n2_ := Aside0.mk (blk_below (g := gb564) (o := .cells #[.string t559, .slice Ao10 t560.length co10] 43 (0, 0)) (by (with_reducible repeat (first | refine blk_drewN ?_ _ | refine blk_drew ?_ | refine blk_alloc ?_ _)); refine blk_far ?_ NB564_570.out _; (with_reducible repeat (first | refine blk_drewN ?_ _ | refine blk_drew ?_ | refine blk_alloc ?_ _)); refine blk_far ?_ NB564_570.out _; (with_reducible repeat (first | refine blk_drewN ?_ _ | refine blk_drew ?_ | refine blk_alloc ?_ _)); exact BK564.out) hb); have n3_ := Aside0.mk (blk_below (g := gb570) (o := .cells #[.string t565, .slice Ao15 t566.length co15] 43 (0, 0)) (by (with_reducible repeat (first | refine blk_drewN ?_ _ | refine blk_drew ?_ | refine blk_alloc ?_ _)); refine blk_put (cs := #[.string t565, .slice none 0 0]) ?_ 1 _ rfl; (with_reducible repeat (first | refine blk_drewN ?_ _ | refine blk_drew ?_ | refine blk_alloc ?_ _)); refine blk_put (cs := #[.string (⟨#[]⟩ : ByteArray), .slice none 0 0]) ?_ 0 _ rfl; (with_reducible repeat (first | refine blk_drewN ?_ _ | refine blk_drew ?_ | refine blk_alloc ?_ _)); exact BK570.out) hb); have n4_ := Aside0.mk (below_step (by repeat (first | (with_reducible first | exact HB.out | apply below_alloc | apply pw_below_drewN | apply below_drew1 | refine below_set ?_ GE564.out | refine below_set ?_ GE570.out) | exact HB.out)) hb); clear HO562; clear HO568; clear BK564; clear BK570; clear HB; have HO562 := n0_; have HO568 := n1_; have BK564 := n2_; have BK570 := n3_; have HB := n4_; clear n0_ n1_ n2_ n3_ n4_; (try clear hb); (try clear hb2); (try clear hk); (try clear hi)))
        go_meet
        case rel => exact ⟨_, (true), (by first | rfl | (simp; done) | (simp [*]; done) | (have e_ : ∀ x_ : Int, wrap64 (x_ % 256) = x_ % 256 := (fun x_ => (by unfold wrap64; omega)); simp [i64_w, IntKind.wrap_u8, e_]; done) | (simp; generalize ByteArray.toList _ = zz_; cases zz_ <;> rfl)), H', ⟨by first | omega | exact Nat.le_refl _⟩, ⟨by (with_reducible repeat (first | apply Kd.R_alloc | apply Kd.R_drewN | apply Kd.R_drew)); exact Kd.R_mono HO562.out (fun _ hk => hk.2)⟩, ⟨by (with_reducible repeat (first | apply Kd.R_alloc | apply Kd.R_drewN | apply Kd.R_drew)); exact Kd.R_mono HO568.out (fun _ hk => hk.2)⟩, ⟨by (with_reducible repeat (first | refine blk_drewN ?_ _ | refine blk_drew ?_ | refine blk_alloc ?_ _)); exact BK564.out⟩, ⟨by (with_reducible repeat (first | refine blk_drewN ?_ _ | refine blk_drew ?_ | refine blk_alloc ?_ _)); exact BK570.out⟩, ⟨by repeat (first | (with_reducible first | exact HB.out | apply below_alloc | apply pw_below_drewN | apply below_drew1 | refine below_set ?_ GE564.out | refine below_set ?_ GE570.out) | exact HB.out)⟩⟩
    case rest =>
      clear HC6
      try clear c1
      try clear c2
      try clear p2
      try clear c3
      try clear c3b0
      try clear c3b1
      try clear c4
      try clear p6
      try clear c11
      try clear c13
      try clear c17
      try clear c18
      try clear c22
      try clear hcz14_0
      try clear hcz14_1
      try clear hcz19_0
      try clear hcz19_1
      try clear hcz20_0
      try clear hcz20_1
      try clear hcz23_0
      try clear hcz23_1
      try clear hcz24_0
      try clear hcz24_1
      try clear hcz9_0
      try clear hcz9_1
      try clear hfz14_0
      try clear hfz14_1
      try clear hfz19_0
      try clear hfz19_1
      try clear hfz20_0
      try clear hfz20_1
      try clear hfz23_0
      try clear hfz23_1
      try clear hfz24_0
      try clear hfz24_1
      try clear hfz9_0
      try clear hfz9_1
      obtain ⟨kq, x36_5, rfl, HA, HJ5, HO_565001, HO_571001, BK564, BK570, HB⟩ := hcut
      cases kq with
      | zero => exact absurd HA.out (by simp [laws_FnExactBare.j0])
      | succ kj5 =>
        have H := HA.out
        clear HA
        simp only [laws_FnExactBare.j0] at H
        by_cases c26 : x36_5 = true
        · subst c26
          have H1 : (some false) = some r := by rw [if_pos rfl] at H; exact H
          clear H
          have H := H1
          clear H1
          obtain rfl := Option.some.inj H
          exact absurd hr_ (by simp)
        · replace c26 := Bool.eq_false_iff.mpr c26
          subst c26
          have H1 : ((laws_markMsg.f kj5 t565 t566 1).bind fun bt572 => ((laws_heldMsg.f kj5 t565 bt572.2 1).bind fun t574 => (if t574 < 0 then (some false) else (if t574 = bt572.1 then ((impl_Bare.f kj5 a0 a1).bind fun bt575 => ((laws_eqMsg.f kj5 bt575.1 bt575.2.1 t559 t560).bind fun t581 => (if t581 = true then (laws_FnExactBare.j1 kj5 bt572.1 (bt575.2.2 != t563) t565 bt572.2) else (laws_FnExactBare.j1 kj5 bt572.1 true t565 bt572.2)))) else (some false))))) = some r := by rw [if_neg (show ¬ (false = true) by decide)] at H; exact H
          clear H
          have H := H1
          clear H1
          replace H := Option.bind_eq_some_iff.mp H
          obtain ⟨⟨t572, t573⟩, A270, H⟩ := H
          replace H : ((laws_heldMsg.f kj5 t565 t573 1).bind fun t574 => (if t574 < 0 then (some false) else (if t574 = t572 then ((impl_Bare.f kj5 a0 a1).bind fun bt575 => ((laws_eqMsg.f kj5 bt575.1 bt575.2.1 t559 t560).bind fun t581 => (if t581 = true then (laws_FnExactBare.j1 kj5 t572 (bt575.2.2 != t563) t565 t573) else (laws_FnExactBare.j1 kj5 t572 true t565 t573)))) else (some false)))) = some r := H
          have A27 := Aside0.mk A270
          clear A270
          replace H := Option.bind_eq_some_iff.mp H
          obtain ⟨t574, A280, H⟩ := H
          replace H : (if t574 < 0 then (some false) else (if t574 = t572 then ((impl_Bare.f kj5 a0 a1).bind fun bt575 => ((laws_eqMsg.f kj5 bt575.1 bt575.2.1 t559 t560).bind fun t581 => (if t581 = true then (laws_FnExactBare.j1 kj5 t572 (bt575.2.2 != t563) t565 t573) else (laws_FnExactBare.j1 kj5 t572 true t565 t573)))) else (some false))) = some r := H
          have A28 := Aside0.mk A280
          clear A280
          by_cases c29 : t574 < 0
          · rw [if_pos c29] at H
            have c29b0 : decide (t574 < 0) = true := decide_eq_true c29
            clear c29
            obtain rfl := Option.some.inj H
            exact absurd hr_ (by simp)
          · rw [if_neg c29] at H
            have c29b0 : decide (t574 < 0) = false := decide_eq_false c29
            clear c29
            by_cases c30 : t574 = t572
            · rw [if_pos c30] at H
              have c30b0 : (t574 == t572) = true := beq_iff_eq.mpr c30
              have c30b1 : (t574 != t572) = false := bne_eq_false_iff_eq.mpr c30
              clear c30
              replace H := Option.bind_eq_some_iff.mp H
              obtain ⟨⟨t575, t576, t579⟩, A310, H⟩ := H
              replace H : ((laws_eqMsg.f kj5 t575 t576 t559 t560).bind fun t581 => (if t581 = true then (laws_FnExactBare.j1 kj5 t572 (t579 != t563) t565 t573) else (laws_FnExactBare.j1 kj5 t572 true t565 t573))) = some r := H
              have A31 := Aside0.mk A310
              clear A310
              have HC32 := Aside0.mk H
              clear H
              have hnb33 := NB570_564.out
              have hnc33 := NB564_570.out
              have hcz34_0 : wc.cell? ⟨gb570, 0, none⟩ = some (.string t565) := (blk_cell BK570.out 0).trans rfl
              have hcz34_1 : wc.cell? ⟨gb570, 1, none⟩ = some (.slice Ao15 t566.length co15) := (blk_cell BK570.out 1).trans rfl
              have hfz34_0 := blk_frozen BK570.out 0
              have hfz34_1 := blk_frozen BK570.out 1
              go_upto_region 16 with (first | ((with_reducible refine gate_callee (f := 38) rfl ?_); refine goesL_ (some 39) rfl rfl Try.func38 (by kernel_rfl) rfl #[.agg #[.string t565, .slice Ao15 t566.length co15], .int .i64 1] rfl (by (try simp only [List.map_toArray, List.map_cons, List.map_nil]); first | done | rfl | (simp only [List.length_drop, List.length_take]; rfl)) ?_; (with_reducible refine (laws_markMsg.calls kj5 t565 (fun k_ => some k_ = (.slice Ao15 t566.length co15 : Value).ownBlock) (.slice Ao15 t566.length co15) t566 1 t572 t573 w _ ?side1 ?side2 A27.out).mono ?_); (case side1 => repeat (first | (with_reducible first | exact HB.out | apply below_alloc | apply pw_below_drewN | apply below_drew1 | refine below_set ?_ GE564.out | refine below_set ?_ GE570.out) | exact HB.out)); (case side2 => exact Kd.R_tight rfl HO_571001.out); rintro e w35 ⟨rfl, hy0, hb, hkp⟩; refine ⟨_, rfl, ?_⟩; have n0_ := Aside0.mk (Kd.R_mono (ok' := fun k_ => some k_ ≠ (.slice Ao15 t566.length co15 : Value).ownBlock) (Kd.R_keptB (HO_565001.out) hkp (fun k_ hk_ hs_ => (hk_) hs_)) (fun k_ hk_ => hk_.1)); have n1_ := Aside0.mk (Kd.R_reok rfl hy0 (fun k_ e_ => HO_571001.out.1 k_ e_)); have n2_ := Aside0.mk (blk_kept (by (with_reducible repeat (first | refine blk_drewN ?_ _ | refine blk_drew ?_ | refine blk_alloc ?_ _)); exact BK564.out) hkp (fun hs_ => (fun e_ => (Kd.R_ne HO_571001.out BK564.out (by decide)) e_) hs_)); have n3_ := Aside0.mk (blk_kept (by (with_reducible repeat (first | refine blk_drewN ?_ _ | refine blk_drew ?_ | refine blk_alloc ?_ _)); exact BK570.out) hkp (fun hs_ => (fun e_ => (Kd.R_ne HO_571001.out BK570.out (by decide)) e_) hs_)); have n4_ := Aside0.mk (hb); clear HO_565001; clear HO_571001; clear BK564; clear BK570; clear HB; have HO_565001 := n0_; have HO_571001 := n1_; have BK564 := n2_; have BK570 := n3_; have HB := n4_; clear n0_ n1_ n2_ n3_ n4_; (try clear hb); (try clear hkp); (try clear hy0); have hcz36_0 : w35.cell? ⟨gb570, 0, none⟩ = some (.string t565) := (blk_cell BK570.out 0).trans rfl; have hcz36_1 : w35.cell? ⟨gb570, 1, none⟩ = some (.slice Ao15 t566.length co15) := (blk_cell BK570.out 1).trans rfl; have hfz36_0 := blk_frozen BK570.out 0; have hfz36_1 := blk_frozen BK570.out 1) | ((with_reducible refine gate_callee (f := 39) rfl ?_); refine goesL_ (some 42) rfl rfl Try.func39 (by kernel_rfl) rfl #[.agg #[.string t565, .slice Ao15 t573.length co15], .int .i64 1] rfl (by (try simp only [List.map_toArray, List.map_cons, List.map_nil]); first | done | (rw [show t573.length = t566.length from (Kd.R_reads' HO_571001.out).1.symm] <;> rfl) | rfl | (simp only [List.length_drop, List.length_take]; rfl)) ?_; (with_reducible refine (laws_heldMsg.calls kj5 t565 _ _ t573 1 t574 _ ?side1 ?side2 A28.out).mono ?_); (case side1 => repeat (first | exact (Kd.R_reads' HO_571001.out).2.2 | (with_reducible refine Kd.C_alloc ?_ _) | (with_reducible refine Kd.C_drewN ?_ _) | (with_reducible refine Kd.C_drew ?_))); (case side2 => rw [show t573.length = t566.length from (Kd.R_reads' HO_571001.out).1.symm]; exact (Kd.R_reads' HO_571001.out).2.1); rintro e w37 ⟨rfl, hb⟩; refine ⟨_, rfl, ?_⟩; have n0_ := Aside0.mk (Kd.R_below (by (with_reducible repeat (first | apply Kd.R_alloc | apply Kd.R_drewN | apply Kd.R_drew)); exact HO_565001.out) hb); have n1_ := Aside0.mk (Kd.R_below (by (with_reducible repeat (first | apply Kd.R_alloc | apply Kd.R_drewN | apply Kd.R_drew)); exact HO_571001.out) hb); have n2_ := Aside0.mk (blk_below (g := gb564) (o := .cells #[.string t559, .slice Ao10 t560.length co10] 43 (0, 0)) (by (with_reducible repeat (first | refine blk_drewN ?_ _ | refine blk_drew ?_ | refine blk_alloc ?_ _)); exact BK564.out) hb); have n3_ := Aside0.mk (blk_below (g := gb570) (o := .cells #[.string t565, .slice Ao15 t566.length co15] 43 (0, 0)) (by (with_reducible repeat (first | refine blk_drewN ?_ _ | refine blk_drew ?_ | refine blk_alloc ?_ _)); exact BK570.out) hb); have n4_ := Aside0.mk (below_step (by repeat (first | (with_reducible first | exact HB.out | apply below_alloc | apply pw_below_drewN | apply below_drew1 | refine below_set ?_ GE564.out | refine below_set ?_ GE570.out) | exact HB.out)) hb); clear HO_565001; clear HO_571001; clear BK564; clear BK570; clear HB; have HO_565001 := n0_; have HO_571001 := n1_; have BK564 := n2_; have BK570 := n3_; have HB := n4_; clear n0_ n1_ n2_ n3_ n4_; (try clear hb); (try clear hb2); (try clear hk); (try clear hi)) | ((with_reducible refine gate_callee (f := 43) rfl ?_); refine goesL_ (some 51) rfl rfl Try.func43 (by kernel_rfl) rfl #[.string a0, .int .i64 a1] rfl (by (try simp only [List.map_toArray, List.map_cons, List.map_nil]); first | done | rfl | (simp only [List.length_drop, List.length_take]; rfl)) ?_; (with_reducible refine (impl_Bare.calls kj5 a0 a1 t575 t576 t579 _ A31.out).mono ?_); rintro e w38 ⟨v577, rfl, ho0, hb⟩; refine ⟨_, rfl, ?_⟩; have n0_ := Aside0.mk (Kd.R_elder' (by (with_reducible repeat (first | apply Kd.R_alloc | apply Kd.R_drewN | apply Kd.R_drew)); exact HO_565001.out) (Kd.R_base ho0) hb); have n1_ := Aside0.mk (Kd.R_elder' (by (with_reducible repeat (first | apply Kd.R_alloc | apply Kd.R_drewN | apply Kd.R_drew)); exact HO_571001.out) (Kd.R_base ho0) hb); have n2_ := Aside0.mk (Kd.R_lower (Kd.R_new' (Kd.R_new' ho0 (Kd.R_lt (by (with_reducible repeat (first | apply Kd.R_alloc | apply Kd.R_drewN | apply Kd.R_drew)); exact HO_565001.out))) (Kd.R_lt (by (with_reducible repeat (first | apply Kd.R_alloc | apply Kd.R_drewN | apply Kd.R_drew)); exact HO_571001.out))) (below_size (by repeat (first | (with_reducible first | exact HB.out | apply below_alloc | apply pw_below_drewN | apply below_drew1 | refine below_set ?_ GE564.out | refine below_set ?_ GE570.out) | exact HB.out)))); have n3_ := Aside0.mk (blk_below (g := gb564) (o := .cells #[.string t559, .slice Ao10 t560.length co10] 43 (0, 0)) (by (with_reducible repeat (first | refine blk_drewN ?_ _ | refine blk_drew ?_ | refine blk_alloc ?_ _)); exact BK564.out) hb); have n4_ := Aside0.mk (blk_below (g := gb570) (o := .cells #[.string t565, .slice Ao15 t566.length co15] 43 (0, 0)) (by (with_reducible repeat (first | refine blk_drewN ?_ _ | refine blk_drew ?_ | refine blk_alloc ?_ _)); exact BK570.out) hb); have n5_ := Aside0.mk (below_step (by repeat (first | (with_reducible first | exact HB.out | apply below_alloc | apply pw_below_drewN | apply below_drew1 | refine below_set ?_ GE564.out | refine below_set ?_ GE570.out) | exact HB.out)) hb); clear HO_565001; clear HO_571001; clear BK564; clear BK570; clear HB; have HO_565001 := n0_; have HO_571001 := n1_; have HO578 := n2_; have BK564 := n3_; have BK570 := n4_; have HB := n5_; clear n0_ n1_ n2_ n3_ n4_ n5_; (try clear hb); (try clear hb2); (try clear hk); (try clear hi); (try clear ho0)) | ((with_reducible refine gate_dst (N := 11) rfl ?_); refine box_event ?hg (N := 11) ?hd (cs := #[.string (⟨#[]⟩ : ByteArray), .slice none 0 0]) (t := 43) ?hr ?_; (case hd => rfl); (case hg => rfl); (case hr => first | (go_simp; done) | (go_simp; rfl)); intro gb580 hg w39 hbox hb; have n0_ := Aside0.mk (Kd.R_below (by (with_reducible repeat (first | apply Kd.R_alloc | apply Kd.R_drewN | apply Kd.R_drew)); exact HO_565001.out) hb); have n1_ := Aside0.mk (Kd.R_below (by (with_reducible repeat (first | apply Kd.R_alloc | apply Kd.R_drewN | apply Kd.R_drew)); exact HO_571001.out) hb); have n2_ := Aside0.mk (Kd.R_below (by (with_reducible repeat (first | apply Kd.R_alloc | apply Kd.R_drewN | apply Kd.R_drew)); exact HO578.out) hb); have n3_ := Aside0.mk (blk_below (g := gb564) (o := .cells #[.string t559, .slice Ao10 t560.length co10] 43 (0, 0)) (by (with_reducible repeat (first | refine blk_drewN ?_ _ | refine blk_drew ?_ | refine blk_alloc ?_ _)); exact BK564.out) hb); have n4_ := Aside0.mk (blk_below (g := gb570) (o := .cells #[.string t565, .slice Ao15 t566.length co15] 43 (0, 0)) (by (with_reducible repeat (first | refine blk_drewN ?_ _ | refine blk_drew ?_ | refine blk_alloc ?_ _)); exact BK570.out) hb); have n5_ := Aside0.mk (below_step (by repeat (first | (with_reducible first | exact HB.out | apply below_alloc | apply pw_below_drewN | apply below_drew1 | refine below_set ?_ GE564.out | refine below_set ?_ GE570.out) | exact HB.out)) hb); have n6_ := Aside0.mk (hbox); have n7_ := Aside0.mk ((by rw [hg]; exact (below_size (by repeat (first | (with_reducible first | exact HB.out | apply below_alloc | apply pw_below_drewN | apply below_drew1 | refine below_set ?_ GE564.out | refine below_set ?_ GE570.out) | exact HB.out))) : w.heap.size ≤ gb580)); have n8_ := Aside0.mk ((by rw [hg]; exact (below_size (by repeat (first | (with_reducible first | exact HB.out | apply below_alloc | apply pw_below_drewN | apply below_drew1 | refine below_set ?_ GE564.out | refine below_set ?_ GE570.out) | exact HB.out))) : w.heap.size ≤ gb580)); have n9_ := Aside0.mk ((by rw [hg]; exact Nat.ne_of_lt (blk_lt (g := gb564) (o := .cells #[.string t559, .slice Ao10 t560.length co10] 43 (0, 0)) (by (with_reducible repeat (first | refine blk_drewN ?_ _ | refine blk_drew ?_ | refine blk_alloc ?_ _)); exact BK564.out)) : gb564 ≠ gb580)); have n10_ := Aside0.mk ((by rw [hg]; exact Nat.ne_of_gt (blk_lt (g := gb564) (o := .cells #[.string t559, .slice Ao10 t560.length co10] 43 (0, 0)) (by (with_reducible repeat (first | refine blk_drewN ?_ _ | refine blk_drew ?_ | refine blk_alloc ?_ _)); exact BK564.out)) : gb580 ≠ gb564)); have n11_ := Aside0.mk ((by rw [hg]; exact Nat.ne_of_lt (blk_lt (g := gb570) (o := .cells #[.string t565, .slice Ao15 t566.length co15] 43 (0, 0)) (by (with_reducible repeat (first | refine blk_drewN ?_ _ | refine blk_drew ?_ | refine blk_alloc ?_ _)); exact BK570.out)) : gb570 ≠ gb580)); have n12_ := Aside0.mk ((by rw [hg]; exact Nat.ne_of_gt (blk_lt (g := gb570) (o := .cells #[.string t565, .slice Ao15 t566.length co15] 43 (0, 0)) (by (with_reducible repeat (first | refine blk_drewN ?_ _ | refine blk_drew ?_ | refine blk_alloc ?_ _)); exact BK570.out)) : gb580 ≠ gb570)); clear HO_565001; clear HO_571001; clear HO578; clear BK564; clear BK570; clear HB; have HO_565001 := n0_; have HO_571001 := n1_; have HO578 := n2_; have BK564 := n3_; have BK570 := n4_; have HB := n5_; have BK580 := n6_; have GW580 := n7_; have GE580 := n8_; have NB564_580 := n9_; have NB580_564 := n10_; have NB570_580 := n11_; have NB580_570 := n12_; clear n0_ n1_ n2_ n3_ n4_ n5_ n6_ n7_ n8_ n9_ n10_ n11_ n12_; clear hb hbox hg; have hnb40 := NB580_564.out; have hnc40 := NB564_580.out; have hnb41 := NB580_570.out; have hnc41 := NB570_580.out; have hcz42_0 : w39.cell? ⟨gb580, 0, none⟩ = some (.string (⟨#[]⟩ : ByteArray)) := (blk_cell BK580.out 0).trans rfl; have hcz42_1 : w39.cell? ⟨gb580, 1, none⟩ = some (.slice none 0 0) := (blk_cell BK580.out 1).trans rfl; have hfz42_0 := blk_frozen BK580.out 0; have hfz42_1 := blk_frozen BK580.out 1; obtain ⟨Ao43, co43, eo43⟩ := Kd.R_slice HO578.out; subst eo43))
              (try simp only [Act.put, List.setIfInBounds_toArray, List.set_cons_zero, List.set_cons_succ])
              go_cut [62] (fun v62 wc => ∃ (kq : Nat) (x62_31 : Bool), v62 = .bool x62_31 ∧ Aside0 (laws_FnExactBare.j1 kq t572 x62_31 t565 t573 = some r) ∧ Aside0 (kq ≤ kj5) ∧ Aside0 (Kd.R k71 71 wc w.heap.size (fun k_ => some k_ ≠ ((.slice Ao15 t566.length co15) : Value).ownBlock ∧ some k_ ≠ ((.slice Ao43 t576.length co43) : Value).ownBlock) (.slice Ao10 t560.length co10) t560) ∧ Aside0 (Kd.R k71 71 wc w.heap.size (fun k_ => some k_ ≠ ((.slice Ao10 t560.length co10) : Value).ownBlock ∧ some k_ ≠ ((.slice Ao43 t576.length co43) : Value).ownBlock) (.slice Ao15 t566.length co15) t573) ∧ Aside0 (Kd.R k71 71 wc w.heap.size (fun k_ => some k_ ≠ ((.slice Ao10 t560.length co10) : Value).ownBlock ∧ some k_ ≠ ((.slice Ao15 t566.length co15) : Value).ownBlock) (.slice Ao43 t576.length co43) t576) ∧ Aside0 (wc.heap[gb564]? = some (.cells #[.string t559, (.slice Ao10 t560.length co10)] 43 (0, 0))) ∧ Aside0 (wc.heap[gb570]? = some (.cells #[.string t565, (.slice Ao15 t566.length co15)] 43 (0, 0))) ∧ Aside0 (wc.heap[gb580]? = some (.cells #[.string t575, (.slice Ao43 t576.length co43)] 43 (0, 0))) ∧ Aside0 (Below w.heap.size w wc))
              case first =>
                have H := HC32.out
                clear HC32
                replace H := Option.bind_eq_some_iff.mp H
                obtain ⟨t581, A440, H⟩ := H
                replace H : (if t581 = true then (laws_FnExactBare.j1 kj5 t572 (t579 != t563) t565 t573) else (laws_FnExactBare.j1 kj5 t572 true t565 t573)) = some r := H
                have A44 := Aside0.mk A440
                clear A440
                by_cases c45 : t581 = true
                · subst c45
                  have H1 : (laws_FnExactBare.j1 kj5 t572 (t579 != t563) t565 t573) = some r := by rw [if_pos rfl] at H; exact H
                  clear H
                  have H := H1
                  clear H1
                  have H' := Aside0.mk H
                  clear H
                  have hnb46 := NB580_564.out
                  have hnc46 := NB564_580.out
                  have hnb47 := NB580_570.out
                  have hnc47 := NB570_580.out
                  have hcz48_0 : w39.cell? ⟨gb580, 0, none⟩ = some (.string (⟨#[]⟩ : ByteArray)) := (blk_cell BK580.out 0).trans rfl
                  have hcz48_1 : w39.cell? ⟨gb580, 1, none⟩ = some (.slice none 0 0) := (blk_cell BK580.out 1).trans rfl
                  have hfz48_0 := blk_frozen BK580.out 0
                  have hfz48_1 := blk_frozen BK580.out 1
                  have hnb49 := NB564_570.out
                  have hnc49 := NB570_564.out
                  have hcz50_0 : w39.cell? ⟨gb564, 0, none⟩ = some (.string t559) := (blk_cell BK564.out 0).trans rfl
                  have hcz50_1 : w39.cell? ⟨gb564, 1, none⟩ = some (.slice Ao10 t560.length co10) := (blk_cell BK564.out 1).trans rfl
                  have hfz50_0 := blk_frozen BK564.out 0
                  have hfz50_1 := blk_frozen BK564.out 1
                  go_wp2_with (first | ((with_reducible refine gate_callee (f := 26) rfl ?_); refine goesL_ (some 56) rfl rfl Try.func26 (by kernel_rfl) rfl #[.agg #[.string t575, .slice Ao43 t576.length co43], .agg #[.string t559, .slice Ao10 t560.length co10]] rfl (by (try simp only [List.map_toArray, List.map_cons, List.map_nil]); first | done | rfl | (simp only [List.length_drop, List.length_take]; rfl)) ?_; (with_reducible refine (laws_eqMsg.calls kj5 t575 _ _ t576 t559 _ _ t560 true _ ?side1 ?side2 ?side3 ?side4 A44.out).mono ?_); (case side1 => refine (Kd.R_reads' (e := 71) (base := w.heap.size) (ok := fun k_ => ((True ∧ some k_ ≠ (.slice Ao10 t560.length co10 : Value).ownBlock) ∧ some k_ ≠ (.slice Ao15 t566.length co15 : Value).ownBlock)) (n := t576.length) (c := co43) ?_).2.2; exact (by (with_reducible repeat (first | apply Kd.R_alloc | apply Kd.R_drewN | apply Kd.R_drew)); exact (Kd.R_mono (Kd.R_far (p := ⟨gb580, 1, none⟩) (Kd.R_far (p := ⟨gb580, 0, none⟩) (Kd.R_types HO578.out BK580.out (by decide)) (fun _ hk => hk.2) (.string t575)) (fun _ hk => hk.2) (.slice Ao43 t576.length co43)) (fun _ h_ => h_.1)))); (case side2 => exact (Kd.R_reads' HO578.out).2.1); (case side3 => refine (Kd.R_reads' (e := 71) (base := w.heap.size) (ok := fun k_ => (some k_ ≠ (.slice Ao15 t566.length co15 : Value).ownBlock ∧ some k_ ≠ (.slice Ao43 t576.length co43 : Value).ownBlock)) (n := t560.length) (c := co10) ?_).2.2; exact (by (with_reducible repeat (first | apply Kd.R_alloc | apply Kd.R_drewN | apply Kd.R_drew)); exact (Kd.R_mono (Kd.R_far (p := ⟨gb580, 1, none⟩) (Kd.R_far (p := ⟨gb580, 0, none⟩) (Kd.R_types HO_565001.out BK580.out (by decide)) (fun _ hk => hk.2) (.string t575)) (fun _ hk => hk.2) (.slice Ao43 t576.length co43)) (fun _ h_ => h_.1)))); (case side4 => exact (Kd.R_reads' HO_565001.out).2.1); rintro e w51 ⟨rfl, hb⟩; refine ⟨_, rfl, ?_⟩; have n0_ := Aside0.mk (Kd.R_below (by (with_reducible repeat (first | apply Kd.R_alloc | apply Kd.R_drewN | apply Kd.R_drew)); exact (Kd.R_mono (Kd.R_far (p := ⟨gb580, 1, none⟩) (Kd.R_far (p := ⟨gb580, 0, none⟩) (Kd.R_types HO_565001.out BK580.out (by decide)) (fun _ hk => hk.2) (.string t575)) (fun _ hk => hk.2) (.slice Ao43 t576.length co43)) (fun _ h_ => h_.1))) hb); have n1_ := Aside0.mk (Kd.R_below (by (with_reducible repeat (first | apply Kd.R_alloc | apply Kd.R_drewN | apply Kd.R_drew)); exact (Kd.R_mono (Kd.R_far (p := ⟨gb580, 1, none⟩) (Kd.R_far (p := ⟨gb580, 0, none⟩) (Kd.R_types HO_571001.out BK580.out (by decide)) (fun _ hk => hk.2) (.string t575)) (fun _ hk => hk.2) (.slice Ao43 t576.length co43)) (fun _ h_ => h_.1))) hb); have n2_ := Aside0.mk (Kd.R_below (by (with_reducible repeat (first | apply Kd.R_alloc | apply Kd.R_drewN | apply Kd.R_drew)); exact (Kd.R_mono (Kd.R_far (p := ⟨gb580, 1, none⟩) (Kd.R_far (p := ⟨gb580, 0, none⟩) (Kd.R_types HO578.out BK580.out (by decide)) (fun _ hk => hk.2) (.string t575)) (fun _ hk => hk.2) (.slice Ao43 t576.length co43)) (fun _ h_ => h_.1))) hb); have n3_ := Aside0.mk (blk_below (g := gb564) (o := .cells #[.string t559, .slice Ao10 t560.length co10] 43 (0, 0)) (by (with_reducible repeat (first | refine blk_drewN ?_ _ | refine blk_drew ?_ | refine blk_alloc ?_ _)); refine blk_far ?_ NB564_580.out _; (with_reducible repeat (first | refine blk_drewN ?_ _ | refine blk_drew ?_ | refine blk_alloc ?_ _)); refine blk_far ?_ NB564_580.out _; (with_reducible repeat (first | refine blk_drewN ?_ _ | refine blk_drew ?_ | refine blk_alloc ?_ _)); exact BK564.out) hb); have n4_ := Aside0.mk (blk_below (g := gb570) (o := .cells #[.string t565, .slice Ao15 t566.length co15] 43 (0, 0)) (by (with_reducible repeat (first | refine blk_drewN ?_ _ | refine blk_drew ?_ | refine blk_alloc ?_ _)); refine blk_far ?_ NB570_580.out _; (with_reducible repeat (first | refine blk_drewN ?_ _ | refine blk_drew ?_ | refine blk_alloc ?_ _)); refine blk_far ?_ NB570_580.out _; (with_reducible repeat (first | refine blk_drewN ?_ _ | refine blk_drew ?_ | refine blk_alloc ?_ _)); exact BK570.out) hb); have n5_ := Aside0.mk (blk_below (g := gb580) (o := .cells #[.string t575, .slice Ao43 t576.length co43] 43 (0, 0)) (by (with_reducible repeat (first | refine blk_drewN ?_ _ | refine blk_drew ?_ | refine blk_alloc ?_ _)); refine blk_put (cs := #[.string t575, .slice none 0 0]) ?_ 1 _ rfl; (with_reducible repeat (first | refine blk_drewN ?_ _ | refine blk_drew ?_ | refine blk_alloc ?_ _)); refine blk_put (cs := #[.string (⟨#[]⟩ : ByteArray), .slice none 0 0]) ?_ 0 _ rfl; (with_reducible repeat (first | refine blk_drewN ?_ _ | refine blk_drew ?_ | refine blk_alloc ?_ _)); exact BK580.out) hb); have n6_ := Aside0.mk (below_step (by repeat (first | (with_reducible first | exact HB.out | apply below_alloc | apply pw_below_drewN | apply below_drew1 | refine below_set ?_ GE564.out | refine below_set ?_ GE570.out | refine below_set ?_ GE580.out) | exact HB.out)) hb); clear HO_565001; clear HO_571001; clear HO578; clear BK564; clear BK570; clear BK580; clear HB; have HO_565001 := n0_; have HO_571001 := n1_; have HO578 := n2_; have BK564 := n3_; have BK570 := n4_; have BK580 := n5_; have HB := n6_; clear n0_ n1_ n2_ n3_ n4_ n5_ n6_; (try clear hb); (try clear hb2); (try clear hk); (try clear hi)))
                  go_meet
                  case rel => exact ⟨_, ((t579 != t563)), (by first | rfl | (simp; done) | (simp [*]; done) | (have e_ : ∀ x_ : Int, wrap64 (x_ % 256) = x_ % 256 := (fun x_ => (by unfold wrap64; omega)); simp [i64_w, IntKind.wrap_u8, e_]; done) | (simp; generalize ByteArray.toList _ = zz_; cases zz_ <;> rfl)), H', ⟨by have := HJ5.out; first | omega | exact Nat.le_refl _⟩, ⟨by (with_reducible repeat (first | apply Kd.R_alloc | apply Kd.R_drewN | apply Kd.R_drew)); exact HO_565001.out⟩, ⟨by (with_reducible repeat (first | apply Kd.R_alloc | apply Kd.R_drewN | apply Kd.R_drew)); exact HO_571001.out⟩, ⟨by (with_reducible repeat (first | apply Kd.R_alloc | apply Kd.R_drewN | apply Kd.R_drew)); exact Kd.R_mono HO578.out (fun _ hk => ⟨hk.1.2, hk.2⟩)⟩, ⟨by (with_reducible repeat (first | refine blk_drewN ?_ _ | refine blk_drew ?_ | refine blk_alloc ?_ _)); exact BK564.out⟩, ⟨by (with_reducible repeat (first | refine blk_drewN ?_ _ | refine blk_drew ?_ | refine blk_alloc ?_ _)); exact BK570.out⟩, ⟨by (with_reducible repeat (first | refine blk_drewN ?_ _ | refine blk_drew ?_ | refine blk_alloc ?_ _)); exact BK580.out⟩, ⟨by repeat (first | (with_reducible first | exact HB.out | apply below_alloc | apply pw_below_drewN | apply below_drew1 | refine below_set ?_ GE564.out | refine below_set ?_ GE570.out | refine below_set ?_ GE580.out) | exact HB.out)⟩⟩
                · replace c45 := Bool.eq_false_iff.mpr c45
                  subst c45
                  have H1 : (laws_FnExactBare.j1 kj5 t572 true t565 t573) = some r := by rw [if_neg (show ¬ (false = true) by decide)] at H; exact H
                  clear H
                  have H := H1
                  clear H1
                  have H' := Aside0.mk H
                  clear H
                  have hnb52 := NB580_564.out
                  have hnc52 := NB564_580.out
                  have hnb53 := NB580_570.out
                  have hnc53 := NB570_580.out
                  have hcz54_0 : w39.cell? ⟨gb580, 0, none⟩ = some (.string (⟨#[]⟩ : ByteArray)) := (blk_cell BK580.out 0).trans rfl
                  have hcz54_1 : w39.cell? ⟨gb580, 1, none⟩ = some (.slice none 0 0) := (blk_cell BK580.out 1).trans rfl
                  have hfz54_0 := blk_frozen BK580.out 0
                  have hfz54_1 := blk_frozen BK580.out 1
                  have hnb55 := NB564_570.out
                  have hnc55 := NB570_564.out
                  have hcz56_0 : w39.cell? ⟨gb564, 0, none⟩ = some (.string t559) := (blk_cell BK564.out 0).trans rfl
                  have hcz56_1 : w39.cell? ⟨gb564, 1, none⟩ = some (.slice Ao10 t560.length co10) := (blk_cell BK564.out 1).trans rfl
                  have hfz56_0 := blk_frozen BK564.out 0
                  have hfz56_1 := blk_frozen BK564.out 1
                  go_wp2_with (first | ((with_reducible refine gate_callee (f := 26) rfl ?_); refine goesL_ (some 56) rfl rfl Try.func26 (by kernel_rfl) rfl #[.agg #[.string t575, .slice Ao43 t576.length co43], .agg #[.string t559, .slice Ao10 t560.length co10]] rfl (by (try simp only [List.map_toArray, List.map_cons, List.map_nil]); first | done | rfl | (simp only [List.length_drop, List.length_take]; rfl)) ?_; (with_reducible refine (laws_eqMsg.calls kj5 t575 _ _ t576 t559 _ _ t560 false _ ?side1 ?side2 ?side3 ?side4 A44.out).mono ?_); (case side1 => refine (Kd.R_reads' (e := 71) (base := w.heap.size) (ok := fun k_ => ((True ∧ some k_ ≠ (.slice Ao10 t560.length co10 : Value).ownBlock) ∧ some k_ ≠ (.slice Ao15 t566.length co15 : Value).ownBlock)) (n := t576.length) (c := co43) ?_).2.2; exact (by (with_reducible repeat (first | apply Kd.R_alloc | apply Kd.R_drewN | apply Kd.R_drew)); exact (Kd.R_mono (Kd.R_far (p := ⟨gb580, 1, none⟩) (Kd.R_far (p := ⟨gb580, 0, none⟩) (Kd.R_types HO578.out BK580.out (by decide)) (fun _ hk => hk.2) (.string t575)) (fun _ hk => hk.2) (.slice Ao43 t576.length co43)) (fun _ h_ => h_.1)))); (case side2 => exact (Kd.R_reads' HO578.out).2.1); (case side3 => refine (Kd.R_reads' (e := 71) (base := w.heap.size) (ok := fun k_ => (some k_ ≠ (.slice Ao15 t566.length co15 : Value).ownBlock ∧ some k_ ≠ (.slice Ao43 t576.length co43 : Value).ownBlock)) (n := t560.length) (c := co10) ?_).2.2; exact (by (with_reducible repeat (first | apply Kd.R_alloc | apply Kd.R_drewN | apply Kd.R_drew)); exact (Kd.R_mono (Kd.R_far (p := ⟨gb580, 1, none⟩) (Kd.R_far (p := ⟨gb580, 0, none⟩) (Kd.R_types HO_565001.out BK580.out (by decide)) (fun _ hk => hk.2) (.string t575)) (fun _ hk => hk.2) (.slice Ao43 t576.length co43)) (fun _ h_ => h_.1)))); (case side4 => exact (Kd.R_reads' HO_565001.out).2.1); rintro e w57 ⟨rfl, hb⟩; refine ⟨_, rfl, ?_⟩; have n0_ := Aside0.mk (Kd.R_below (by (with_reducible repeat (first | apply Kd.R_alloc | apply Kd.R_drewN | apply Kd.R_drew)); exact (Kd.R_mono (Kd.R_far (p := ⟨gb580, 1, none⟩) (Kd.R_far (p := ⟨gb580, 0, none⟩) (Kd.R_types HO_565001.out BK580.out (by decide)) (fun _ hk => hk.2) (.string t575)) (fun _ hk => hk.2) (.slice Ao43 t576.length co43)) (fun _ h_ => h_.1))) hb); have n1_ := Aside0.mk (Kd.R_below (by (with_reducible repeat (first | apply Kd.R_alloc | apply Kd.R_drewN | apply Kd.R_drew)); exact (Kd.R_mono (Kd.R_far (p := ⟨gb580, 1, none⟩) (Kd.R_far (p := ⟨gb580, 0, none⟩) (Kd.R_types HO_571001.out BK580.out (by decide)) (fun _ hk => hk.2) (.string t575)) (fun _ hk => hk.2) (.slice Ao43 t576.length co43)) (fun _ h_ => h_.1))) hb); have n2_ := Aside0.mk (Kd.R_below (by (with_reducible repeat (first | apply Kd.R_alloc | apply Kd.R_drewN | apply Kd.R_drew)); exact (Kd.R_mono (Kd.R_far (p := ⟨gb580, 1, none⟩) (Kd.R_far (p := ⟨gb580, 0, none⟩) (Kd.R_types HO578.out BK580.out (by decide)) (fun _ hk => hk.2) (.string t575)) (fun _ hk => hk.2) (.slice Ao43 t576.length co43)) (fun _ h_ => h_.1))) hb); have n3_ := Aside0.mk (blk_below (g := gb564) (o := .cells #[.string t559, .slice Ao10 t560.length co10] 43 (0, 0)) (by (with_reducible repeat (first | refine blk_drewN ?_ _ | refine blk_drew ?_ | refine blk_alloc ?_ _)); refine blk_far ?_ NB564_580.out _; (with_reducible repeat (first | refine blk_drewN ?_ _ | refine blk_drew ?_ | refine blk_alloc ?_ _)); refine blk_far ?_ NB564_580.out _; (with_reducible repeat (first | refine blk_drewN ?_ _ | refine blk_drew ?_ | refine blk_alloc ?_ _)); exact BK564.out) hb); have n4_ := Aside0.mk (blk_below (g := gb570) (o := .cells #[.string t565, .slice Ao15 t566.length co15] 43 (0, 0)) (by (with_reducible repeat (first | refine blk_drewN ?_ _ | refine blk_drew ?_ | refine blk_alloc ?_ _)); refine blk_far ?_ NB570_580.out _; (with_reducible repeat (first | refine blk_drewN ?_ _ | refine blk_drew ?_ | refine blk_alloc ?_ _)); refine blk_far ?_ NB570_580.out _; (with_reducible repeat (first | refine blk_drewN ?_ _ | refine blk_drew ?_ | refine blk_alloc ?_ _)); exact BK570.out) hb); have n5_ := Aside0.mk (blk_below (g := gb580) (o := .cells #[.string t575, .slice Ao43 t576.length co43] 43 (0, 0)) (by (with_reducible repeat (first | refine blk_drewN ?_ _ | refine blk_drew ?_ | refine blk_alloc ?_ _)); refine blk_put (cs := #[.string t575, .slice none 0 0]) ?_ 1 _ rfl; (with_reducible repeat (first | refine blk_drewN ?_ _ | refine blk_drew ?_ | refine blk_alloc ?_ _)); refine blk_put (cs := #[.string (⟨#[]⟩ : ByteArray), .slice none 0 0]) ?_ 0 _ rfl; (with_reducible repeat (first | refine blk_drewN ?_ _ | refine blk_drew ?_ | refine blk_alloc ?_ _)); exact BK580.out) hb); have n6_ := Aside0.mk (below_step (by repeat (first | (with_reducible first | exact HB.out | apply below_alloc | apply pw_below_drewN | apply below_drew1 | refine below_set ?_ GE564.out | refine below_set ?_ GE570.out | refine below_set ?_ GE580.out) | exact HB.out)) hb); clear HO_565001; clear HO_571001; clear HO578; clear BK564; clear BK570; clear BK580; clear HB; have HO_565001 := n0_; have HO_571001 := n1_; have HO578 := n2_; have BK564 := n3_; have BK570 := n4_; have BK580 := n5_; have HB := n6_; clear n0_ n1_ n2_ n3_ n4_ n5_ n6_; (try clear hb); (try clear hb2); (try clear hk); (try clear hi)))
                  go_meet
                  case rel => exact ⟨_, (true), (by first | rfl | (simp; done) | (simp [*]; done) | (have e_ : ∀ x_ : Int, wrap64 (x_ % 256) = x_ % 256 := (fun x_ => (by unfold wrap64; omega)); simp [i64_w, IntKind.wrap_u8, e_]; done) | (simp; generalize ByteArray.toList _ = zz_; cases zz_ <;> rfl)), H', ⟨by have := HJ5.out; first | omega | exact Nat.le_refl _⟩, ⟨by (with_reducible repeat (first | apply Kd.R_alloc | apply Kd.R_drewN | apply Kd.R_drew)); exact HO_565001.out⟩, ⟨by (with_reducible repeat (first | apply Kd.R_alloc | apply Kd.R_drewN | apply Kd.R_drew)); exact HO_571001.out⟩, ⟨by (with_reducible repeat (first | apply Kd.R_alloc | apply Kd.R_drewN | apply Kd.R_drew)); exact Kd.R_mono HO578.out (fun _ hk => ⟨hk.1.2, hk.2⟩)⟩, ⟨by (with_reducible repeat (first | refine blk_drewN ?_ _ | refine blk_drew ?_ | refine blk_alloc ?_ _)); exact BK564.out⟩, ⟨by (with_reducible repeat (first | refine blk_drewN ?_ _ | refine blk_drew ?_ | refine blk_alloc ?_ _)); exact BK570.out⟩, ⟨by (with_reducible repeat (first | refine blk_drewN ?_ _ | refine blk_drew ?_ | refine blk_alloc ?_ _)); exact BK580.out⟩, ⟨by repeat (first | (with_reducible first | exact HB.out | apply below_alloc | apply pw_below_drewN | apply below_drew1 | refine below_set ?_ GE564.out | refine below_set ?_ GE570.out | refine below_set ?_ GE580.out) | exact HB.out)⟩⟩
              case rest =>
                clear HC32
                try clear c1
                try clear c2
                try clear p2
                try clear c3
                try clear c3b0
                try clear c3b1
                try clear c4
                try clear c5
                try clear p6
                try clear c11
                try clear c13
                try clear c17
                try clear c18
                try clear c22
                try clear c26
                try clear c29
                try clear c29b0
                try clear c30
                try clear c30b0
                try clear c30b1
                try clear c33
                try clear c38
                try clear c39
                try clear c40
                try clear c41
                try clear c42
                try clear c43
                try clear c45
                try clear c46
                try clear c47
                try clear c49
                try clear c52
                try clear c53
                try clear c55
                try clear hcz14_0
                try clear hcz14_1
                try clear hcz19_0
                try clear hcz19_1
                try clear hcz20_0
                try clear hcz20_1
                try clear hcz23_0
                try clear hcz23_1
                try clear hcz24_0
                try clear hcz24_1
                try clear hcz34_0
                try clear hcz34_1
                try clear hcz36_0
                try clear hcz36_1
                try clear hcz42_0
                try clear hcz42_1
                try clear hcz48_0
                try clear hcz48_1
                try clear hcz50_0
                try clear hcz50_1
                try clear hcz54_0
                try clear hcz54_1
                try clear hcz56_0
                try clear hcz56_1
                try clear hcz9_0
                try clear hcz9_1
                try clear hfz14_0
                try clear hfz14_1
                try clear hfz19_0
                try clear hfz19_1
                try clear hfz20_0
                try clear hfz20_1
                try clear hfz23_0
                try clear hfz23_1
                try clear hfz24_0
                try clear hfz24_1
                try clear hfz34_0
                try clear hfz34_1
                try clear hfz36_0
                try clear hfz36_1
                try clear hfz42_0
                try clear hfz42_1
                try clear hfz48_0
                try clear hfz48_1
                try clear hfz50_0
                try clear hfz50_1
                try clear hfz54_0
                try clear hfz54_1
                try clear hfz56_0
                try clear hfz56_1
                try clear hfz9_0
                try clear hfz9_1
                try clear p2
                try clear p6
                obtain ⟨kq, x62_31, rfl, HA, HJ31, HO_565001, HO_571001, HO_581001, BK564, BK570, BK580, HB⟩ := hcut
                have hl571001_31 := (Kd.R_reads' HO_571001.out).1
                rw [hl571001_31] at HO_571001
                (try simp only [hl571001_31])
                (try simp only [hl571001_31] at BK564)
                (try simp only [hl571001_31] at BK570)
                (try simp only [hl571001_31] at BK580)
                (try simp only [hl571001_31] at HO_565001)
                (try simp only [hl571001_31] at HO_581001)
                cases kq with
                | zero => exact absurd HA.out (by simp [laws_FnExactBare.j1])
                | succ kj31 =>
                  have H := HA.out
                  clear HA
                  simp only [laws_FnExactBare.j1] at H
                  by_cases c58 : x62_31 = true
                  · subst c58
                    have H1 : (some false) = some r := by rw [if_pos rfl] at H; exact H
                    clear H
                    have H := H1
                    clear H1
                    obtain rfl := Option.some.inj H
                    exact absurd hr_ (by simp)
                  · replace c58 := Bool.eq_false_iff.mpr c58
                    subst c58
                    have H1 : ((laws_heldMsg.f kj31 t565 t573 1).bind fun t582 => (if t582 < 0 then (some false) else (if t582 = t572 then (some true) else (some false)))) = some r := by rw [if_neg (show ¬ (false = true) by decide)] at H; exact H
                    clear H
                    have H := H1
                    clear H1
                    replace H := Option.bind_eq_some_iff.mp H
                    obtain ⟨t582, A590, H⟩ := H
                    replace H : (if t582 < 0 then (some false) else (if t582 = t572 then (some true) else (some false))) = some r := H
                    have A59 := Aside0.mk A590
                    clear A590
                    by_cases c60 : t582 < 0
                    · rw [if_pos c60] at H
                      have c60b0 : decide (t582 < 0) = true := decide_eq_true c60
                      clear c60
                      obtain rfl := Option.some.inj H
                      exact absurd hr_ (by simp)
                    · rw [if_neg c60] at H
                      have c60b0 : decide (t582 < 0) = false := decide_eq_false c60
                      clear c60
                      by_cases c61 : t582 = t572
                      · rw [if_pos c61] at H
                        have c61b0 : (t582 == t572) = true := beq_iff_eq.mpr c61
                        have c61b1 : (t582 != t572) = false := bne_eq_false_iff_eq.mpr c61
                        clear c61
                        obtain rfl := Option.some.inj H
                        have hnb62 := NB570_564.out
                        have hnc62 := NB564_570.out
                        have hnb63 := NB570_580.out
                        have hnc63 := NB580_570.out
                        have hcz64_0 : wc.cell? ⟨gb570, 0, none⟩ = some (.string t565) := (blk_cell BK570.out 0).trans rfl
                        have hcz64_1 : wc.cell? ⟨gb570, 1, none⟩ = some (.slice Ao15 t573.length co15) := (blk_cell BK570.out 1).trans rfl
                        have hfz64_0 := blk_frozen BK570.out 0
                        have hfz64_1 := blk_frozen BK570.out 1
                        go_wp2_with (first | ((with_reducible refine gate_callee (f := 39) rfl ?_); refine goesL_ (some 65) rfl rfl Try.func39 (by kernel_rfl) rfl #[.agg #[.string t565, .slice Ao15 t573.length co15], .int .i64 1] rfl (by (try simp only [List.map_toArray, List.map_cons, List.map_nil]); first | done | rfl | (simp only [List.length_drop, List.length_take]; rfl)) ?_; (with_reducible refine (laws_heldMsg.calls kj31 t565 _ _ t573 1 t582 _ ?side1 ?side2 A59.out).mono ?_); (case side1 => repeat (first | exact (Kd.R_reads' HO_571001.out).2.2 | (with_reducible refine Kd.C_alloc ?_ _) | (with_reducible refine Kd.C_drewN ?_ _) | (with_reducible refine Kd.C_drew ?_))); (case side2 => exact (Kd.R_reads' HO_571001.out).2.1); rintro e w65 ⟨rfl, hb⟩; refine ⟨_, rfl, ?_⟩; have n0_ := Aside0.mk (Kd.R_below (by (with_reducible repeat (first | apply Kd.R_alloc | apply Kd.R_drewN | apply Kd.R_drew)); exact HO_565001.out) hb); have n1_ := Aside0.mk (Kd.R_below (by (with_reducible repeat (first | apply Kd.R_alloc | apply Kd.R_drewN | apply Kd.R_drew)); exact HO_571001.out) hb); have n2_ := Aside0.mk (Kd.R_below (by (with_reducible repeat (first | apply Kd.R_alloc | apply Kd.R_drewN | apply Kd.R_drew)); exact HO_581001.out) hb); have n3_ := Aside0.mk (blk_below (g := gb564) (o := .cells #[.string t559, .slice Ao10 t560.length co10] 43 (0, 0)) (by (with_reducible repeat (first | refine blk_drewN ?_ _ | refine blk_drew ?_ | refine blk_alloc ?_ _)); exact BK564.out) hb); have n4_ := Aside0.mk (blk_below (g := gb570) (o := .cells #[.string t565, .slice Ao15 t573.length co15] 43 (0, 0)) (by (with_reducible repeat (first | refine blk_drewN ?_ _ | refine blk_drew ?_ | refine blk_alloc ?_ _)); exact BK570.out) hb); have n5_ := Aside0.mk (blk_below (g := gb580) (o := .cells #[.string t575, .slice Ao43 t576.length co43] 43 (0, 0)) (by (with_reducible repeat (first | refine blk_drewN ?_ _ | refine blk_drew ?_ | refine blk_alloc ?_ _)); exact BK580.out) hb); have n6_ := Aside0.mk (below_step (by repeat (first | (with_reducible first | exact HB.out | apply below_alloc | apply pw_below_drewN | apply below_drew1 | refine below_set ?_ GE564.out | refine below_set ?_ GE570.out | refine below_set ?_ GE580.out) | exact HB.out)) hb); clear HO_565001; clear HO_571001; clear HO_581001; clear BK564; clear BK570; clear BK580; clear HB; have HO_565001 := n0_; have HO_571001 := n1_; have HO_581001 := n2_; have BK564 := n3_; have BK570 := n4_; have BK580 := n5_; have HB := n6_; clear n0_ n1_ n2_ n3_ n4_ n5_ n6_; (try clear hb); (try clear hb2); (try clear hk); (try clear hi)))
                        go_ret
                        exact ⟨by first | rfl | (simp [errW_none, errW_some] <;> rfl) | (simp [*, errW_none, errW_some] <;> rfl), by repeat (first | (with_reducible first | exact HB.out | apply below_alloc | apply pw_below_drewN | apply below_drew1 | refine below_set ?_ GE564.out | refine below_set ?_ GE570.out | refine below_set ?_ GE580.out) | exact HB.out)⟩
                      · rw [if_neg c61] at H
                        have c61b0 : (t582 == t572) = false := beq_eq_false_iff_ne.mpr c61
                        have c61b1 : (t582 != t572) = true := bne_iff_ne.mpr c61
                        obtain rfl := Option.some.inj H
                        exact absurd hr_ (by simp)
            · rw [if_neg c30] at H
              have c30b0 : (t574 == t572) = false := beq_eq_false_iff_ne.mpr c30
              have c30b1 : (t574 != t572) = true := bne_iff_ne.mpr c30
              obtain rfl := Option.some.inj H
              exact absurd hr_ (by simp)

end Go.Proofs.Ytnhejdelcopphaa.Q
