/- Texts for FnExactWithField, packed by a program of this session (wip/pack.py), part 4 of 5: the print's words that are used, the printed walks, the plain laws, the row; no condition. -/
import Derived.Test.YtdcbpnhbbglbhaaMgFnExactWithField3
import Derived.WalkKit
import Derived.ProofKit
import Derived.Deep.Slices
section
namespace Go.Proofs.Ytdcbpnhbbglbhaa.Q
open Go.RowKit Go.Proofs.YtdcbpnhbbglbhaaW.PrintWords Go.Proofs.YtdcbpnhbbglbhaaW.PrintLast Go.Proofs.YtdcbpnhbbglbhaaW.PrintMore
attribute [local go_sem] max2_int min2_int max_two min_two max_three min_three max_four min_four
set_option linter.unusedVariables false
set_option linter.unusedSimpArgs false
mutual
def laws_FnExactWithField.j0 : Nat → Int → ByteArray → Bool → Bool → Bool → ByteArray → List (S95) → ByteArray → List (S58) → ByteArray → List (S58) → ByteArray → List (S58) → Option (Bool)
 | 0, _, _, _, _, _, _, _, _, _, _, _, _, _ => none
 | k + 1, x1, x2, x9, x12, x51, x389000, x389001, x400000, x400001, x405000, x405001, x411000, x411001 => if x51 = true then (some false) else ((laws_toMsg.f k x389000 x389001).bind fun bt412 => ((laws_eqMsg.f k x405000 x405001 bt412.1 bt412.2).bind fun t416 => (if t416 = true then ((laws_markMsg.f k x405000 x405001 1).bind fun bt417 => (if bt417.1 < 0 then (laws_FnExactWithField.j1 k x1 x2 x9 true x389000 x389001 x400000 x400001 x411000 x411001) else ((laws_eqMsg.f k x411000 x411001 x400000 x400001).bind fun t419 => (if t419 = true then (laws_FnExactWithField.j1 k x1 x2 x9 (x12 != x9) x389000 x389001 x400000 x400001 x411000 x411001) else (laws_FnExactWithField.j1 k x1 x2 x9 true x389000 x389001 x400000 x400001 x411000 x411001))))) else (some false))))
def laws_FnExactWithField.j1 : Nat → Int → ByteArray → Bool → Bool → ByteArray → List (S95) → ByteArray → List (S58) → ByteArray → List (S58) → Option (Bool)
 | 0, _, _, _, _, _, _, _, _, _, _ => none
 | k + 1, x1, x2, x9, x72, x389000, x389001, x400000, x400001, x411000, x411001 => if x72 = true then (some false) else ((laws_markMsg.f k x411000 x411001 1).bind fun bt420 => ((laws_heldMsg.f k x411000 bt420.2 1).bind fun t422 => (if t422 < 0 then (some false) else (if t422 = bt420.1 then ((laws_toMsg.f k x389000 x389001).bind fun bt423 => ((impl_WithField.f k bt423.1 bt423.2 x1 x2).bind fun bt427 => ((laws_eqMsg.f k bt427.1 bt427.2.1 x400000 x400001).bind fun t433 => (if t433 = true then (laws_FnExactWithField.j2 k bt420.1 (bt427.2.2 != x9) x411000 bt420.2) else (laws_FnExactWithField.j2 k bt420.1 true x411000 bt420.2))))) else (some false)))))
def laws_FnExactWithField.j2 : Nat → Int → Bool → ByteArray → List (S58) → Option (Bool)
 | 0, _, _, _, _ => none
 | k + 1, x14, x100, x411000, x411001 => if x100 = true then (some false) else ((laws_heldMsg.f k x411000 x411001 1).bind fun t434 => (if t434 < 0 then (some false) else (if t434 = x14 then (some true) else (some false))))
end
def laws_FnExactWithField.f (k : Nat) (a0_0 : ByteArray) (l0_1 : List (S95)) (a1 : Int) (a2 : ByteArray) : Option (Bool) := if (a2.size : Int) > 1048576 then (some true) else ((laws_szMsg.f k a0_0 l0_1 1048576).bind fun t389 => (if t389 < 0 then (some true) else ((laws_toMsg.f k a0_0 l0_1).bind fun bt390 => ((spec_WithField.f k bt390.1 bt390.2 a1 a2).bind fun bt394 => ((laws_toMsg.f k a0_0 l0_1).bind fun bt400 => ((impl_WithField.f k bt400.1 bt400.2 a1 a2).bind fun bt405 => ((laws_eqMsg.f k bt405.1 bt405.2.1 bt394.1 bt394.2.1).bind fun t411 => (if t411 = true then (laws_FnExactWithField.j0 k a1 a2 bt394.2.2 bt405.2.2 (bt405.2.2 != bt394.2.2) a0_0 l0_1 bt394.1 bt394.2.1 bt400.1 bt400.2 bt405.1 bt405.2.1) else (laws_FnExactWithField.j0 k a1 a2 bt394.2.2 bt405.2.2 true a0_0 l0_1 bt394.1 bt394.2.1 bt400.1 bt400.2 bt405.1 bt405.2.1)))))))))
theorem laws_FnExactWithField.mono_l : ∀ k, (∀ y0 y1 y2 y3 y4 y5 y6 y7 y8 y9 y10 y11 y12, LeO (laws_FnExactWithField.j0 k y0 y1 y2 y3 y4 y5 y6 y7 y8 y9 y10 y11 y12) (laws_FnExactWithField.j0 (k + 1) y0 y1 y2 y3 y4 y5 y6 y7 y8 y9 y10 y11 y12)) ∧ (∀ y0 y1 y2 y3 y4 y5 y6 y7 y8 y9, LeO (laws_FnExactWithField.j1 k y0 y1 y2 y3 y4 y5 y6 y7 y8 y9) (laws_FnExactWithField.j1 (k + 1) y0 y1 y2 y3 y4 y5 y6 y7 y8 y9)) ∧ (∀ y0 y1 y2 y3, LeO (laws_FnExactWithField.j2 k y0 y1 y2 y3) (laws_FnExactWithField.j2 (k + 1) y0 y1 y2 y3))
 | 0 => ⟨fun _ _ _ _ _ _ _ _ _ _ _ _ _ r h => by simp [laws_FnExactWithField.j0] at h, fun _ _ _ _ _ _ _ _ _ _ r h => by simp [laws_FnExactWithField.j1] at h, fun _ _ _ _ r h => by simp [laws_FnExactWithField.j2] at h⟩
 | k + 1 => by
  obtain ⟨ih0, ih1, ih2⟩ := laws_FnExactWithField.mono_l k
  refine ⟨?_, ?_, ?_⟩
  ·intro y0 y1 y2 y3 y4 y5 y6 y7 y8 y9 y10 y11 y12
   unfold laws_FnExactWithField.j0
   repeat' first
   | (with_reducible exact ih0 _ _ _ _ _ _ _ _ _ _ _ _ _)
   | (with_reducible exact ih1 _ _ _ _ _ _ _ _ _ _)
   | (with_reducible exact ih2 _ _ _ _)
   | (with_reducible exact impl_WithField.mono _ _ _ _ _)
   | (with_reducible exact laws_eqMsg.mono _ _ _ _ _)
   | (with_reducible exact laws_heldMsg.mono _ _ _ _)
   | (with_reducible exact laws_markMsg.mono _ _ _ _)
   | (with_reducible exact laws_szMsg.mono _ _ _ _)
   | (with_reducible exact laws_toMsg.mono _ _ _)
   | (with_reducible exact spec_WithField.mono _ _ _ _ _)
   | (with_reducible exact LeO.refl _)
   | (with_reducible exact LeO.none _)
   | (with_reducible refine LeO.ite ?_ ?_)
   | (with_reducible refine LeO.bind ?_ (fun _ => ?_))
   | exact ih0 _ _ _ _ _ _ _ _ _ _ _ _ _
   | exact ih1 _ _ _ _ _ _ _ _ _ _
   | exact ih2 _ _ _ _
   | exact impl_WithField.mono _ _ _ _ _
   | exact laws_eqMsg.mono _ _ _ _ _
   | exact laws_heldMsg.mono _ _ _ _
   | exact laws_markMsg.mono _ _ _ _
   | exact laws_szMsg.mono _ _ _ _
   | exact laws_toMsg.mono _ _ _
   | exact spec_WithField.mono _ _ _ _ _
   | exact LeO.none _
   | refine LeO.ite ?_ ?_
   | refine LeO.bind ?_ (fun _ => ?_)
  ·intro y0 y1 y2 y3 y4 y5 y6 y7 y8 y9
   unfold laws_FnExactWithField.j1
   repeat' first
   | (with_reducible exact ih0 _ _ _ _ _ _ _ _ _ _ _ _ _)
   | (with_reducible exact ih1 _ _ _ _ _ _ _ _ _ _)
   | (with_reducible exact ih2 _ _ _ _)
   | (with_reducible exact impl_WithField.mono _ _ _ _ _)
   | (with_reducible exact laws_eqMsg.mono _ _ _ _ _)
   | (with_reducible exact laws_heldMsg.mono _ _ _ _)
   | (with_reducible exact laws_markMsg.mono _ _ _ _)
   | (with_reducible exact laws_szMsg.mono _ _ _ _)
   | (with_reducible exact laws_toMsg.mono _ _ _)
   | (with_reducible exact spec_WithField.mono _ _ _ _ _)
   | (with_reducible exact LeO.refl _)
   | (with_reducible exact LeO.none _)
   | (with_reducible refine LeO.ite ?_ ?_)
   | (with_reducible refine LeO.bind ?_ (fun _ => ?_))
   | exact ih0 _ _ _ _ _ _ _ _ _ _ _ _ _
   | exact ih1 _ _ _ _ _ _ _ _ _ _
   | exact ih2 _ _ _ _
   | exact impl_WithField.mono _ _ _ _ _
   | exact laws_eqMsg.mono _ _ _ _ _
   | exact laws_heldMsg.mono _ _ _ _
   | exact laws_markMsg.mono _ _ _ _
   | exact laws_szMsg.mono _ _ _ _
   | exact laws_toMsg.mono _ _ _
   | exact spec_WithField.mono _ _ _ _ _
   | exact LeO.none _
   | refine LeO.ite ?_ ?_
   | refine LeO.bind ?_ (fun _ => ?_)
  ·intro y0 y1 y2 y3
   unfold laws_FnExactWithField.j2
   repeat' first
   | (with_reducible exact ih0 _ _ _ _ _ _ _ _ _ _ _ _ _)
   | (with_reducible exact ih1 _ _ _ _ _ _ _ _ _ _)
   | (with_reducible exact ih2 _ _ _ _)
   | (with_reducible exact impl_WithField.mono _ _ _ _ _)
   | (with_reducible exact laws_eqMsg.mono _ _ _ _ _)
   | (with_reducible exact laws_heldMsg.mono _ _ _ _)
   | (with_reducible exact laws_markMsg.mono _ _ _ _)
   | (with_reducible exact laws_szMsg.mono _ _ _ _)
   | (with_reducible exact laws_toMsg.mono _ _ _)
   | (with_reducible exact spec_WithField.mono _ _ _ _ _)
   | (with_reducible exact LeO.refl _)
   | (with_reducible exact LeO.none _)
   | (with_reducible refine LeO.ite ?_ ?_)
   | (with_reducible refine LeO.bind ?_ (fun _ => ?_))
   | exact ih0 _ _ _ _ _ _ _ _ _ _ _ _ _
   | exact ih1 _ _ _ _ _ _ _ _ _ _
   | exact ih2 _ _ _ _
   | exact impl_WithField.mono _ _ _ _ _
   | exact laws_eqMsg.mono _ _ _ _ _
   | exact laws_heldMsg.mono _ _ _ _
   | exact laws_markMsg.mono _ _ _ _
   | exact laws_szMsg.mono _ _ _ _
   | exact laws_toMsg.mono _ _ _
   | exact spec_WithField.mono _ _ _ _ _
   | exact LeO.none _
   | refine LeO.ite ?_ ?_
   | refine LeO.bind ?_ (fun _ => ?_)
theorem laws_FnExactWithField.mono : ∀ a0 a1 a2 a3 k, LeO (laws_FnExactWithField.f k a0 a1 a2 a3) (laws_FnExactWithField.f (k + 1) a0 a1 a2 a3) := by
 intro a0 a1 a2 a3 k
 obtain ⟨ih0, ih1, ih2⟩ := laws_FnExactWithField.mono_l k
 unfold laws_FnExactWithField.f
 repeat' first
   | (with_reducible exact ih0 _ _ _ _ _ _ _ _ _ _ _ _ _)
   | (with_reducible exact ih1 _ _ _ _ _ _ _ _ _ _)
   | (with_reducible exact ih2 _ _ _ _)
   | (with_reducible exact impl_WithField.mono _ _ _ _ _)
   | (with_reducible exact laws_eqMsg.mono _ _ _ _ _)
   | (with_reducible exact laws_heldMsg.mono _ _ _ _)
   | (with_reducible exact laws_markMsg.mono _ _ _ _)
   | (with_reducible exact laws_szMsg.mono _ _ _ _)
   | (with_reducible exact laws_toMsg.mono _ _ _)
   | (with_reducible exact spec_WithField.mono _ _ _ _ _)
   | (with_reducible exact LeO.refl _)
   | (with_reducible exact LeO.none _)
   | (with_reducible refine LeO.ite ?_ ?_)
   | (with_reducible refine LeO.bind ?_ (fun _ => ?_))
   | exact ih0 _ _ _ _ _ _ _ _ _ _ _ _ _
   | exact ih1 _ _ _ _ _ _ _ _ _ _
   | exact ih2 _ _ _ _
   | exact impl_WithField.mono _ _ _ _ _
   | exact laws_eqMsg.mono _ _ _ _ _
   | exact laws_heldMsg.mono _ _ _ _
   | exact laws_markMsg.mono _ _ _ _
   | exact laws_szMsg.mono _ _ _ _
   | exact laws_toMsg.mono _ _ _
   | exact spec_WithField.mono _ _ _ _ _
   | exact LeO.none _
   | refine LeO.ite ?_ ?_
   | refine LeO.bind ?_ (fun _ => ?_)
set_option maxHeartbeats 8000000 in
set_option maxRecDepth 100000 in
theorem laws_FnExactWithField.calls (k : Nat) (a0_0 : ByteArray) (A0_1 : Option Addr) (c0_1 : Nat) (l0_1 : List (S95)) (a1 : Int) (a2 : ByteArray) (r : Bool) (w : World) (hr0_1 : Kd.C k95 w A0_1 l0_1.length l0_1) (hc0_1 : l0_1.length ≤ c0_1) (hr_ : r = true) (h : laws_FnExactWithField.f k a0_0 l0_1 a1 a2 = some r) :
  Calls Try.prog 5 #[.agg #[.string a0_0, .slice A0_1 l0_1.length c0_1], .int .i64 a1, .string a2] w fun e w' => e = .returned (.bool r) ∧ Below w.heap.size w w' := by
 have hu41 := Try.underlying41
 have hu27 := Try.underlying27
 have HR0_1 := Aside0.mk hr0_1
 have HC0_1 := Aside0.mk hc0_1
 clear hr0_1 hc0_1
 have HB := Aside0.mk (Below.refl w.heap.size w)
 have H : (if (a2.size : Int) > 1048576 then (some true) else ((laws_szMsg.f k a0_0 l0_1 1048576).bind fun t389 => (if t389 < 0 then (some true) else ((laws_toMsg.f k a0_0 l0_1).bind fun bt390 => ((spec_WithField.f k bt390.1 bt390.2 a1 a2).bind fun bt394 => ((laws_toMsg.f k a0_0 l0_1).bind fun bt400 => ((impl_WithField.f k bt400.1 bt400.2 a1 a2).bind fun bt405 => ((laws_eqMsg.f k bt405.1 bt405.2.1 bt394.1 bt394.2.1).bind fun t411 => (if t411 = true then (laws_FnExactWithField.j0 k a1 a2 bt394.2.2 bt405.2.2 (bt405.2.2 != bt394.2.2) a0_0 l0_1 bt394.1 bt394.2.1 bt400.1 bt400.2 bt405.1 bt405.2.1) else (laws_FnExactWithField.j0 k a1 a2 bt394.2.2 bt405.2.2 true a0_0 l0_1 bt394.1 bt394.2.1 bt400.1 bt400.2 bt405.1 bt405.2.1)))))))))) = some r := h
 clear h
 by_cases c4 : (a2.size : Int) > 1048576
 ·rw [if_pos c4] at H
  have c4b0 : decide (1048576 < (a2.size : Int)) = true := decide_eq_true c4
  have c4b1 : decide (1048576 < a2.size) = true := decide_eq_true (by omega)
  clear c4
  obtain rfl := Option.some.inj H
  go_enter Try.func5, Try.ntmps5
  go_wp2_with (first | ((with_reducible refine gate_dst (N := 3) rfl ?_); refine box_event ?hg (N := 3) ?hd (cs := #[.string a0_0, .slice A0_1 l0_1.length c0_1]) (t := 41) ?hr ?_; (case hd => rfl); (case hg => rfl); (case hr => first | (go_simp; done) | (go_simp; rfl)); intro gb388 hg w5 hbox hb; have n0_ := Aside0.mk (below_step (by repeat (first | (with_reducible first | exact HB.out | apply below_alloc | apply pw_below_drewN | apply below_drew1) | exact HB.out)) hb); have n1_ := Aside0.mk (hbox); have n2_ := Aside0.mk ((by rw [hg]; exact (below_size (by repeat (first | (with_reducible first | exact HB.out | apply below_alloc | apply pw_below_drewN | apply below_drew1) | exact HB.out))) : w.heap.size ≤ gb388)); have n3_ := Aside0.mk ((by rw [hg]; exact (below_size (by repeat (first | (with_reducible first | exact HB.out | apply below_alloc | apply pw_below_drewN | apply below_drew1) | exact HB.out))) : w.heap.size ≤ gb388)); clear HB; have HB := n0_; have BK388 := n1_; have GW388 := n2_; have GE388 := n3_; clear n0_ n1_ n2_ n3_; clear hb hbox hg))
  go_ret
  exact ⟨by first | rfl | (simp [errW_none, errW_some] <;> rfl) | (simp [*, errW_none, errW_some] <;> rfl), by repeat (first | (with_reducible first | exact HB.out | apply below_alloc | apply pw_below_drewN | apply below_drew1 | refine below_set ?_ GE388.out) | exact HB.out)⟩
 ·rw [if_neg c4] at H
  have c4b0 : decide (1048576 < (a2.size : Int)) = false := decide_eq_false c4
  have c4b1 : decide (1048576 < a2.size) = false := decide_eq_false (by omega)
  clear c4
  replace H := Option.bind_eq_some_iff.mp H
  obtain ⟨t389, A60, H⟩ := H
  replace H : (if t389 < 0 then (some true) else ((laws_toMsg.f k a0_0 l0_1).bind fun bt390 => ((spec_WithField.f k bt390.1 bt390.2 a1 a2).bind fun bt394 => ((laws_toMsg.f k a0_0 l0_1).bind fun bt400 => ((impl_WithField.f k bt400.1 bt400.2 a1 a2).bind fun bt405 => ((laws_eqMsg.f k bt405.1 bt405.2.1 bt394.1 bt394.2.1).bind fun t411 => (if t411 = true then (laws_FnExactWithField.j0 k a1 a2 bt394.2.2 bt405.2.2 (bt405.2.2 != bt394.2.2) a0_0 l0_1 bt394.1 bt394.2.1 bt400.1 bt400.2 bt405.1 bt405.2.1) else (laws_FnExactWithField.j0 k a1 a2 bt394.2.2 bt405.2.2 true a0_0 l0_1 bt394.1 bt394.2.1 bt400.1 bt400.2 bt405.1 bt405.2.1)))))))) = some r := H
  have A6 := Aside0.mk A60
  clear A60
  by_cases c7 : t389 < 0
  ·rw [if_pos c7] at H
   have c7b0 : decide (t389 < 0) = true := decide_eq_true c7
   clear c7
   obtain rfl := Option.some.inj H
   go_enter Try.func5, Try.ntmps5
   go_wp2_with (first | ((with_reducible refine gate_dst (N := 3) rfl ?_); refine box_event ?hg (N := 3) ?hd (cs := #[.string a0_0, .slice A0_1 l0_1.length c0_1]) (t := 41) ?hr ?_; (case hd => rfl); (case hg => rfl); (case hr => first | (go_simp; done) | (go_simp; rfl)); intro gb388 hg w8 hbox hb; have n0_ := Aside0.mk (below_step (by repeat (first | (with_reducible first | exact HB.out | apply below_alloc | apply pw_below_drewN | apply below_drew1) | exact HB.out)) hb); have n1_ := Aside0.mk (hbox); have n2_ := Aside0.mk ((by rw [hg]; exact (below_size (by repeat (first | (with_reducible first | exact HB.out | apply below_alloc | apply pw_below_drewN | apply below_drew1) | exact HB.out))) : w.heap.size ≤ gb388)); have n3_ := Aside0.mk ((by rw [hg]; exact (below_size (by repeat (first | (with_reducible first | exact HB.out | apply below_alloc | apply pw_below_drewN | apply below_drew1) | exact HB.out))) : w.heap.size ≤ gb388)); clear HB; have HB := n0_; have BK388 := n1_; have GW388 := n2_; have GE388 := n3_; clear n0_ n1_ n2_ n3_; clear hb hbox hg; have hcz9_0 : w8.cell? ⟨gb388, 0, none⟩ = some (.string a0_0) := (blk_cell BK388.out 0).trans rfl; have hcz9_1 : w8.cell? ⟨gb388, 1, none⟩ = some (.slice A0_1 l0_1.length c0_1) := (blk_cell BK388.out 1).trans rfl; have hfz9_0 := blk_frozen BK388.out 0; have hfz9_1 := blk_frozen BK388.out 1) | ((with_reducible refine gate_callee (f := 16) rfl ?_); refine goesL_ (some 23) rfl rfl Try.func16 (by kernel_rfl) rfl #[.agg #[.string a0_0, .slice A0_1 l0_1.length c0_1], .int .i64 1048576] rfl (by (try simp only [List.map_toArray, List.map_cons, List.map_nil]); first | done | rfl | (simp only [List.length_drop, List.length_take]; rfl)) ?_; (with_reducible refine (laws_szMsg.calls k a0_0 _ _ l0_1 1048576 t389 _ ?side1 ?side2 A6.out).mono ?_); (case side1 => repeat (first | exact (Kd.C_below HR0_1.out HB.out) | (with_reducible refine Kd.C_alloc ?_ _) | (with_reducible refine Kd.C_drewN ?_ _) | (with_reducible refine Kd.C_drew ?_))); (case side2 => exact HC0_1.out); rintro e w10 ⟨rfl, hb⟩; refine ⟨_, rfl, ?_⟩; have n0_ := Aside0.mk (blk_below (g := gb388) (o := .cells #[.string a0_0, .slice A0_1 l0_1.length c0_1] 41 (0, 0)) (by (with_reducible repeat (first | refine blk_drewN ?_ _ | refine blk_drew ?_ | refine blk_alloc ?_ _)); exact BK388.out) hb); have n1_ := Aside0.mk (below_step (by repeat (first | (with_reducible first | exact HB.out | apply below_alloc | apply pw_below_drewN | apply below_drew1 | refine below_set ?_ GE388.out) | exact HB.out)) hb); clear BK388; clear HB; have BK388 := n0_; have HB := n1_; clear n0_ n1_; (try clear hb); (try clear hb2); (try clear hk); (try clear hi)))
   go_ret
   exact ⟨by first | rfl | (simp [errW_none, errW_some] <;> rfl) | (simp [*, errW_none, errW_some] <;> rfl), by repeat (first | (with_reducible first | exact HB.out | apply below_alloc | apply pw_below_drewN | apply below_drew1 | refine below_set ?_ GE388.out) | exact HB.out)⟩
  ·rw [if_neg c7] at H
   have c7b0 : decide (t389 < 0) = false := decide_eq_false c7
   clear c7
   replace H := Option.bind_eq_some_iff.mp H
   obtain ⟨⟨t390, t391⟩, A110, H⟩ := H
   replace H : ((spec_WithField.f k t390 t391 a1 a2).bind fun bt394 => ((laws_toMsg.f k a0_0 l0_1).bind fun bt400 => ((impl_WithField.f k bt400.1 bt400.2 a1 a2).bind fun bt405 => ((laws_eqMsg.f k bt405.1 bt405.2.1 bt394.1 bt394.2.1).bind fun t411 => (if t411 = true then (laws_FnExactWithField.j0 k a1 a2 bt394.2.2 bt405.2.2 (bt405.2.2 != bt394.2.2) a0_0 l0_1 bt394.1 bt394.2.1 bt400.1 bt400.2 bt405.1 bt405.2.1) else (laws_FnExactWithField.j0 k a1 a2 bt394.2.2 bt405.2.2 true a0_0 l0_1 bt394.1 bt394.2.1 bt400.1 bt400.2 bt405.1 bt405.2.1)))))) = some r := H
   have A11 := Aside0.mk A110
   clear A110
   replace H := Option.bind_eq_some_iff.mp H
   obtain ⟨⟨t394, t395, t398⟩, A120, H⟩ := H
   replace H : ((laws_toMsg.f k a0_0 l0_1).bind fun bt400 => ((impl_WithField.f k bt400.1 bt400.2 a1 a2).bind fun bt405 => ((laws_eqMsg.f k bt405.1 bt405.2.1 t394 t395).bind fun t411 => (if t411 = true then (laws_FnExactWithField.j0 k a1 a2 t398 bt405.2.2 (bt405.2.2 != t398) a0_0 l0_1 t394 t395 bt400.1 bt400.2 bt405.1 bt405.2.1) else (laws_FnExactWithField.j0 k a1 a2 t398 bt405.2.2 true a0_0 l0_1 t394 t395 bt400.1 bt400.2 bt405.1 bt405.2.1))))) = some r := H
   have A12 := Aside0.mk A120
   clear A120
   replace H := Option.bind_eq_some_iff.mp H
   obtain ⟨⟨t400, t401⟩, A130, H⟩ := H
   replace H : ((impl_WithField.f k t400 t401 a1 a2).bind fun bt405 => ((laws_eqMsg.f k bt405.1 bt405.2.1 t394 t395).bind fun t411 => (if t411 = true then (laws_FnExactWithField.j0 k a1 a2 t398 bt405.2.2 (bt405.2.2 != t398) a0_0 l0_1 t394 t395 t400 t401 bt405.1 bt405.2.1) else (laws_FnExactWithField.j0 k a1 a2 t398 bt405.2.2 true a0_0 l0_1 t394 t395 t400 t401 bt405.1 bt405.2.1)))) = some r := H
   have A13 := Aside0.mk A130
   clear A130
   replace H := Option.bind_eq_some_iff.mp H
   obtain ⟨⟨t405, t406, t409⟩, A140, H⟩ := H
   replace H : ((laws_eqMsg.f k t405 t406 t394 t395).bind fun t411 => (if t411 = true then (laws_FnExactWithField.j0 k a1 a2 t398 t409 (t409 != t398) a0_0 l0_1 t394 t395 t400 t401 t405 t406) else (laws_FnExactWithField.j0 k a1 a2 t398 t409 true a0_0 l0_1 t394 t395 t400 t401 t405 t406))) = some r := H
   have A14 := Aside0.mk A140
   clear A140
   have HC15 := Aside0.mk H
   clear H
   go_enter Try.func5, Try.ntmps5
   go_upto_region 10 with (first | ((with_reducible refine gate_dst (N := 3) rfl ?_); refine box_event ?hg (N := 3) ?hd (cs := #[.string a0_0, .slice A0_1 l0_1.length c0_1]) (t := 41) ?hr ?_; (case hd => rfl); (case hg => rfl); (case hr => first | (go_simp; done) | (go_simp; rfl)); intro gb388 hg w16 hbox hb; have n0_ := Aside0.mk (below_step (by repeat (first | (with_reducible first | exact HB.out | apply below_alloc | apply pw_below_drewN | apply below_drew1) | exact HB.out)) hb); have n1_ := Aside0.mk (hbox); have n2_ := Aside0.mk ((by rw [hg]; exact (below_size (by repeat (first | (with_reducible first | exact HB.out | apply below_alloc | apply pw_below_drewN | apply below_drew1) | exact HB.out))) : w.heap.size ≤ gb388)); have n3_ := Aside0.mk ((by rw [hg]; exact (below_size (by repeat (first | (with_reducible first | exact HB.out | apply below_alloc | apply pw_below_drewN | apply below_drew1) | exact HB.out))) : w.heap.size ≤ gb388)); clear HB; have HB := n0_; have BK388 := n1_; have GW388 := n2_; have GE388 := n3_; clear n0_ n1_ n2_ n3_; clear hb hbox hg; have hcz17_0 : w16.cell? ⟨gb388, 0, none⟩ = some (.string a0_0) := (blk_cell BK388.out 0).trans rfl; have hcz17_1 : w16.cell? ⟨gb388, 1, none⟩ = some (.slice A0_1 l0_1.length c0_1) := (blk_cell BK388.out 1).trans rfl; have hfz17_0 := blk_frozen BK388.out 0; have hfz17_1 := blk_frozen BK388.out 1) | ((with_reducible refine gate_callee (f := 16) rfl ?_); refine goesL_ (some 23) rfl rfl Try.func16 (by kernel_rfl) rfl #[.agg #[.string a0_0, .slice A0_1 l0_1.length c0_1], .int .i64 1048576] rfl (by (try simp only [List.map_toArray, List.map_cons, List.map_nil]); first | done | rfl | (simp only [List.length_drop, List.length_take]; rfl)) ?_; (with_reducible refine (laws_szMsg.calls k a0_0 _ _ l0_1 1048576 t389 _ ?side1 ?side2 A6.out).mono ?_); (case side1 => repeat (first | exact (Kd.C_below HR0_1.out HB.out) | (with_reducible refine Kd.C_alloc ?_ _) | (with_reducible refine Kd.C_drewN ?_ _) | (with_reducible refine Kd.C_drew ?_))); (case side2 => exact HC0_1.out); rintro e w18 ⟨rfl, hb⟩; refine ⟨_, rfl, ?_⟩; have n0_ := Aside0.mk (blk_below (g := gb388) (o := .cells #[.string a0_0, .slice A0_1 l0_1.length c0_1] 41 (0, 0)) (by (with_reducible repeat (first | refine blk_drewN ?_ _ | refine blk_drew ?_ | refine blk_alloc ?_ _)); exact BK388.out) hb); have n1_ := Aside0.mk (below_step (by repeat (first | (with_reducible first | exact HB.out | apply below_alloc | apply pw_below_drewN | apply below_drew1 | refine below_set ?_ GE388.out) | exact HB.out)) hb); clear BK388; clear HB; have BK388 := n0_; have HB := n1_; clear n0_ n1_; (try clear hb); (try clear hb2); (try clear hk); (try clear hi); have hcz19_0 : w18.cell? ⟨gb388, 0, none⟩ = some (.string a0_0) := (blk_cell BK388.out 0).trans rfl; have hcz19_1 : w18.cell? ⟨gb388, 1, none⟩ = some (.slice A0_1 l0_1.length c0_1) := (blk_cell BK388.out 1).trans rfl; have hfz19_0 := blk_frozen BK388.out 0; have hfz19_1 := blk_frozen BK388.out 1) | ((with_reducible refine gate_callee (f := 18) rfl ?_); refine goesL_ (some 28) rfl rfl Try.func18 (by kernel_rfl) rfl #[.agg #[.string a0_0, .slice A0_1 l0_1.length c0_1]] rfl (by (try simp only [List.map_toArray, List.map_cons, List.map_nil]); first | done | rfl | (simp only [List.length_drop, List.length_take]; rfl)) ?_; (with_reducible refine (laws_toMsg.calls k a0_0 _ _ l0_1 t390 t391 _ ?side1 ?side2 A11.out).mono ?_); (case side1 => repeat (first | exact (Kd.C_below HR0_1.out HB.out) | (with_reducible refine Kd.C_alloc ?_ _) | (with_reducible refine Kd.C_drewN ?_ _) | (with_reducible refine Kd.C_drew ?_))); (case side2 => exact HC0_1.out); rintro e w20 ⟨v392, rfl, ho0, hb⟩; refine ⟨_, rfl, ?_⟩; have n0_ := Aside0.mk (Kd.R_lower ho0 (below_size (by repeat (first | (with_reducible first | exact HB.out | apply below_alloc | apply pw_below_drewN | apply below_drew1 | refine below_set ?_ GE388.out) | exact HB.out)))); have n1_ := Aside0.mk (blk_below (g := gb388) (o := .cells #[.string a0_0, .slice A0_1 l0_1.length c0_1] 41 (0, 0)) (by (with_reducible repeat (first | refine blk_drewN ?_ _ | refine blk_drew ?_ | refine blk_alloc ?_ _)); exact BK388.out) hb); have n2_ := Aside0.mk (below_step (by repeat (first | (with_reducible first | exact HB.out | apply below_alloc | apply pw_below_drewN | apply below_drew1 | refine below_set ?_ GE388.out) | exact HB.out)) hb); clear BK388; clear HB; have HO393 := n0_; have BK388 := n1_; have HB := n2_; clear n0_ n1_ n2_; (try clear hb); (try clear hb2); (try clear hk); (try clear hi); (try clear ho0); obtain ⟨Ao21, co21, eo21⟩ := Kd.R_slice HO393.out; subst eo21) | ((with_reducible refine gate_callee (f := 17) rfl ?_); refine goesL_ (some 31) rfl rfl Try.func17 (by kernel_rfl) rfl #[.agg #[.string t390, .slice Ao21 t391.length co21], .int .i64 a1, .string a2] rfl (by (try simp only [List.map_toArray, List.map_cons, List.map_nil]); first | done | rfl | (simp only [List.length_drop, List.length_take]; rfl)) ?_; (with_reducible refine (spec_WithField.calls k t390 _ _ t391 a1 a2 t394 t395 t398 _ ?side1 ?side2 A12.out).mono ?_); (case side1 => repeat (first | exact (Kd.R_reads' HO393.out).2.2 | (with_reducible refine Kd.C_alloc ?_ _) | (with_reducible refine Kd.C_drewN ?_ _) | (with_reducible refine Kd.C_drew ?_))); (case side2 => exact (Kd.R_reads' HO393.out).2.1); rintro e w22 ⟨v396, rfl, ho0, hb⟩; refine ⟨_, rfl, ?_⟩; have n0_ := Aside0.mk (Kd.R_elder' (by (with_reducible repeat (first | apply Kd.R_alloc | apply Kd.R_drewN | apply Kd.R_drew)); exact HO393.out) (Kd.R_base ho0) hb); have n1_ := Aside0.mk (Kd.R_lower (Kd.R_new' ho0 (Kd.R_lt (by (with_reducible repeat (first | apply Kd.R_alloc | apply Kd.R_drewN | apply Kd.R_drew)); exact HO393.out))) (below_size (by repeat (first | (with_reducible first | exact HB.out | apply below_alloc | apply pw_below_drewN | apply below_drew1 | refine below_set ?_ GE388.out) | exact HB.out)))); have n2_ := Aside0.mk (blk_below (g := gb388) (o := .cells #[.string a0_0, .slice A0_1 l0_1.length c0_1] 41 (0, 0)) (by (with_reducible repeat (first | refine blk_drewN ?_ _ | refine blk_drew ?_ | refine blk_alloc ?_ _)); exact BK388.out) hb); have n3_ := Aside0.mk (below_step (by repeat (first | (with_reducible first | exact HB.out | apply below_alloc | apply pw_below_drewN | apply below_drew1 | refine below_set ?_ GE388.out) | exact HB.out)) hb); clear HO393; clear BK388; clear HB; have HO393 := n0_; have HO397 := n1_; have BK388 := n2_; have HB := n3_; clear n0_ n1_ n2_ n3_; (try clear hb); (try clear hb2); (try clear hk); (try clear hi); (try clear ho0)) | ((with_reducible refine gate_dst (N := 8) rfl ?_); refine box_event ?hg (N := 8) ?hd (cs := #[.string (⟨#[]⟩ : ByteArray), .slice none 0 0]) (t := 27) ?hr ?_; (case hd => rfl); (case hg => rfl); (case hr => first | (go_simp; done) | (go_simp; rfl)); intro gb399 hg w23 hbox hb; have n0_ := Aside0.mk (Kd.R_below (by (with_reducible repeat (first | apply Kd.R_alloc | apply Kd.R_drewN | apply Kd.R_drew)); exact HO393.out) hb); have n1_ := Aside0.mk (Kd.R_below (by (with_reducible repeat (first | apply Kd.R_alloc | apply Kd.R_drewN | apply Kd.R_drew)); exact HO397.out) hb); have n2_ := Aside0.mk (blk_below (g := gb388) (o := .cells #[.string a0_0, .slice A0_1 l0_1.length c0_1] 41 (0, 0)) (by (with_reducible repeat (first | refine blk_drewN ?_ _ | refine blk_drew ?_ | refine blk_alloc ?_ _)); exact BK388.out) hb); have n3_ := Aside0.mk (below_step (by repeat (first | (with_reducible first | exact HB.out | apply below_alloc | apply pw_below_drewN | apply below_drew1 | refine below_set ?_ GE388.out) | exact HB.out)) hb); have n4_ := Aside0.mk (hbox); have n5_ := Aside0.mk ((by rw [hg]; exact (below_size (by repeat (first | (with_reducible first | exact HB.out | apply below_alloc | apply pw_below_drewN | apply below_drew1 | refine below_set ?_ GE388.out) | exact HB.out))) : w.heap.size ≤ gb399)); have n6_ := Aside0.mk ((by rw [hg]; exact (below_size (by repeat (first | (with_reducible first | exact HB.out | apply below_alloc | apply pw_below_drewN | apply below_drew1 | refine below_set ?_ GE388.out) | exact HB.out))) : w.heap.size ≤ gb399)); have n7_ := Aside0.mk ((by rw [hg]; exact Nat.ne_of_lt (blk_lt (g := gb388) (o := .cells #[.string a0_0, .slice A0_1 l0_1.length c0_1] 41 (0, 0)) (by (with_reducible repeat (first | refine blk_drewN ?_ _ | refine blk_drew ?_ | refine blk_alloc ?_ _)); exact BK388.out)) : gb388 ≠ gb399)); have n8_ := Aside0.mk ((by rw [hg]; exact Nat.ne_of_gt (blk_lt (g := gb388) (o := .cells #[.string a0_0, .slice A0_1 l0_1.length c0_1] 41 (0, 0)) (by (with_reducible repeat (first | refine blk_drewN ?_ _ | refine blk_drew ?_ | refine blk_alloc ?_ _)); exact BK388.out)) : gb399 ≠ gb388)); clear HO393; clear HO397; clear BK388; clear HB; have HO393 := n0_; have HO397 := n1_; have BK388 := n2_; have HB := n3_; have BK399 := n4_; have GW399 := n5_; have GE399 := n6_; have NB388_399 := n7_; have NB399_388 := n8_; clear n0_ n1_ n2_ n3_ n4_ n5_ n6_ n7_ n8_; clear hb hbox hg; have hnb24 := NB399_388.out; have hnc24 := NB388_399.out; have hcz25_0 : w23.cell? ⟨gb399, 0, none⟩ = some (.string (⟨#[]⟩ : ByteArray)) := (blk_cell BK399.out 0).trans rfl; have hcz25_1 : w23.cell? ⟨gb399, 1, none⟩ = some (.slice none 0 0) := (blk_cell BK399.out 1).trans rfl; have hfz25_0 := blk_frozen BK399.out 0; have hfz25_1 := blk_frozen BK399.out 1; obtain ⟨Ao26, co26, eo26⟩ := Kd.R_slice HO397.out; subst eo26; have hcz27_0 : w23.cell? ⟨gb388, 0, none⟩ = some (.string a0_0) := (blk_cell BK388.out 0).trans rfl; have hcz27_1 : w23.cell? ⟨gb388, 1, none⟩ = some (.slice A0_1 l0_1.length c0_1) := (blk_cell BK388.out 1).trans rfl; have hfz27_0 := blk_frozen BK388.out 0; have hfz27_1 := blk_frozen BK388.out 1) | ((with_reducible refine gate_callee (f := 18) rfl ?_); refine goesL_ (some 35) rfl rfl Try.func18 (by kernel_rfl) rfl #[.agg #[.string a0_0, .slice A0_1 l0_1.length c0_1]] rfl (by (try simp only [List.map_toArray, List.map_cons, List.map_nil]); first | done | rfl | (simp only [List.length_drop, List.length_take]; rfl)) ?_; (with_reducible refine (laws_toMsg.calls k a0_0 _ _ l0_1 t400 t401 _ ?side1 ?side2 A13.out).mono ?_); (case side1 => exact Kd.C_below HR0_1.out (by repeat (first | (with_reducible first | exact HB.out | apply below_alloc | apply pw_below_drewN | apply below_drew1 | refine below_set ?_ GE388.out | refine below_set ?_ GE399.out) | exact HB.out))); (case side2 => exact HC0_1.out); rintro e w28 ⟨v402, rfl, ho0, hb⟩; refine ⟨_, rfl, ?_⟩; have n0_ := Aside0.mk (Kd.R_elder' (by (with_reducible repeat (first | apply Kd.R_alloc | apply Kd.R_drewN | apply Kd.R_drew)); exact (Kd.R_mono (Kd.R_far (p := ⟨gb399, 1, none⟩) (Kd.R_far (p := ⟨gb399, 0, none⟩) (Kd.R_types HO393.out BK399.out (by decide)) (fun _ hk => hk.2) (.string t394)) (fun _ hk => hk.2) (.slice Ao26 t395.length co26)) (fun _ h_ => h_.1))) (Kd.R_base ho0) hb); have n1_ := Aside0.mk (Kd.R_elder' (by (with_reducible repeat (first | apply Kd.R_alloc | apply Kd.R_drewN | apply Kd.R_drew)); exact (Kd.R_mono (Kd.R_far (p := ⟨gb399, 1, none⟩) (Kd.R_far (p := ⟨gb399, 0, none⟩) (Kd.R_types HO397.out BK399.out (by decide)) (fun _ hk => hk.2) (.string t394)) (fun _ hk => hk.2) (.slice Ao26 t395.length co26)) (fun _ h_ => h_.1))) (Kd.R_base ho0) hb); have n2_ := Aside0.mk (Kd.R_lower (Kd.R_new' (Kd.R_new' ho0 (Kd.R_lt (by (with_reducible repeat (first | apply Kd.R_alloc | apply Kd.R_drewN | apply Kd.R_drew)); exact (Kd.R_mono (Kd.R_far (p := ⟨gb399, 1, none⟩) (Kd.R_far (p := ⟨gb399, 0, none⟩) (Kd.R_types HO393.out BK399.out (by decide)) (fun _ hk => hk.2) (.string t394)) (fun _ hk => hk.2) (.slice Ao26 t395.length co26)) (fun _ h_ => h_.1))))) (Kd.R_lt (by (with_reducible repeat (first | apply Kd.R_alloc | apply Kd.R_drewN | apply Kd.R_drew)); exact (Kd.R_mono (Kd.R_far (p := ⟨gb399, 1, none⟩) (Kd.R_far (p := ⟨gb399, 0, none⟩) (Kd.R_types HO397.out BK399.out (by decide)) (fun _ hk => hk.2) (.string t394)) (fun _ hk => hk.2) (.slice Ao26 t395.length co26)) (fun _ h_ => h_.1))))) (below_size (by repeat (first | (with_reducible first | exact HB.out | apply below_alloc | apply pw_below_drewN | apply below_drew1 | refine below_set ?_ GE388.out | refine below_set ?_ GE399.out) | exact HB.out)))); have n3_ := Aside0.mk (blk_below (g := gb388) (o := .cells #[.string a0_0, .slice A0_1 l0_1.length c0_1] 41 (0, 0)) (by (with_reducible repeat (first | refine blk_drewN ?_ _ | refine blk_drew ?_ | refine blk_alloc ?_ _)); refine blk_far ?_ NB388_399.out _; (with_reducible repeat (first | refine blk_drewN ?_ _ | refine blk_drew ?_ | refine blk_alloc ?_ _)); refine blk_far ?_ NB388_399.out _; (with_reducible repeat (first | refine blk_drewN ?_ _ | refine blk_drew ?_ | refine blk_alloc ?_ _)); exact BK388.out) hb); have n4_ := Aside0.mk (blk_below (g := gb399) (o := .cells #[.string t394, .slice Ao26 t395.length co26] 27 (0, 0)) (by (with_reducible repeat (first | refine blk_drewN ?_ _ | refine blk_drew ?_ | refine blk_alloc ?_ _)); refine blk_put (cs := #[.string t394, .slice none 0 0]) ?_ 1 _ rfl; (with_reducible repeat (first | refine blk_drewN ?_ _ | refine blk_drew ?_ | refine blk_alloc ?_ _)); refine blk_put (cs := #[.string (⟨#[]⟩ : ByteArray), .slice none 0 0]) ?_ 0 _ rfl; (with_reducible repeat (first | refine blk_drewN ?_ _ | refine blk_drew ?_ | refine blk_alloc ?_ _)); exact BK399.out) hb); have n5_ := Aside0.mk (below_step (by repeat (first | (with_reducible first | exact HB.out | apply below_alloc | apply pw_below_drewN | apply below_drew1 | refine below_set ?_ GE388.out | refine below_set ?_ GE399.out) | exact HB.out)) hb); clear HO393; clear HO397; clear BK388; clear BK399; clear HB; have HO393 := n0_; have HO397 := n1_; have HO403 := n2_; have BK388 := n3_; have BK399 := n4_; have HB := n5_; clear n0_ n1_ n2_ n3_ n4_ n5_; (try clear hb); (try clear hb2); (try clear hk); (try clear hi); (try clear ho0)) | ((with_reducible refine gate_dst (N := 10) rfl ?_); refine box_event ?hg (N := 10) ?hd (cs := #[.string (⟨#[]⟩ : ByteArray), .slice none 0 0]) (t := 27) ?hr ?_; (case hd => rfl); (case hg => rfl); (case hr => first | (go_simp; done) | (go_simp; rfl)); intro gb404 hg w29 hbox hb; have n0_ := Aside0.mk (Kd.R_below (by (with_reducible repeat (first | apply Kd.R_alloc | apply Kd.R_drewN | apply Kd.R_drew)); exact HO393.out) hb); have n1_ := Aside0.mk (Kd.R_below (by (with_reducible repeat (first | apply Kd.R_alloc | apply Kd.R_drewN | apply Kd.R_drew)); exact HO397.out) hb); have n2_ := Aside0.mk (Kd.R_below (by (with_reducible repeat (first | apply Kd.R_alloc | apply Kd.R_drewN | apply Kd.R_drew)); exact HO403.out) hb); have n3_ := Aside0.mk (blk_below (g := gb388) (o := .cells #[.string a0_0, .slice A0_1 l0_1.length c0_1] 41 (0, 0)) (by (with_reducible repeat (first | refine blk_drewN ?_ _ | refine blk_drew ?_ | refine blk_alloc ?_ _)); exact BK388.out) hb); have n4_ := Aside0.mk (blk_below (g := gb399) (o := .cells #[.string t394, .slice Ao26 t395.length co26] 27 (0, 0)) (by (with_reducible repeat (first | refine blk_drewN ?_ _ | refine blk_drew ?_ | refine blk_alloc ?_ _)); exact BK399.out) hb); have n5_ := Aside0.mk (below_step (by repeat (first | (with_reducible first | exact HB.out | apply below_alloc | apply pw_below_drewN | apply below_drew1 | refine below_set ?_ GE388.out | refine below_set ?_ GE399.out) | exact HB.out)) hb); have n6_ := Aside0.mk (hbox); have n7_ := Aside0.mk ((by rw [hg]; exact (below_size (by repeat (first | (with_reducible first | exact HB.out | apply below_alloc | apply pw_below_drewN | apply below_drew1 | refine below_set ?_ GE388.out | refine below_set ?_ GE399.out) | exact HB.out))) : w.heap.size ≤ gb404)); have n8_ := Aside0.mk ((by rw [hg]; exact (below_size (by repeat (first | (with_reducible first | exact HB.out | apply below_alloc | apply pw_below_drewN | apply below_drew1 | refine below_set ?_ GE388.out | refine below_set ?_ GE399.out) | exact HB.out))) : w.heap.size ≤ gb404)); have n9_ := Aside0.mk ((by rw [hg]; exact Nat.ne_of_lt (blk_lt (g := gb388) (o := .cells #[.string a0_0, .slice A0_1 l0_1.length c0_1] 41 (0, 0)) (by (with_reducible repeat (first | refine blk_drewN ?_ _ | refine blk_drew ?_ | refine blk_alloc ?_ _)); exact BK388.out)) : gb388 ≠ gb404)); have n10_ := Aside0.mk ((by rw [hg]; exact Nat.ne_of_gt (blk_lt (g := gb388) (o := .cells #[.string a0_0, .slice A0_1 l0_1.length c0_1] 41 (0, 0)) (by (with_reducible repeat (first | refine blk_drewN ?_ _ | refine blk_drew ?_ | refine blk_alloc ?_ _)); exact BK388.out)) : gb404 ≠ gb388)); have n11_ := Aside0.mk ((by rw [hg]; exact Nat.ne_of_lt (blk_lt (g := gb399) (o := .cells #[.string t394, .slice Ao26 t395.length co26] 27 (0, 0)) (by (with_reducible repeat (first | refine blk_drewN ?_ _ | refine blk_drew ?_ | refine blk_alloc ?_ _)); exact BK399.out)) : gb399 ≠ gb404)); have n12_ := Aside0.mk ((by rw [hg]; exact Nat.ne_of_gt (blk_lt (g := gb399) (o := .cells #[.string t394, .slice Ao26 t395.length co26] 27 (0, 0)) (by (with_reducible repeat (first | refine blk_drewN ?_ _ | refine blk_drew ?_ | refine blk_alloc ?_ _)); exact BK399.out)) : gb404 ≠ gb399)); clear HO393; clear HO397; clear HO403; clear BK388; clear BK399; clear HB; have HO393 := n0_; have HO397 := n1_; have HO403 := n2_; have BK388 := n3_; have BK399 := n4_; have HB := n5_; have BK404 := n6_; have GW404 := n7_; have GE404 := n8_; have NB388_404 := n9_; have NB404_388 := n10_; have NB399_404 := n11_; have NB404_399 := n12_; clear n0_ n1_ n2_ n3_ n4_ n5_ n6_ n7_ n8_ n9_ n10_ n11_ n12_; clear hb hbox hg; have hnb30 := NB404_388.out; have hnc30 := NB388_404.out; have hnb31 := NB404_399.out; have hnc31 := NB399_404.out; have hcz32_0 : w29.cell? ⟨gb404, 0, none⟩ = some (.string (⟨#[]⟩ : ByteArray)) := (blk_cell BK404.out 0).trans rfl; have hcz32_1 : w29.cell? ⟨gb404, 1, none⟩ = some (.slice none 0 0) := (blk_cell BK404.out 1).trans rfl; have hfz32_0 := blk_frozen BK404.out 0; have hfz32_1 := blk_frozen BK404.out 1; obtain ⟨Ao33, co33, eo33⟩ := Kd.R_slice HO403.out; subst eo33) | ((with_reducible refine gate_callee (f := 11) rfl ?_); refine goesL_ (some 40) rfl rfl Try.func11 (by kernel_rfl) rfl #[.agg #[.string t400, .slice Ao33 t401.length co33], .int .i64 a1, .string a2] rfl (by (try simp only [List.map_toArray, List.map_cons, List.map_nil]); first | done | rfl | (simp only [List.length_drop, List.length_take]; rfl)) ?_; (with_reducible refine (impl_WithField.calls k t400 _ _ t401 a1 a2 t405 t406 t409 _ ?side1 ?side2 A14.out).mono ?_); (case side1 => refine (Kd.R_reads' (e := 58) (base := w.heap.size) (ok := fun k_ => ((True ∧ some k_ ≠ (.slice Ao21 t391.length co21 : Value).ownBlock) ∧ some k_ ≠ (.slice Ao26 t395.length co26 : Value).ownBlock)) (n := t401.length) (c := co33) ?_).2.2; exact (by (with_reducible repeat (first | apply Kd.R_alloc | apply Kd.R_drewN | apply Kd.R_drew)); exact (Kd.R_mono (Kd.R_far (p := ⟨gb404, 1, none⟩) (Kd.R_far (p := ⟨gb404, 0, none⟩) (Kd.R_types HO403.out BK404.out (by decide)) (fun _ hk => hk.2) (.string t400)) (fun _ hk => hk.2) (.slice Ao33 t401.length co33)) (fun _ h_ => h_.1)))); (case side2 => exact (Kd.R_reads' HO403.out).2.1); rintro e w34 ⟨v407, rfl, ho0, hb⟩; refine ⟨_, rfl, ?_⟩; have n0_ := Aside0.mk (Kd.R_elder' (by (with_reducible repeat (first | apply Kd.R_alloc | apply Kd.R_drewN | apply Kd.R_drew)); exact (Kd.R_mono (Kd.R_far (p := ⟨gb404, 1, none⟩) (Kd.R_far (p := ⟨gb404, 0, none⟩) (Kd.R_types HO393.out BK404.out (by decide)) (fun _ hk => hk.2) (.string t400)) (fun _ hk => hk.2) (.slice Ao33 t401.length co33)) (fun _ h_ => h_.1))) (Kd.R_base ho0) hb); have n1_ := Aside0.mk (Kd.R_elder' (by (with_reducible repeat (first | apply Kd.R_alloc | apply Kd.R_drewN | apply Kd.R_drew)); exact (Kd.R_mono (Kd.R_far (p := ⟨gb404, 1, none⟩) (Kd.R_far (p := ⟨gb404, 0, none⟩) (Kd.R_types HO397.out BK404.out (by decide)) (fun _ hk => hk.2) (.string t400)) (fun _ hk => hk.2) (.slice Ao33 t401.length co33)) (fun _ h_ => h_.1))) (Kd.R_base ho0) hb); have n2_ := Aside0.mk (Kd.R_elder' (by (with_reducible repeat (first | apply Kd.R_alloc | apply Kd.R_drewN | apply Kd.R_drew)); exact (Kd.R_mono (Kd.R_far (p := ⟨gb404, 1, none⟩) (Kd.R_far (p := ⟨gb404, 0, none⟩) (Kd.R_types HO403.out BK404.out (by decide)) (fun _ hk => hk.2) (.string t400)) (fun _ hk => hk.2) (.slice Ao33 t401.length co33)) (fun _ h_ => h_.1))) (Kd.R_base ho0) hb); have n3_ := Aside0.mk (Kd.R_lower (Kd.R_new' (Kd.R_new' (Kd.R_new' ho0 (Kd.R_lt (by (with_reducible repeat (first | apply Kd.R_alloc | apply Kd.R_drewN | apply Kd.R_drew)); exact (Kd.R_mono (Kd.R_far (p := ⟨gb404, 1, none⟩) (Kd.R_far (p := ⟨gb404, 0, none⟩) (Kd.R_types HO393.out BK404.out (by decide)) (fun _ hk => hk.2) (.string t400)) (fun _ hk => hk.2) (.slice Ao33 t401.length co33)) (fun _ h_ => h_.1))))) (Kd.R_lt (by (with_reducible repeat (first | apply Kd.R_alloc | apply Kd.R_drewN | apply Kd.R_drew)); exact (Kd.R_mono (Kd.R_far (p := ⟨gb404, 1, none⟩) (Kd.R_far (p := ⟨gb404, 0, none⟩) (Kd.R_types HO397.out BK404.out (by decide)) (fun _ hk => hk.2) (.string t400)) (fun _ hk => hk.2) (.slice Ao33 t401.length co33)) (fun _ h_ => h_.1))))) (Kd.R_lt (by (with_reducible repeat (first | apply Kd.R_alloc | apply Kd.R_drewN | apply Kd.R_drew)); exact (Kd.R_mono (Kd.R_far (p := ⟨gb404, 1, none⟩) (Kd.R_far (p := ⟨gb404, 0, none⟩) (Kd.R_types HO403.out BK404.out (by decide)) (fun _ hk => hk.2) (.string t400)) (fun _ hk => hk.2) (.slice Ao33 t401.length co33)) (fun _ h_ => h_.1))))) (below_size (by repeat (first | (with_reducible first | exact HB.out | apply below_alloc | apply pw_below_drewN | apply below_drew1 | refine below_set ?_ GE388.out | refine below_set ?_ GE399.out | refine below_set ?_ GE404.out) | exact HB.out)))); have n4_ := Aside0.mk (blk_below (g := gb388) (o := .cells #[.string a0_0, .slice A0_1 l0_1.length c0_1] 41 (0, 0)) (by (with_reducible repeat (first | refine blk_drewN ?_ _ | refine blk_drew ?_ | refine blk_alloc ?_ _)); refine blk_far ?_ NB388_404.out _; (with_reducible repeat (first | refine blk_drewN ?_ _ | refine blk_drew ?_ | refine blk_alloc ?_ _)); refine blk_far ?_ NB388_404.out _; (with_reducible repeat (first | refine blk_drewN ?_ _ | refine blk_drew ?_ | refine blk_alloc ?_ _)); exact BK388.out) hb); have n5_ := Aside0.mk (blk_below (g := gb399) (o := .cells #[.string t394, .slice Ao26 t395.length co26] 27 (0, 0)) (by (with_reducible repeat (first | refine blk_drewN ?_ _ | refine blk_drew ?_ | refine blk_alloc ?_ _)); refine blk_far ?_ NB399_404.out _; (with_reducible repeat (first | refine blk_drewN ?_ _ | refine blk_drew ?_ | refine blk_alloc ?_ _)); refine blk_far ?_ NB399_404.out _; (with_reducible repeat (first | refine blk_drewN ?_ _ | refine blk_drew ?_ | refine blk_alloc ?_ _)); exact BK399.out) hb); have n6_ := Aside0.mk (blk_below (g := gb404) (o := .cells #[.string t400, .slice Ao33 t401.length co33] 27 (0, 0)) (by (with_reducible repeat (first | refine blk_drewN ?_ _ | refine blk_drew ?_ | refine blk_alloc ?_ _)); refine blk_put (cs := #[.string t400, .slice none 0 0]) ?_ 1 _ rfl; (with_reducible repeat (first | refine blk_drewN ?_ _ | refine blk_drew ?_ | refine blk_alloc ?_ _)); refine blk_put (cs := #[.string (⟨#[]⟩ : ByteArray), .slice none 0 0]) ?_ 0 _ rfl; (with_reducible repeat (first | refine blk_drewN ?_ _ | refine blk_drew ?_ | refine blk_alloc ?_ _)); exact BK404.out) hb); have n7_ := Aside0.mk (below_step (by repeat (first | (with_reducible first | exact HB.out | apply below_alloc | apply pw_below_drewN | apply below_drew1 | refine below_set ?_ GE388.out | refine below_set ?_ GE399.out | refine below_set ?_ GE404.out) | exact HB.out)) hb); clear HO393; clear HO397; clear HO403; clear BK388; clear BK399; clear BK404; clear HB; have HO393 := n0_; have HO397 := n1_; have HO403 := n2_; have HO408 := n3_; have BK388 := n4_; have BK399 := n5_; have BK404 := n6_; have HB := n7_; clear n0_ n1_ n2_ n3_ n4_ n5_ n6_ n7_; (try clear hb); (try clear hb2); (try clear hk); (try clear hi); (try clear ho0)) | ((with_reducible refine gate_dst (N := 11) rfl ?_); refine box_event ?hg (N := 11) ?hd (cs := #[.string (⟨#[]⟩ : ByteArray), .slice none 0 0]) (t := 27) ?hr ?_; (case hd => rfl); (case hg => rfl); (case hr => first | (go_simp; done) | (go_simp; rfl)); intro gb410 hg w35 hbox hb; have n0_ := Aside0.mk (Kd.R_below (by (with_reducible repeat (first | apply Kd.R_alloc | apply Kd.R_drewN | apply Kd.R_drew)); exact HO393.out) hb); have n1_ := Aside0.mk (Kd.R_below (by (with_reducible repeat (first | apply Kd.R_alloc | apply Kd.R_drewN | apply Kd.R_drew)); exact HO397.out) hb); have n2_ := Aside0.mk (Kd.R_below (by (with_reducible repeat (first | apply Kd.R_alloc | apply Kd.R_drewN | apply Kd.R_drew)); exact HO403.out) hb); have n3_ := Aside0.mk (Kd.R_below (by (with_reducible repeat (first | apply Kd.R_alloc | apply Kd.R_drewN | apply Kd.R_drew)); exact HO408.out) hb); have n4_ := Aside0.mk (blk_below (g := gb388) (o := .cells #[.string a0_0, .slice A0_1 l0_1.length c0_1] 41 (0, 0)) (by (with_reducible repeat (first | refine blk_drewN ?_ _ | refine blk_drew ?_ | refine blk_alloc ?_ _)); exact BK388.out) hb); have n5_ := Aside0.mk (blk_below (g := gb399) (o := .cells #[.string t394, .slice Ao26 t395.length co26] 27 (0, 0)) (by (with_reducible repeat (first | refine blk_drewN ?_ _ | refine blk_drew ?_ | refine blk_alloc ?_ _)); exact BK399.out) hb); have n6_ := Aside0.mk (blk_below (g := gb404) (o := .cells #[.string t400, .slice Ao33 t401.length co33] 27 (0, 0)) (by (with_reducible repeat (first | refine blk_drewN ?_ _ | refine blk_drew ?_ | refine blk_alloc ?_ _)); exact BK404.out) hb); have n7_ := Aside0.mk (below_step (by repeat (first | (with_reducible first | exact HB.out | apply below_alloc | apply pw_below_drewN | apply below_drew1 | refine below_set ?_ GE388.out | refine below_set ?_ GE399.out | refine below_set ?_ GE404.out) | exact HB.out)) hb); have n8_ := Aside0.mk (hbox); have n9_ := Aside0.mk ((by rw [hg]; exact (below_size (by repeat (first | (with_reducible first | exact HB.out | apply below_alloc | apply pw_below_drewN | apply below_drew1 | refine below_set ?_ GE388.out | refine below_set ?_ GE399.out | refine below_set ?_ GE404.out) | exact HB.out))) : w.heap.size ≤ gb410)); have n10_ := Aside0.mk ((by rw [hg]; exact (below_size (by repeat (first | (with_reducible first | exact HB.out | apply below_alloc | apply pw_below_drewN | apply below_drew1 | refine below_set ?_ GE388.out | refine below_set ?_ GE399.out | refine below_set ?_ GE404.out) | exact HB.out))) : w.heap.size ≤ gb410)); have n11_ := Aside0.mk ((by rw [hg]; exact Nat.ne_of_lt (blk_lt (g := gb388) (o := .cells #[.string a0_0, .slice A0_1 l0_1.length c0_1] 41 (0, 0)) (by (with_reducible repeat (first | refine blk_drewN ?_ _ | refine blk_drew ?_ | refine blk_alloc ?_ _)); exact BK388.out)) : gb388 ≠ gb410)); have n12_ := Aside0.mk ((by rw [hg]; exact Nat.ne_of_gt (blk_lt (g := gb388) (o := .cells #[.string a0_0, .slice A0_1 l0_1.length c0_1] 41 (0, 0)) (by (with_reducible repeat (first | refine blk_drewN ?_ _ | refine blk_drew ?_ | refine blk_alloc ?_ _)); exact BK388.out)) : gb410 ≠ gb388)); have n13_ := Aside0.mk ((by rw [hg]; exact Nat.ne_of_lt (blk_lt (g := gb399) (o := .cells #[.string t394, .slice Ao26 t395.length co26] 27 (0, 0)) (by (with_reducible repeat (first | refine blk_drewN ?_ _ | refine blk_drew ?_ | refine blk_alloc ?_ _)); exact BK399.out)) : gb399 ≠ gb410)); have n14_ := Aside0.mk ((by rw [hg]; exact Nat.ne_of_gt (blk_lt (g := gb399) (o := .cells #[.string t394, .slice Ao26 t395.length co26] 27 (0, 0)) (by (with_reducible repeat (first | refine blk_drewN ?_ _ | refine blk_drew ?_ | refine blk_alloc ?_ _)); exact BK399.out)) : gb410 ≠ gb399)); have n15_ := Aside0.mk ((by rw [hg]; exact Nat.ne_of_lt (blk_lt (g := gb404) (o := .cells #[.string t400, .slice Ao33 t401.length co33] 27 (0, 0)) (by (with_reducible repeat (first | refine blk_drewN ?_ _ | refine blk_drew ?_ | refine blk_alloc ?_ _)); exact BK404.out)) : gb404 ≠ gb410)); have n16_ := Aside0.mk ((by rw [hg]; exact Nat.ne_of_gt (blk_lt (g := gb404) (o := .cells #[.string t400, .slice Ao33 t401.length co33] 27 (0, 0)) (by (with_reducible repeat (first | refine blk_drewN ?_ _ | refine blk_drew ?_ | refine blk_alloc ?_ _)); exact BK404.out)) : gb410 ≠ gb404)); clear HO393; clear HO397; clear HO403; clear HO408; clear BK388; clear BK399; clear BK404; clear HB; have HO393 := n0_; have HO397 := n1_; have HO403 := n2_; have HO408 := n3_; have BK388 := n4_; have BK399 := n5_; have BK404 := n6_; have HB := n7_; have BK410 := n8_; have GW410 := n9_; have GE410 := n10_; have NB388_410 := n11_; have NB410_388 := n12_; have NB399_410 := n13_; have NB410_399 := n14_; have NB404_410 := n15_; have NB410_404 := n16_; clear n0_ n1_ n2_ n3_ n4_ n5_ n6_ n7_ n8_ n9_ n10_ n11_ n12_ n13_ n14_ n15_ n16_; clear hb hbox hg; have hnb36 := NB410_388.out; have hnc36 := NB388_410.out; have hnb37 := NB410_399.out; have hnc37 := NB399_410.out; have hnb38 := NB410_404.out; have hnc38 := NB404_410.out; have hcz39_0 : w35.cell? ⟨gb410, 0, none⟩ = some (.string (⟨#[]⟩ : ByteArray)) := (blk_cell BK410.out 0).trans rfl; have hcz39_1 : w35.cell? ⟨gb410, 1, none⟩ = some (.slice none 0 0) := (blk_cell BK410.out 1).trans rfl; have hfz39_0 := blk_frozen BK410.out 0; have hfz39_1 := blk_frozen BK410.out 1; obtain ⟨Ao40, co40, eo40⟩ := Kd.R_slice HO408.out; subst eo40))
   (try simp only [Act.put, List.setIfInBounds_toArray, List.set_cons_zero, List.set_cons_succ])
   go_cut [51] (fun v51 wc => ∃ (kq : Nat) (x51_14 : Bool), v51 = .bool x51_14 ∧ Aside0 (laws_FnExactWithField.j0 kq a1 a2 t398 t409 x51_14 a0_0 l0_1 t394 t395 t400 t401 t405 t406 = some r) ∧ Aside0 (kq ≤ k) ∧ Aside0 (Kd.R k58 58 wc w.heap.size (fun k_ => some k_ ≠ ((.slice Ao33 t401.length co33) : Value).ownBlock ∧ some k_ ≠ ((.slice Ao40 t406.length co40) : Value).ownBlock) (.slice Ao26 t395.length co26) t395) ∧ Aside0 (Kd.R k58 58 wc w.heap.size (fun k_ => some k_ ≠ ((.slice Ao26 t395.length co26) : Value).ownBlock ∧ some k_ ≠ ((.slice Ao40 t406.length co40) : Value).ownBlock) (.slice Ao33 t401.length co33) t401) ∧ Aside0 (Kd.R k58 58 wc w.heap.size (fun k_ => some k_ ≠ ((.slice Ao26 t395.length co26) : Value).ownBlock ∧ some k_ ≠ ((.slice Ao33 t401.length co33) : Value).ownBlock) (.slice Ao40 t406.length co40) t406) ∧ Aside0 (wc.heap[gb388]? = some (.cells #[.string a0_0, (.slice A0_1 l0_1.length c0_1)] 41 (0, 0))) ∧ Aside0 (wc.heap[gb399]? = some (.cells #[.string t394, (.slice Ao26 t395.length co26)] 27 (0, 0))) ∧ Aside0 (wc.heap[gb404]? = some (.cells #[.string t400, (.slice Ao33 t401.length co33)] 27 (0, 0))) ∧ Aside0 (wc.heap[gb410]? = some (.cells #[.string t405, (.slice Ao40 t406.length co40)] 27 (0, 0))) ∧ Aside0 (Below w.heap.size w wc))
   case first =>
    have H := HC15.out
    clear HC15
    replace H := Option.bind_eq_some_iff.mp H
    obtain ⟨t411, A410, H⟩ := H
    replace H : (if t411 = true then (laws_FnExactWithField.j0 k a1 a2 t398 t409 (t409 != t398) a0_0 l0_1 t394 t395 t400 t401 t405 t406) else (laws_FnExactWithField.j0 k a1 a2 t398 t409 true a0_0 l0_1 t394 t395 t400 t401 t405 t406)) = some r := H
    have A41 := Aside0.mk A410
    clear A410
    by_cases c42 : t411 = true
    ·subst c42
     have H1 : (laws_FnExactWithField.j0 k a1 a2 t398 t409 (t409 != t398) a0_0 l0_1 t394 t395 t400 t401 t405 t406) = some r := by rw [if_pos rfl] at H; exact H
     clear H
     have H := H1
     clear H1
     have H' := Aside0.mk H
     clear H
     have hnb43 := NB410_388.out
     have hnc43 := NB388_410.out
     have hnb44 := NB410_399.out
     have hnc44 := NB399_410.out
     have hnb45 := NB410_404.out
     have hnc45 := NB404_410.out
     have hcz46_0 : w35.cell? ⟨gb410, 0, none⟩ = some (.string (⟨#[]⟩ : ByteArray)) := (blk_cell BK410.out 0).trans rfl
     have hcz46_1 : w35.cell? ⟨gb410, 1, none⟩ = some (.slice none 0 0) := (blk_cell BK410.out 1).trans rfl
     have hfz46_0 := blk_frozen BK410.out 0
     have hfz46_1 := blk_frozen BK410.out 1
     have hnb47 := NB399_388.out
     have hnc47 := NB388_399.out
     have hnb48 := NB399_404.out
     have hnc48 := NB404_399.out
     have hcz49_0 : w35.cell? ⟨gb399, 0, none⟩ = some (.string t394) := (blk_cell BK399.out 0).trans rfl
     have hcz49_1 : w35.cell? ⟨gb399, 1, none⟩ = some (.slice Ao26 t395.length co26) := (blk_cell BK399.out 1).trans rfl
     have hfz49_0 := blk_frozen BK399.out 0
     have hfz49_1 := blk_frozen BK399.out 1
     go_wp2_with (first | ((with_reducible refine gate_callee (f := 19) rfl ?_); refine goesL_ (some 45) rfl rfl Try.func19 (by kernel_rfl) rfl #[.agg #[.string t405, .slice Ao40 t406.length co40], .agg #[.string t394, .slice Ao26 t395.length co26]] rfl (by (try simp only [List.map_toArray, List.map_cons, List.map_nil]); first | done | rfl | (simp only [List.length_drop, List.length_take]; rfl)) ?_; (with_reducible refine (laws_eqMsg.calls k t405 _ _ t406 t394 _ _ t395 true _ ?side1 ?side2 ?side3 ?side4 A41.out).mono ?_); (case side1 => refine (Kd.R_reads' (e := 58) (base := w.heap.size) (ok := fun k_ => (((True ∧ some k_ ≠ (.slice Ao21 t391.length co21 : Value).ownBlock) ∧ some k_ ≠ (.slice Ao26 t395.length co26 : Value).ownBlock) ∧ some k_ ≠ (.slice Ao33 t401.length co33 : Value).ownBlock)) (n := t406.length) (c := co40) ?_).2.2; exact (by (with_reducible repeat (first | apply Kd.R_alloc | apply Kd.R_drewN | apply Kd.R_drew)); exact (Kd.R_mono (Kd.R_far (p := ⟨gb410, 1, none⟩) (Kd.R_far (p := ⟨gb410, 0, none⟩) (Kd.R_types HO408.out BK410.out (by decide)) (fun _ hk => hk.2) (.string t405)) (fun _ hk => hk.2) (.slice Ao40 t406.length co40)) (fun _ h_ => h_.1)))); (case side2 => exact (Kd.R_reads' HO408.out).2.1); (case side3 => refine (Kd.R_reads' (e := 58) (base := w.heap.size) (ok := fun k_ => (((True ∧ some k_ ≠ (.slice Ao21 t391.length co21 : Value).ownBlock) ∧ some k_ ≠ (.slice Ao33 t401.length co33 : Value).ownBlock) ∧ some k_ ≠ (.slice Ao40 t406.length co40 : Value).ownBlock)) (n := t395.length) (c := co26) ?_).2.2; exact (by (with_reducible repeat (first | apply Kd.R_alloc | apply Kd.R_drewN | apply Kd.R_drew)); exact (Kd.R_mono (Kd.R_far (p := ⟨gb410, 1, none⟩) (Kd.R_far (p := ⟨gb410, 0, none⟩) (Kd.R_types HO397.out BK410.out (by decide)) (fun _ hk => hk.2) (.string t405)) (fun _ hk => hk.2) (.slice Ao40 t406.length co40)) (fun _ h_ => h_.1)))); (case side4 => exact (Kd.R_reads' HO397.out).2.1); rintro e w50 ⟨rfl, hb⟩; refine ⟨_, rfl, ?_⟩; have n0_ := Aside0.mk (Kd.R_below (by (with_reducible repeat (first | apply Kd.R_alloc | apply Kd.R_drewN | apply Kd.R_drew)); exact (Kd.R_mono (Kd.R_far (p := ⟨gb410, 1, none⟩) (Kd.R_far (p := ⟨gb410, 0, none⟩) (Kd.R_types HO393.out BK410.out (by decide)) (fun _ hk => hk.2) (.string t405)) (fun _ hk => hk.2) (.slice Ao40 t406.length co40)) (fun _ h_ => h_.1))) hb); have n1_ := Aside0.mk (Kd.R_below (by (with_reducible repeat (first | apply Kd.R_alloc | apply Kd.R_drewN | apply Kd.R_drew)); exact (Kd.R_mono (Kd.R_far (p := ⟨gb410, 1, none⟩) (Kd.R_far (p := ⟨gb410, 0, none⟩) (Kd.R_types HO397.out BK410.out (by decide)) (fun _ hk => hk.2) (.string t405)) (fun _ hk => hk.2) (.slice Ao40 t406.length co40)) (fun _ h_ => h_.1))) hb); have n2_ := Aside0.mk (Kd.R_below (by (with_reducible repeat (first | apply Kd.R_alloc | apply Kd.R_drewN | apply Kd.R_drew)); exact (Kd.R_mono (Kd.R_far (p := ⟨gb410, 1, none⟩) (Kd.R_far (p := ⟨gb410, 0, none⟩) (Kd.R_types HO403.out BK410.out (by decide)) (fun _ hk => hk.2) (.string t405)) (fun _ hk => hk.2) (.slice Ao40 t406.length co40)) (fun _ h_ => h_.1))) hb); have n3_ := Aside0.mk (Kd.R_below (by (with_reducible repeat (first | apply Kd.R_alloc | apply Kd.R_drewN | apply Kd.R_drew)); exact (Kd.R_mono (Kd.R_far (p := ⟨gb410, 1, none⟩) (Kd.R_far (p := ⟨gb410, 0, none⟩) (Kd.R_types HO408.out BK410.out (by decide)) (fun _ hk => hk.2) (.string t405)) (fun _ hk => hk.2) (.slice Ao40 t406.length co40)) (fun _ h_ => h_.1))) hb); have n4_ := Aside0.mk (blk_below (g := gb388) (o := .cells #[.string a0_0, .slice A0_1 l0_1.length c0_1] 41 (0, 0)) (by (with_reducible repeat (first | refine blk_drewN ?_ _ | refine blk_drew ?_ | refine blk_alloc ?_ _)); refine blk_far ?_ NB388_410.out _; (with_reducible repeat (first | refine blk_drewN ?_ _ | refine blk_drew ?_ | refine blk_alloc ?_ _)); refine blk_far ?_ NB388_410.out _; (with_reducible repeat (first | refine blk_drewN ?_ _ | refine blk_drew ?_ | refine blk_alloc ?_ _)); exact BK388.out) hb); have n5_ := Aside0.mk (blk_below (g := gb399) (o := .cells #[.string t394, .slice Ao26 t395.length co26] 27 (0, 0)) (by (with_reducible repeat (first | refine blk_drewN ?_ _ | refine blk_drew ?_ | refine blk_alloc ?_ _)); refine blk_far ?_ NB399_410.out _; (with_reducible repeat (first | refine blk_drewN ?_ _ | refine blk_drew ?_ | refine blk_alloc ?_ _)); refine blk_far ?_ NB399_410.out _; (with_reducible repeat (first | refine blk_drewN ?_ _ | refine blk_drew ?_ | refine blk_alloc ?_ _)); exact BK399.out) hb); have n6_ := Aside0.mk (blk_below (g := gb404) (o := .cells #[.string t400, .slice Ao33 t401.length co33] 27 (0, 0)) (by (with_reducible repeat (first | refine blk_drewN ?_ _ | refine blk_drew ?_ | refine blk_alloc ?_ _)); refine blk_far ?_ NB404_410.out _; (with_reducible repeat (first | refine blk_drewN ?_ _ | refine blk_drew ?_ | refine blk_alloc ?_ _)); refine blk_far ?_ NB404_410.out _; (with_reducible repeat (first | refine blk_drewN ?_ _ | refine blk_drew ?_ | refine blk_alloc ?_ _)); exact BK404.out) hb); have n7_ := Aside0.mk (blk_below (g := gb410) (o := .cells #[.string t405, .slice Ao40 t406.length co40] 27 (0, 0)) (by (with_reducible repeat (first | refine blk_drewN ?_ _ | refine blk_drew ?_ | refine blk_alloc ?_ _)); refine blk_put (cs := #[.string t405, .slice none 0 0]) ?_ 1 _ rfl; (with_reducible repeat (first | refine blk_drewN ?_ _ | refine blk_drew ?_ | refine blk_alloc ?_ _)); refine blk_put (cs := #[.string (⟨#[]⟩ : ByteArray), .slice none 0 0]) ?_ 0 _ rfl; (with_reducible repeat (first | refine blk_drewN ?_ _ | refine blk_drew ?_ | refine blk_alloc ?_ _)); exact BK410.out) hb); have n8_ := Aside0.mk (below_step (by repeat (first | (with_reducible first | exact HB.out | apply below_alloc | apply pw_below_drewN | apply below_drew1 | refine below_set ?_ GE388.out | refine below_set ?_ GE399.out | refine below_set ?_ GE404.out | refine below_set ?_ GE410.out) | exact HB.out)) hb); clear HO393; clear HO397; clear HO403; clear HO408; clear BK388; clear BK399; clear BK404; clear BK410; clear HB; have HO393 := n0_; have HO397 := n1_; have HO403 := n2_; have HO408 := n3_; have BK388 := n4_; have BK399 := n5_; have BK404 := n6_; have BK410 := n7_; have HB := n8_; clear n0_ n1_ n2_ n3_ n4_ n5_ n6_ n7_ n8_; (try clear hb); (try clear hb2); (try clear hk); (try clear hi)))
     go_meet
     case rel => exact ⟨_, ((t409 != t398)), (by first | rfl | (simp; done) | (simp [*]; done) | (simp [i64_w, IntKind.wrap_u8, e256_]; done) | (simp; generalize ByteArray.toList _ = zz_; cases zz_ <;> rfl)), H', ⟨by first | omega | exact Nat.le_refl _⟩, ⟨by (with_reducible repeat (first | apply Kd.R_alloc | apply Kd.R_drewN | apply Kd.R_drew)); exact Kd.R_mono HO397.out (fun _ hk => ⟨hk.1.2, hk.2⟩)⟩, ⟨by (with_reducible repeat (first | apply Kd.R_alloc | apply Kd.R_drewN | apply Kd.R_drew)); exact Kd.R_mono HO403.out (fun _ hk => ⟨hk.1.2, hk.2⟩)⟩, ⟨by (with_reducible repeat (first | apply Kd.R_alloc | apply Kd.R_drewN | apply Kd.R_drew)); exact Kd.R_mono HO408.out (fun _ hk => ⟨hk.1.2, hk.2⟩)⟩, ⟨by (with_reducible repeat (first | refine blk_drewN ?_ _ | refine blk_drew ?_ | refine blk_alloc ?_ _)); exact BK388.out⟩, ⟨by (with_reducible repeat (first | refine blk_drewN ?_ _ | refine blk_drew ?_ | refine blk_alloc ?_ _)); exact BK399.out⟩, ⟨by (with_reducible repeat (first | refine blk_drewN ?_ _ | refine blk_drew ?_ | refine blk_alloc ?_ _)); exact BK404.out⟩, ⟨by (with_reducible repeat (first | refine blk_drewN ?_ _ | refine blk_drew ?_ | refine blk_alloc ?_ _)); exact BK410.out⟩, ⟨by repeat (first | (with_reducible first | exact HB.out | apply below_alloc | apply pw_below_drewN | apply below_drew1 | refine below_set ?_ GE388.out | refine below_set ?_ GE399.out | refine below_set ?_ GE404.out | refine below_set ?_ GE410.out) | exact HB.out)⟩⟩
    ·replace c42 := Bool.eq_false_iff.mpr c42
     subst c42
     have H1 : (laws_FnExactWithField.j0 k a1 a2 t398 t409 true a0_0 l0_1 t394 t395 t400 t401 t405 t406) = some r := by rw [if_neg (show ¬ (false = true) by decide)] at H; exact H
     clear H
     have H := H1
     clear H1
     have H' := Aside0.mk H
     clear H
     have hnb51 := NB410_388.out
     have hnc51 := NB388_410.out
     have hnb52 := NB410_399.out
     have hnc52 := NB399_410.out
     have hnb53 := NB410_404.out
     have hnc53 := NB404_410.out
     have hcz54_0 : w35.cell? ⟨gb410, 0, none⟩ = some (.string (⟨#[]⟩ : ByteArray)) := (blk_cell BK410.out 0).trans rfl
     have hcz54_1 : w35.cell? ⟨gb410, 1, none⟩ = some (.slice none 0 0) := (blk_cell BK410.out 1).trans rfl
     have hfz54_0 := blk_frozen BK410.out 0
     have hfz54_1 := blk_frozen BK410.out 1
     have hnb55 := NB399_388.out
     have hnc55 := NB388_399.out
     have hnb56 := NB399_404.out
     have hnc56 := NB404_399.out
     have hcz57_0 : w35.cell? ⟨gb399, 0, none⟩ = some (.string t394) := (blk_cell BK399.out 0).trans rfl
     have hcz57_1 : w35.cell? ⟨gb399, 1, none⟩ = some (.slice Ao26 t395.length co26) := (blk_cell BK399.out 1).trans rfl
     have hfz57_0 := blk_frozen BK399.out 0
     have hfz57_1 := blk_frozen BK399.out 1
     go_wp2_with (first | ((with_reducible refine gate_callee (f := 19) rfl ?_); refine goesL_ (some 45) rfl rfl Try.func19 (by kernel_rfl) rfl #[.agg #[.string t405, .slice Ao40 t406.length co40], .agg #[.string t394, .slice Ao26 t395.length co26]] rfl (by (try simp only [List.map_toArray, List.map_cons, List.map_nil]); first | done | rfl | (simp only [List.length_drop, List.length_take]; rfl)) ?_; (with_reducible refine (laws_eqMsg.calls k t405 _ _ t406 t394 _ _ t395 false _ ?side1 ?side2 ?side3 ?side4 A41.out).mono ?_); (case side1 => refine (Kd.R_reads' (e := 58) (base := w.heap.size) (ok := fun k_ => (((True ∧ some k_ ≠ (.slice Ao21 t391.length co21 : Value).ownBlock) ∧ some k_ ≠ (.slice Ao26 t395.length co26 : Value).ownBlock) ∧ some k_ ≠ (.slice Ao33 t401.length co33 : Value).ownBlock)) (n := t406.length) (c := co40) ?_).2.2; exact (by (with_reducible repeat (first | apply Kd.R_alloc | apply Kd.R_drewN | apply Kd.R_drew)); exact (Kd.R_mono (Kd.R_far (p := ⟨gb410, 1, none⟩) (Kd.R_far (p := ⟨gb410, 0, none⟩) (Kd.R_types HO408.out BK410.out (by decide)) (fun _ hk => hk.2) (.string t405)) (fun _ hk => hk.2) (.slice Ao40 t406.length co40)) (fun _ h_ => h_.1)))); (case side2 => exact (Kd.R_reads' HO408.out).2.1); (case side3 => refine (Kd.R_reads' (e := 58) (base := w.heap.size) (ok := fun k_ => (((True ∧ some k_ ≠ (.slice Ao21 t391.length co21 : Value).ownBlock) ∧ some k_ ≠ (.slice Ao33 t401.length co33 : Value).ownBlock) ∧ some k_ ≠ (.slice Ao40 t406.length co40 : Value).ownBlock)) (n := t395.length) (c := co26) ?_).2.2; exact (by (with_reducible repeat (first | apply Kd.R_alloc | apply Kd.R_drewN | apply Kd.R_drew)); exact (Kd.R_mono (Kd.R_far (p := ⟨gb410, 1, none⟩) (Kd.R_far (p := ⟨gb410, 0, none⟩) (Kd.R_types HO397.out BK410.out (by decide)) (fun _ hk => hk.2) (.string t405)) (fun _ hk => hk.2) (.slice Ao40 t406.length co40)) (fun _ h_ => h_.1)))); (case side4 => exact (Kd.R_reads' HO397.out).2.1); rintro e w58 ⟨rfl, hb⟩; refine ⟨_, rfl, ?_⟩; have n0_ := Aside0.mk (Kd.R_below (by (with_reducible repeat (first | apply Kd.R_alloc | apply Kd.R_drewN | apply Kd.R_drew)); exact (Kd.R_mono (Kd.R_far (p := ⟨gb410, 1, none⟩) (Kd.R_far (p := ⟨gb410, 0, none⟩) (Kd.R_types HO393.out BK410.out (by decide)) (fun _ hk => hk.2) (.string t405)) (fun _ hk => hk.2) (.slice Ao40 t406.length co40)) (fun _ h_ => h_.1))) hb); have n1_ := Aside0.mk (Kd.R_below (by (with_reducible repeat (first | apply Kd.R_alloc | apply Kd.R_drewN | apply Kd.R_drew)); exact (Kd.R_mono (Kd.R_far (p := ⟨gb410, 1, none⟩) (Kd.R_far (p := ⟨gb410, 0, none⟩) (Kd.R_types HO397.out BK410.out (by decide)) (fun _ hk => hk.2) (.string t405)) (fun _ hk => hk.2) (.slice Ao40 t406.length co40)) (fun _ h_ => h_.1))) hb); have n2_ := Aside0.mk (Kd.R_below (by (with_reducible repeat (first | apply Kd.R_alloc | apply Kd.R_drewN | apply Kd.R_drew)); exact (Kd.R_mono (Kd.R_far (p := ⟨gb410, 1, none⟩) (Kd.R_far (p := ⟨gb410, 0, none⟩) (Kd.R_types HO403.out BK410.out (by decide)) (fun _ hk => hk.2) (.string t405)) (fun _ hk => hk.2) (.slice Ao40 t406.length co40)) (fun _ h_ => h_.1))) hb); have n3_ := Aside0.mk (Kd.R_below (by (with_reducible repeat (first | apply Kd.R_alloc | apply Kd.R_drewN | apply Kd.R_drew)); exact (Kd.R_mono (Kd.R_far (p := ⟨gb410, 1, none⟩) (Kd.R_far (p := ⟨gb410, 0, none⟩) (Kd.R_types HO408.out BK410.out (by decide)) (fun _ hk => hk.2) (.string t405)) (fun _ hk => hk.2) (.slice Ao40 t406.length co40)) (fun _ h_ => h_.1))) hb); have n4_ := Aside0.mk (blk_below (g := gb388) (o := .cells #[.string a0_0, .slice A0_1 l0_1.length c0_1] 41 (0, 0)) (by (with_reducible repeat (first | refine blk_drewN ?_ _ | refine blk_drew ?_ | refine blk_alloc ?_ _)); refine blk_far ?_ NB388_410.out _; (with_reducible repeat (first | refine blk_drewN ?_ _ | refine blk_drew ?_ | refine blk_alloc ?_ _)); refine blk_far ?_ NB388_410.out _; (with_reducible repeat (first | refine blk_drewN ?_ _ | refine blk_drew ?_ | refine blk_alloc ?_ _)); exact BK388.out) hb); have n5_ := Aside0.mk (blk_below (g := gb399) (o := .cells #[.string t394, .slice Ao26 t395.length co26] 27 (0, 0)) (by (with_reducible repeat (first | refine blk_drewN ?_ _ | refine blk_drew ?_ | refine blk_alloc ?_ _)); refine blk_far ?_ NB399_410.out _; (with_reducible repeat (first | refine blk_drewN ?_ _ | refine blk_drew ?_ | refine blk_alloc ?_ _)); refine blk_far ?_ NB399_410.out _; (with_reducible repeat (first | refine blk_drewN ?_ _ | refine blk_drew ?_ | refine blk_alloc ?_ _)); exact BK399.out) hb); have n6_ := Aside0.mk (blk_below (g := gb404) (o := .cells #[.string t400, .slice Ao33 t401.length co33] 27 (0, 0)) (by (with_reducible repeat (first | refine blk_drewN ?_ _ | refine blk_drew ?_ | refine blk_alloc ?_ _)); refine blk_far ?_ NB404_410.out _; (with_reducible repeat (first | refine blk_drewN ?_ _ | refine blk_drew ?_ | refine blk_alloc ?_ _)); refine blk_far ?_ NB404_410.out _; (with_reducible repeat (first | refine blk_drewN ?_ _ | refine blk_drew ?_ | refine blk_alloc ?_ _)); exact BK404.out) hb); have n7_ := Aside0.mk (blk_below (g := gb410) (o := .cells #[.string t405, .slice Ao40 t406.length co40] 27 (0, 0)) (by (with_reducible repeat (first | refine blk_drewN ?_ _ | refine blk_drew ?_ | refine blk_alloc ?_ _)); refine blk_put (cs := #[.string t405, .slice none 0 0]) ?_ 1 _ rfl; (with_reducible repeat (first | refine blk_drewN ?_ _ | refine blk_drew ?_ | refine blk_alloc ?_ _)); refine blk_put (cs := #[.string (⟨#[]⟩ : ByteArray), .slice none 0 0]) ?_ 0 _ rfl; (with_reducible repeat (first | refine blk_drewN ?_ _ | refine blk_drew ?_ | refine blk_alloc ?_ _)); exact BK410.out) hb); have n8_ := Aside0.mk (below_step (by repeat (first | (with_reducible first | exact HB.out | apply below_alloc | apply pw_below_drewN | apply below_drew1 | refine below_set ?_ GE388.out | refine below_set ?_ GE399.out | refine below_set ?_ GE404.out | refine below_set ?_ GE410.out) | exact HB.out)) hb); clear HO393; clear HO397; clear HO403; clear HO408; clear BK388; clear BK399; clear BK404; clear BK410; clear HB; have HO393 := n0_; have HO397 := n1_; have HO403 := n2_; have HO408 := n3_; have BK388 := n4_; have BK399 := n5_; have BK404 := n6_; have BK410 := n7_; have HB := n8_; clear n0_ n1_ n2_ n3_ n4_ n5_ n6_ n7_ n8_; (try clear hb); (try clear hb2); (try clear hk); (try clear hi)))
     go_meet
     case rel => exact ⟨_, (true), (by first | rfl | (simp; done) | (simp [*]; done) | (simp [i64_w, IntKind.wrap_u8, e256_]; done) | (simp; generalize ByteArray.toList _ = zz_; cases zz_ <;> rfl)), H', ⟨by first | omega | exact Nat.le_refl _⟩, ⟨by (with_reducible repeat (first | apply Kd.R_alloc | apply Kd.R_drewN | apply Kd.R_drew)); exact Kd.R_mono HO397.out (fun _ hk => ⟨hk.1.2, hk.2⟩)⟩, ⟨by (with_reducible repeat (first | apply Kd.R_alloc | apply Kd.R_drewN | apply Kd.R_drew)); exact Kd.R_mono HO403.out (fun _ hk => ⟨hk.1.2, hk.2⟩)⟩, ⟨by (with_reducible repeat (first | apply Kd.R_alloc | apply Kd.R_drewN | apply Kd.R_drew)); exact Kd.R_mono HO408.out (fun _ hk => ⟨hk.1.2, hk.2⟩)⟩, ⟨by (with_reducible repeat (first | refine blk_drewN ?_ _ | refine blk_drew ?_ | refine blk_alloc ?_ _)); exact BK388.out⟩, ⟨by (with_reducible repeat (first | refine blk_drewN ?_ _ | refine blk_drew ?_ | refine blk_alloc ?_ _)); exact BK399.out⟩, ⟨by (with_reducible repeat (first | refine blk_drewN ?_ _ | refine blk_drew ?_ | refine blk_alloc ?_ _)); exact BK404.out⟩, ⟨by (with_reducible repeat (first | refine blk_drewN ?_ _ | refine blk_drew ?_ | refine blk_alloc ?_ _)); exact BK410.out⟩, ⟨by repeat (first | (with_reducible first | exact HB.out | apply below_alloc | apply pw_below_drewN | apply below_drew1 | refine below_set ?_ GE388.out | refine below_set ?_ GE399.out | refine below_set ?_ GE404.out | refine below_set ?_ GE410.out) | exact HB.out)⟩⟩
   case rest =>
    clear HC15
    try clear c1
    try clear c2
    try clear p2
    try clear c3
    try clear c4
    try clear c4b0
    try clear c4b1
    try clear c5
    try clear p6
    try clear c7
    try clear c7b0
    try clear c11
    try clear c16
    try clear c17
    try clear c18
    try clear c19
    try clear c24
    try clear c30
    try clear c31
    try clear c36
    try clear c37
    try clear c38
    try clear c42
    try clear c43
    try clear c44
    try clear c45
    try clear c47
    try clear c48
    try clear c51
    try clear c52
    try clear c53
    try clear c55
    try clear c56
    try clear hcz17_0
    try clear hcz17_1
    try clear hcz19_0
    try clear hcz19_1
    try clear hcz25_0
    try clear hcz25_1
    try clear hcz27_0
    try clear hcz27_1
    try clear hcz32_0
    try clear hcz32_1
    try clear hcz39_0
    try clear hcz39_1
    try clear hcz46_0
    try clear hcz46_1
    try clear hcz49_0
    try clear hcz49_1
    try clear hcz54_0
    try clear hcz54_1
    try clear hcz57_0
    try clear hcz57_1
    try clear hcz9_0
    try clear hcz9_1
    try clear hfz17_0
    try clear hfz17_1
    try clear hfz19_0
    try clear hfz19_1
    try clear hfz25_0
    try clear hfz25_1
    try clear hfz27_0
    try clear hfz27_1
    try clear hfz32_0
    try clear hfz32_1
    try clear hfz39_0
    try clear hfz39_1
    try clear hfz46_0
    try clear hfz46_1
    try clear hfz49_0
    try clear hfz49_1
    try clear hfz54_0
    try clear hfz54_1
    try clear hfz57_0
    try clear hfz57_1
    try clear hfz9_0
    try clear hfz9_1
    obtain ⟨kq, x51_14, rfl, HA, HJ14, HO_400001, HO_405001, HO_411001, BK388, BK399, BK404, BK410, HB⟩ := hcut
    cases kq with
    | zero => exact absurd HA.out (by simp [laws_FnExactWithField.j0])
    | succ kj14 =>
     have H := HA.out
     clear HA
     simp only [laws_FnExactWithField.j0] at H
     by_cases c59 : x51_14 = true
     ·subst c59
      have H1 : (some false) = some r := by rw [if_pos rfl] at H; exact H
      clear H
      have H := H1
      clear H1
      obtain rfl := Option.some.inj H
      exact absurd hr_ (by simp)
     ·replace c59 := Bool.eq_false_iff.mpr c59
      subst c59
      have H1 : ((laws_toMsg.f kj14 a0_0 l0_1).bind fun bt412 => ((laws_eqMsg.f kj14 t400 t401 bt412.1 bt412.2).bind fun t416 => (if t416 = true then ((laws_markMsg.f kj14 t400 t401 1).bind fun bt417 => (if bt417.1 < 0 then (laws_FnExactWithField.j1 kj14 a1 a2 t398 true a0_0 l0_1 t394 t395 t405 t406) else ((laws_eqMsg.f kj14 t405 t406 t394 t395).bind fun t419 => (if t419 = true then (laws_FnExactWithField.j1 kj14 a1 a2 t398 (t409 != t398) a0_0 l0_1 t394 t395 t405 t406) else (laws_FnExactWithField.j1 kj14 a1 a2 t398 true a0_0 l0_1 t394 t395 t405 t406))))) else (some false)))) = some r := by rw [if_neg (show ¬ (false = true) by decide)] at H; exact H
      clear H
      have H := H1
      clear H1
      replace H := Option.bind_eq_some_iff.mp H
      obtain ⟨⟨t412, t413⟩, A600, H⟩ := H
      replace H : ((laws_eqMsg.f kj14 t400 t401 t412 t413).bind fun t416 => (if t416 = true then ((laws_markMsg.f kj14 t400 t401 1).bind fun bt417 => (if bt417.1 < 0 then (laws_FnExactWithField.j1 kj14 a1 a2 t398 true a0_0 l0_1 t394 t395 t405 t406) else ((laws_eqMsg.f kj14 t405 t406 t394 t395).bind fun t419 => (if t419 = true then (laws_FnExactWithField.j1 kj14 a1 a2 t398 (t409 != t398) a0_0 l0_1 t394 t395 t405 t406) else (laws_FnExactWithField.j1 kj14 a1 a2 t398 true a0_0 l0_1 t394 t395 t405 t406))))) else (some false))) = some r := H
      have A60 := Aside0.mk A600
      clear A600
      replace H := Option.bind_eq_some_iff.mp H
      obtain ⟨t416, A610, H⟩ := H
      replace H : (if t416 = true then ((laws_markMsg.f kj14 t400 t401 1).bind fun bt417 => (if bt417.1 < 0 then (laws_FnExactWithField.j1 kj14 a1 a2 t398 true a0_0 l0_1 t394 t395 t405 t406) else ((laws_eqMsg.f kj14 t405 t406 t394 t395).bind fun t419 => (if t419 = true then (laws_FnExactWithField.j1 kj14 a1 a2 t398 (t409 != t398) a0_0 l0_1 t394 t395 t405 t406) else (laws_FnExactWithField.j1 kj14 a1 a2 t398 true a0_0 l0_1 t394 t395 t405 t406))))) else (some false)) = some r := H
      have A61 := Aside0.mk A610
      clear A610
      by_cases c62 : t416 = true
      ·subst c62
       have H1 : ((laws_markMsg.f kj14 t400 t401 1).bind fun bt417 => (if bt417.1 < 0 then (laws_FnExactWithField.j1 kj14 a1 a2 t398 true a0_0 l0_1 t394 t395 t405 t406) else ((laws_eqMsg.f kj14 t405 t406 t394 t395).bind fun t419 => (if t419 = true then (laws_FnExactWithField.j1 kj14 a1 a2 t398 (t409 != t398) a0_0 l0_1 t394 t395 t405 t406) else (laws_FnExactWithField.j1 kj14 a1 a2 t398 true a0_0 l0_1 t394 t395 t405 t406))))) = some r := by rw [if_pos rfl] at H; exact H
       clear H
       have H := H1
       clear H1
       replace H := Option.bind_eq_some_iff.mp H
       obtain ⟨⟨t417, t418⟩, A630, H⟩ := H
       replace H : (if t417 < 0 then (laws_FnExactWithField.j1 kj14 a1 a2 t398 true a0_0 l0_1 t394 t395 t405 t406) else ((laws_eqMsg.f kj14 t405 t406 t394 t395).bind fun t419 => (if t419 = true then (laws_FnExactWithField.j1 kj14 a1 a2 t398 (t409 != t398) a0_0 l0_1 t394 t395 t405 t406) else (laws_FnExactWithField.j1 kj14 a1 a2 t398 true a0_0 l0_1 t394 t395 t405 t406)))) = some r := H
       have A63 := Aside0.mk A630
       clear A630
       have HC64 := Aside0.mk H
       clear H
       try go_wp2
       have n0_ := Aside0.mk (Kd.R_drew HO_400001.out)
       have n1_ := Aside0.mk (Kd.R_drew HO_405001.out)
       have n2_ := Aside0.mk (Kd.R_drew HO_411001.out)
       have n3_ := Aside0.mk (blk_drew BK388.out)
       have n4_ := Aside0.mk (blk_drew BK399.out)
       have n5_ := Aside0.mk (blk_drew BK404.out)
       have n6_ := Aside0.mk (blk_drew BK410.out)
       have n7_ := Aside0.mk (below_drew1 HB.out)
       clear HO_400001
       clear HO_405001
       clear HO_411001
       clear BK388
       clear BK399
       clear BK404
       clear BK410
       clear HB
       have HO_400001 := n0_
       have HO_405001 := n1_
       have HO_411001 := n2_
       have BK388 := n3_
       have BK399 := n4_
       have BK404 := n5_
       have BK410 := n6_
       have HB := n7_
       clear n0_ n1_ n2_ n3_ n4_ n5_ n6_ n7_
       refine start_ (n := 5) (S := fun w' => w'.cell? ⟨gb404, 0, none⟩ = some (.string t400) ∧ w'.cell? ⟨gb404, 1, none⟩ = some (.slice Ao33 t401.length co33) ∧ w'.cell? ⟨gb388, 0, none⟩ = some (.string a0_0) ∧ w'.cell? ⟨gb388, 1, none⟩ = some (.slice A0_1 l0_1.length c0_1)) (ds := []) #[false, false, false, false, false] (by kernel_rfl) rfl rfl ⟨(blk_cell BK404.out 0).trans rfl, (blk_cell BK404.out 1).trans rfl, (blk_cell BK388.out 0).trans rfl, (blk_cell BK388.out 1).trans rfl⟩ (fun hHeld => ?_)
       generalize wc.drew = w65 at HO_400001 HO_405001 HO_411001 BK388 BK399 BK404 BK410 HB hHeld ⊢
       refine take_ (i := 0) (N := some 52) (v := ?_) (a' := ?_) #[true, false, false, false, false] rfl rfl (by kernel_rfl) (fun _ _ _ h => h) (Or.inl ⟨by rfl, ?_⟩) hHeld ?_ ?_
       rotate_left
       ·rintro w' ⟨s0, s1, s2, s3⟩
        go_simp
        with_reducible rfl
       rotate_left
       ·simp only [Act.put, List.setIfInBounds_toArray, List.set_cons_zero, List.set_cons_succ, i64_w, i32_w]
        rfl
       refine take_ (i := 1) (N := some 53) (v := ?_) (a' := ?_) #[true, true, false, false, false] rfl rfl (by kernel_rfl) (fun _ _ _ h => h) (Or.inl ⟨by rfl, ?_⟩) hHeld ?_ ?_
       rotate_left
       ·rintro w' ⟨s0, s1, s2, s3⟩
        go_simp
        with_reducible rfl
       rotate_left
       ·simp only [Act.put, List.setIfInBounds_toArray, List.set_cons_zero, List.set_cons_succ, i64_w, i32_w]
        rfl
       refine one_ (i := 2) (N := some 54) #[true, true, true, false, false] rfl rfl (by kernel_rfl) (by decide) (fun K hK => ?_)
       refine goes_ Try.func18 (by kernel_rfl) rfl #[.agg #[.string a0_0, .slice A0_1 l0_1.length c0_1]] (by rfl) rfl rfl (by (try simp only [List.map_toArray, List.map_cons, List.map_nil]); first | done | rfl | (simp only [List.length_drop, List.length_take]; rfl)) ?_
       with_reducible refine (laws_toMsg.calls kj14 a0_0 _ _ l0_1 t412 t413 _ ?side1 ?side2 A60.out).mono ?_
       (case side1 => repeat (first | exact (Kd.C_below HR0_1.out HB.out) | (with_reducible refine Kd.C_alloc ?_ _) | (with_reducible refine Kd.C_drewN ?_ _) | (with_reducible refine Kd.C_drew ?_)))
       (case side2 => exact HC0_1.out)
       rintro e w66 ⟨v414, rfl, ho0, hb⟩
       refine ⟨_, rfl, ?_⟩
       have n0_ := Aside0.mk (Kd.R_elder' (by (with_reducible repeat (first | apply Kd.R_alloc | apply Kd.R_drewN | apply Kd.R_drew)); exact HO_400001.out) (Kd.R_base ho0) hb)
       have n1_ := Aside0.mk (Kd.R_elder' (by (with_reducible repeat (first | apply Kd.R_alloc | apply Kd.R_drewN | apply Kd.R_drew)); exact HO_405001.out) (Kd.R_base ho0) hb)
       have n2_ := Aside0.mk (Kd.R_elder' (by (with_reducible repeat (first | apply Kd.R_alloc | apply Kd.R_drewN | apply Kd.R_drew)); exact HO_411001.out) (Kd.R_base ho0) hb)
       have n3_ := Aside0.mk (Kd.R_lower (Kd.R_new' (Kd.R_new' (Kd.R_new' ho0 (Kd.R_lt (by (with_reducible repeat (first | apply Kd.R_alloc | apply Kd.R_drewN | apply Kd.R_drew)); exact HO_400001.out))) (Kd.R_lt (by (with_reducible repeat (first | apply Kd.R_alloc | apply Kd.R_drewN | apply Kd.R_drew)); exact HO_405001.out))) (Kd.R_lt (by (with_reducible repeat (first | apply Kd.R_alloc | apply Kd.R_drewN | apply Kd.R_drew)); exact HO_411001.out))) (below_size (by repeat (first | (with_reducible first | exact HB.out | apply below_alloc | apply pw_below_drewN | apply below_drew1 | refine below_set ?_ GE388.out | refine below_set ?_ GE399.out | refine below_set ?_ GE404.out | refine below_set ?_ GE410.out) | exact HB.out))))
       have n4_ := Aside0.mk (blk_below (g := gb388) (o := .cells #[.string a0_0, .slice A0_1 l0_1.length c0_1] 41 (0, 0)) (by (with_reducible repeat (first | refine blk_drewN ?_ _ | refine blk_drew ?_ | refine blk_alloc ?_ _)); exact BK388.out) hb)
       have n5_ := Aside0.mk (blk_below (g := gb399) (o := .cells #[.string t394, .slice Ao26 t395.length co26] 27 (0, 0)) (by (with_reducible repeat (first | refine blk_drewN ?_ _ | refine blk_drew ?_ | refine blk_alloc ?_ _)); exact BK399.out) hb)
       have n6_ := Aside0.mk (blk_below (g := gb404) (o := .cells #[.string t400, .slice Ao33 t401.length co33] 27 (0, 0)) (by (with_reducible repeat (first | refine blk_drewN ?_ _ | refine blk_drew ?_ | refine blk_alloc ?_ _)); exact BK404.out) hb)
       have n7_ := Aside0.mk (blk_below (g := gb410) (o := .cells #[.string t405, .slice Ao40 t406.length co40] 27 (0, 0)) (by (with_reducible repeat (first | refine blk_drewN ?_ _ | refine blk_drew ?_ | refine blk_alloc ?_ _)); exact BK410.out) hb)
       have n8_ := Aside0.mk (below_step (by repeat (first | (with_reducible first | exact HB.out | apply below_alloc | apply pw_below_drewN | apply below_drew1 | refine below_set ?_ GE388.out | refine below_set ?_ GE399.out | refine below_set ?_ GE404.out | refine below_set ?_ GE410.out) | exact HB.out)) hb)
       clear HO_400001
       clear HO_405001
       clear HO_411001
       clear BK388
       clear BK399
       clear BK404
       clear BK410
       clear HB
       have HO_400001 := n0_
       have HO_405001 := n1_
       have HO_411001 := n2_
       have HO415 := n3_
       have BK388 := n4_
       have BK399 := n5_
       have BK404 := n6_
       have BK410 := n7_
       have HB := n8_
       clear n0_ n1_ n2_ n3_ n4_ n5_ n6_ n7_ n8_
       (try clear hb)
       (try clear hb2)
       (try clear hk)
       (try clear hi)
       (try clear ho0)
       obtain ⟨Ao67, co67, eo67⟩ := Kd.R_slice HO415.out
       (first | subst eo67 | (injection eo67 with f1_ f2_ f3_; have f4_ := f1_.symm; have f5_ := f3_.symm; clear f1_ f2_ f3_; subst f4_; subst f5_))
       refine hK.out _ _ ⟨(blk_cell BK404.out 0).trans rfl, (blk_cell BK404.out 1).trans rfl, (blk_cell BK388.out 0).trans rfl, (blk_cell BK388.out 1).trans rfl⟩ (fun hHeld => ?_)
       clear hK K
       refine norm_ (a' := ?_) ?_ ?_
       rotate_left
       ·show Act.put _ (some 54) _ = _
        simp only [Act.put, List.setIfInBounds_toArray, List.set_cons_zero, List.set_cons_succ, i64_w, i32_w]
        rfl
       refine one_ (i := 3) (N := some 55) #[true, true, true, true, false] rfl rfl (by kernel_rfl) (by decide) (fun K hK => ?_)
       refine goes_ Try.func19 (by kernel_rfl) rfl #[.agg #[.string t400, .slice Ao33 t401.length co33], .agg #[.string t412, .slice Ao67 t413.length co67]] (by rfl) rfl rfl (by (try simp only [List.map_toArray, List.map_cons, List.map_nil]); first | done | rfl | (simp only [List.length_drop, List.length_take]; rfl)) ?_
       with_reducible refine (laws_eqMsg.calls kj14 t400 _ _ t401 t412 _ _ t413 true _ ?side1 ?side2 ?side3 ?side4 A61.out).mono ?_
       (case side1 => repeat (first | exact (Kd.R_reads' HO_405001.out).2.2 | (with_reducible refine Kd.C_alloc ?_ _) | (with_reducible refine Kd.C_drewN ?_ _) | (with_reducible refine Kd.C_drew ?_)))
       (case side2 => exact (Kd.R_reads' HO_405001.out).2.1)
       (case side3 => repeat (first | exact (Kd.R_reads' HO415.out).2.2 | (with_reducible refine Kd.C_alloc ?_ _) | (with_reducible refine Kd.C_drewN ?_ _) | (with_reducible refine Kd.C_drew ?_)))
       (case side4 => exact (Kd.R_reads' HO415.out).2.1)
       rintro e w68 ⟨rfl, hb⟩
       refine ⟨_, rfl, ?_⟩
       have n0_ := Aside0.mk (Kd.R_below (by (with_reducible repeat (first | apply Kd.R_alloc | apply Kd.R_drewN | apply Kd.R_drew)); exact HO_400001.out) hb)
       have n1_ := Aside0.mk (Kd.R_below (by (with_reducible repeat (first | apply Kd.R_alloc | apply Kd.R_drewN | apply Kd.R_drew)); exact HO_405001.out) hb)
       have n2_ := Aside0.mk (Kd.R_below (by (with_reducible repeat (first | apply Kd.R_alloc | apply Kd.R_drewN | apply Kd.R_drew)); exact HO_411001.out) hb)
       have n3_ := Aside0.mk (Kd.R_below (by (with_reducible repeat (first | apply Kd.R_alloc | apply Kd.R_drewN | apply Kd.R_drew)); exact HO415.out) hb)
       have n4_ := Aside0.mk (blk_below (g := gb388) (o := .cells #[.string a0_0, .slice A0_1 l0_1.length c0_1] 41 (0, 0)) (by (with_reducible repeat (first | refine blk_drewN ?_ _ | refine blk_drew ?_ | refine blk_alloc ?_ _)); exact BK388.out) hb)
       have n5_ := Aside0.mk (blk_below (g := gb399) (o := .cells #[.string t394, .slice Ao26 t395.length co26] 27 (0, 0)) (by (with_reducible repeat (first | refine blk_drewN ?_ _ | refine blk_drew ?_ | refine blk_alloc ?_ _)); exact BK399.out) hb)
       have n6_ := Aside0.mk (blk_below (g := gb404) (o := .cells #[.string t400, .slice Ao33 t401.length co33] 27 (0, 0)) (by (with_reducible repeat (first | refine blk_drewN ?_ _ | refine blk_drew ?_ | refine blk_alloc ?_ _)); exact BK404.out) hb)
       have n7_ := Aside0.mk (blk_below (g := gb410) (o := .cells #[.string t405, .slice Ao40 t406.length co40] 27 (0, 0)) (by (with_reducible repeat (first | refine blk_drewN ?_ _ | refine blk_drew ?_ | refine blk_alloc ?_ _)); exact BK410.out) hb)
       have n8_ := Aside0.mk (below_step (by repeat (first | (with_reducible first | exact HB.out | apply below_alloc | apply pw_below_drewN | apply below_drew1 | refine below_set ?_ GE388.out | refine below_set ?_ GE399.out | refine below_set ?_ GE404.out | refine below_set ?_ GE410.out) | exact HB.out)) hb)
       clear HO_400001
       clear HO_405001
       clear HO_411001
       clear HO415
       clear BK388
       clear BK399
       clear BK404
       clear BK410
       clear HB
       have HO_400001 := n0_
       have HO_405001 := n1_
       have HO_411001 := n2_
       have HO415 := n3_
       have BK388 := n4_
       have BK399 := n5_
       have BK404 := n6_
       have BK410 := n7_
       have HB := n8_
       clear n0_ n1_ n2_ n3_ n4_ n5_ n6_ n7_ n8_
       (try clear hb)
       (try clear hb2)
       (try clear hk)
       (try clear hi)
       refine hK.out _ _ ⟨(blk_cell BK404.out 0).trans rfl, (blk_cell BK404.out 1).trans rfl, (blk_cell BK388.out 0).trans rfl, (blk_cell BK388.out 1).trans rfl⟩ (fun hHeld => ?_)
       clear hK K
       refine norm_ (a' := ?_) ?_ ?_
       rotate_left
       ·show Act.put _ (some 55) _ = _
        simp only [Act.put, List.setIfInBounds_toArray, List.set_cons_zero, List.set_cons_succ, i64_w, i32_w]
        rfl
       refine pure_ (i := 4) (N := some 56) (v := ?_) (a' := ?_) #[true, true, true, true, true] rfl rfl (by kernel_rfl) (fun _ _ _ h => h) (Or.inl ⟨by rfl, ?_⟩) ?_ ?_
       rotate_left
       ·intro w'
        go_simp
        with_reducible rfl
       rotate_left
       ·simp only [Act.put, List.setIfInBounds_toArray, List.set_cons_zero, List.set_cons_succ, i64_w, i32_w]
        rfl
       refine done_ (by kernel_rfl) ?_
       have hnb69 := NB404_388.out
       have hnc69 := NB388_404.out
       have hnb70 := NB404_399.out
       have hnc70 := NB399_404.out
       have hnb71 := NB404_410.out
       have hnc71 := NB410_404.out
       have hcz72_0 : w68.cell? ⟨gb404, 0, none⟩ = some (.string t400) := (blk_cell BK404.out 0).trans rfl
       have hcz72_1 : w68.cell? ⟨gb404, 1, none⟩ = some (.slice Ao33 t401.length co33) := (blk_cell BK404.out 1).trans rfl
       have hfz72_0 := blk_frozen BK404.out 0
       have hfz72_1 := blk_frozen BK404.out 1
       go_upto_region 16 with (first | ((with_reducible refine gate_callee (f := 20) rfl ?_); refine goesL_ (some 59) rfl rfl Try.func20 (by kernel_rfl) rfl #[.agg #[.string t400, .slice Ao33 t401.length co33], .int .i64 1] rfl (by (try simp only [List.map_toArray, List.map_cons, List.map_nil]); first | done | rfl | (simp only [List.length_drop, List.length_take]; rfl)) ?_; (with_reducible refine (laws_markMsg.calls kj14 t400 (fun k_ => some k_ = (.slice Ao33 t401.length co33 : Value).ownBlock) (.slice Ao33 t401.length co33) t401 1 t417 t418 w _ ?side1 ?side2 A63.out).mono ?_); (case side1 => repeat (first | (with_reducible first | exact HB.out | apply below_alloc | apply pw_below_drewN | apply below_drew1 | refine below_set ?_ GE388.out | refine below_set ?_ GE399.out | refine below_set ?_ GE404.out | refine below_set ?_ GE410.out) | exact HB.out)); (case side2 => exact Kd.R_tight rfl HO_405001.out); rintro e w73 ⟨rfl, hy0, hb, hkp⟩; refine ⟨_, rfl, ?_⟩; have n0_ := Aside0.mk (Kd.R_mono (ok' := fun k_ => some k_ ≠ (.slice Ao33 t401.length co33 : Value).ownBlock ∧ some k_ ≠ (.slice Ao40 t406.length co40 : Value).ownBlock ∧ some k_ ≠ (.slice Ao67 t413.length co67 : Value).ownBlock) (Kd.R_keptB (HO_400001.out) hkp (fun k_ hk_ hs_ => (hk_.1.1) hs_)) (fun k_ hk_ => ⟨hk_.1.1.1, hk_.1.1.2, hk_.1.2⟩)); have n1_ := Aside0.mk (Kd.R_reok rfl hy0 (fun k_ e_ => HO_405001.out.1 k_ e_)); have n2_ := Aside0.mk (Kd.R_mono (ok' := fun k_ => some k_ ≠ (.slice Ao26 t395.length co26 : Value).ownBlock ∧ some k_ ≠ (.slice Ao33 t401.length co33 : Value).ownBlock ∧ some k_ ≠ (.slice Ao67 t413.length co67 : Value).ownBlock) (Kd.R_keptB (HO_411001.out) hkp (fun k_ hk_ hs_ => (hk_.1.2) hs_)) (fun k_ hk_ => ⟨hk_.1.1.1, hk_.1.1.2, hk_.1.2⟩)); have n3_ := Aside0.mk (blk_kept (by (with_reducible repeat (first | refine blk_drewN ?_ _ | refine blk_drew ?_ | refine blk_alloc ?_ _)); exact BK388.out) hkp (fun hs_ => (fun e_ => (Kd.R_ne HO_405001.out BK388.out (by decide)) e_) hs_)); have n4_ := Aside0.mk (blk_kept (by (with_reducible repeat (first | refine blk_drewN ?_ _ | refine blk_drew ?_ | refine blk_alloc ?_ _)); exact BK399.out) hkp (fun hs_ => (fun e_ => (Kd.R_ne HO_405001.out BK399.out (by decide)) e_) hs_)); have n5_ := Aside0.mk (blk_kept (by (with_reducible repeat (first | refine blk_drewN ?_ _ | refine blk_drew ?_ | refine blk_alloc ?_ _)); exact BK404.out) hkp (fun hs_ => (fun e_ => (Kd.R_ne HO_405001.out BK404.out (by decide)) e_) hs_)); have n6_ := Aside0.mk (blk_kept (by (with_reducible repeat (first | refine blk_drewN ?_ _ | refine blk_drew ?_ | refine blk_alloc ?_ _)); exact BK410.out) hkp (fun hs_ => (fun e_ => (Kd.R_ne HO_405001.out BK410.out (by decide)) e_) hs_)); have n7_ := Aside0.mk (Kd.R_mono (ok' := fun k_ => some k_ ≠ (.slice Ao26 t395.length co26 : Value).ownBlock ∧ some k_ ≠ (.slice Ao33 t401.length co33 : Value).ownBlock ∧ some k_ ≠ (.slice Ao40 t406.length co40 : Value).ownBlock) (Kd.R_keptB (HO415.out) hkp (fun k_ hk_ hs_ => (hk_.1.2) hs_)) (fun k_ hk_ => ⟨hk_.1.1.1.2, hk_.1.1.2, hk_.1.2⟩)); have n8_ := Aside0.mk (hb); clear HO_400001; clear HO_405001; clear HO_411001; clear BK388; clear BK399; clear BK404; clear BK410; clear HO415; clear HB; have HO_400001 := n0_; have HO_405001 := n1_; have HO_411001 := n2_; have BK388 := n3_; have BK399 := n4_; have BK404 := n5_; have BK410 := n6_; have HO415 := n7_; have HB := n8_; clear n0_ n1_ n2_ n3_ n4_ n5_ n6_ n7_ n8_; (try clear hb); (try clear hkp); (try clear hy0)))
       (try simp only [Act.put, List.setIfInBounds_toArray, List.set_cons_zero, List.set_cons_succ])
       go_cut [72] (fun v72 wc => ∃ (kq : Nat) (x72_63 : Bool), v72 = .bool x72_63 ∧ Aside0 (laws_FnExactWithField.j1 kq a1 a2 t398 x72_63 a0_0 l0_1 t394 t395 t405 t406 = some r) ∧ Aside0 (kq ≤ kj14) ∧ Aside0 (Kd.R k58 58 wc w.heap.size (fun k_ => some k_ ≠ ((.slice Ao33 t401.length co33) : Value).ownBlock ∧ some k_ ≠ ((.slice Ao40 t406.length co40) : Value).ownBlock) (.slice Ao26 t395.length co26) t395) ∧ Aside0 (Kd.R k58 58 wc w.heap.size (fun k_ => some k_ ≠ ((.slice Ao26 t395.length co26) : Value).ownBlock ∧ some k_ ≠ ((.slice Ao40 t406.length co40) : Value).ownBlock) (.slice Ao33 t401.length co33) t418) ∧ Aside0 (Kd.R k58 58 wc w.heap.size (fun k_ => some k_ ≠ ((.slice Ao26 t395.length co26) : Value).ownBlock ∧ some k_ ≠ ((.slice Ao33 t401.length co33) : Value).ownBlock) (.slice Ao40 t406.length co40) t406) ∧ Aside0 (wc.heap[gb388]? = some (.cells #[.string a0_0, (.slice A0_1 l0_1.length c0_1)] 41 (0, 0))) ∧ Aside0 (wc.heap[gb399]? = some (.cells #[.string t394, (.slice Ao26 t395.length co26)] 27 (0, 0))) ∧ Aside0 (wc.heap[gb404]? = some (.cells #[.string t400, (.slice Ao33 t401.length co33)] 27 (0, 0))) ∧ Aside0 (wc.heap[gb410]? = some (.cells #[.string t405, (.slice Ao40 t406.length co40)] 27 (0, 0))) ∧ Aside0 (Below w.heap.size w wc))
       case first =>
        have H := HC64.out
        clear HC64
        by_cases c74 : t417 < 0
        ·rw [if_pos c74] at H
         have c74b0 : decide (t417 < 0) = true := decide_eq_true c74
         clear c74
         (first | rw [c74b0] | (simp only [i64_w, i32_w]; rw [c74b0]) | skip)
         have H' := Aside0.mk H
         clear H
         go_wp2
         go_meet
         case rel => exact ⟨_, (true), (by first | rfl | (simp; done) | (simp [*]; done) | (simp [i64_w, IntKind.wrap_u8, e256_]; done) | (simp; generalize ByteArray.toList _ = zz_; cases zz_ <;> rfl)), H', ⟨by have := HJ14.out; first | omega | exact Nat.le_refl _⟩, ⟨by (with_reducible repeat (first | apply Kd.R_alloc | apply Kd.R_drewN | apply Kd.R_drew)); exact Kd.R_mono HO_400001.out (fun _ hk => ⟨hk.1, hk.2.1⟩)⟩, ⟨by (with_reducible repeat (first | apply Kd.R_alloc | apply Kd.R_drewN | apply Kd.R_drew)); exact Kd.R_mono HO_405001.out (fun _ hk => ⟨hk.1.1, hk.1.2⟩)⟩, ⟨by (with_reducible repeat (first | apply Kd.R_alloc | apply Kd.R_drewN | apply Kd.R_drew)); exact Kd.R_mono HO_411001.out (fun _ hk => ⟨hk.1, hk.2.1⟩)⟩, ⟨by (with_reducible repeat (first | refine blk_drewN ?_ _ | refine blk_drew ?_ | refine blk_alloc ?_ _)); exact BK388.out⟩, ⟨by (with_reducible repeat (first | refine blk_drewN ?_ _ | refine blk_drew ?_ | refine blk_alloc ?_ _)); exact BK399.out⟩, ⟨by (with_reducible repeat (first | refine blk_drewN ?_ _ | refine blk_drew ?_ | refine blk_alloc ?_ _)); exact BK404.out⟩, ⟨by (with_reducible repeat (first | refine blk_drewN ?_ _ | refine blk_drew ?_ | refine blk_alloc ?_ _)); exact BK410.out⟩, ⟨by repeat (first | (with_reducible first | exact HB.out | apply below_alloc | apply pw_below_drewN | apply below_drew1 | refine below_set ?_ GE388.out | refine below_set ?_ GE399.out | refine below_set ?_ GE404.out | refine below_set ?_ GE410.out) | exact HB.out)⟩⟩
        ·rw [if_neg c74] at H
         have c74b0 : decide (t417 < 0) = false := decide_eq_false c74
         clear c74
         (first | rw [c74b0] | (simp only [i64_w, i32_w]; rw [c74b0]) | skip)
         replace H := Option.bind_eq_some_iff.mp H
         obtain ⟨t419, A750, H⟩ := H
         replace H : (if t419 = true then (laws_FnExactWithField.j1 kj14 a1 a2 t398 (t409 != t398) a0_0 l0_1 t394 t395 t405 t406) else (laws_FnExactWithField.j1 kj14 a1 a2 t398 true a0_0 l0_1 t394 t395 t405 t406)) = some r := H
         have A75 := Aside0.mk A750
         clear A750
         by_cases c76 : t419 = true
         ·subst c76
          have H1 : (laws_FnExactWithField.j1 kj14 a1 a2 t398 (t409 != t398) a0_0 l0_1 t394 t395 t405 t406) = some r := by rw [if_pos rfl] at H; exact H
          clear H
          have H := H1
          clear H1
          have H' := Aside0.mk H
          clear H
          have hnb77 := NB410_388.out
          have hnc77 := NB388_410.out
          have hnb78 := NB410_399.out
          have hnc78 := NB399_410.out
          have hnb79 := NB410_404.out
          have hnc79 := NB404_410.out
          have hcz80_0 : w73.cell? ⟨gb410, 0, none⟩ = some (.string t405) := (blk_cell BK410.out 0).trans rfl
          have hcz80_1 : w73.cell? ⟨gb410, 1, none⟩ = some (.slice Ao40 t406.length co40) := (blk_cell BK410.out 1).trans rfl
          have hfz80_0 := blk_frozen BK410.out 0
          have hfz80_1 := blk_frozen BK410.out 1
          have hnb81 := NB399_388.out
          have hnc81 := NB388_399.out
          have hnb82 := NB399_404.out
          have hnc82 := NB404_399.out
          have hcz83_0 : w73.cell? ⟨gb399, 0, none⟩ = some (.string t394) := (blk_cell BK399.out 0).trans rfl
          have hcz83_1 : w73.cell? ⟨gb399, 1, none⟩ = some (.slice Ao26 t395.length co26) := (blk_cell BK399.out 1).trans rfl
          have hfz83_0 := blk_frozen BK399.out 0
          have hfz83_1 := blk_frozen BK399.out 1
          go_wp2_with (first | (go_at_call 19; (with_reducible refine (laws_eqMsg.calls kj14 t405 _ _ t406 t394 _ _ t395 true _ ?side1 ?side2 ?side3 ?side4 A75.out).mono ?_); (case side1 => repeat (first | exact (Kd.R_reads' HO_411001.out).2.2 | (with_reducible refine Kd.C_alloc ?_ _) | (with_reducible refine Kd.C_drewN ?_ _) | (with_reducible refine Kd.C_drew ?_))); (case side2 => exact (Kd.R_reads' HO_411001.out).2.1); (case side3 => repeat (first | exact (Kd.R_reads' HO_400001.out).2.2 | (with_reducible refine Kd.C_alloc ?_ _) | (with_reducible refine Kd.C_drewN ?_ _) | (with_reducible refine Kd.C_drew ?_))); (case side4 => exact (Kd.R_reads' HO_400001.out).2.1); rintro e w84 ⟨rfl, hb⟩; have n0_ := Aside0.mk (Kd.R_below (by (with_reducible repeat (first | apply Kd.R_alloc | apply Kd.R_drewN | apply Kd.R_drew)); exact HO_400001.out) hb); have n1_ := Aside0.mk (Kd.R_below (by (with_reducible repeat (first | apply Kd.R_alloc | apply Kd.R_drewN | apply Kd.R_drew)); exact HO_405001.out) hb); have n2_ := Aside0.mk (Kd.R_below (by (with_reducible repeat (first | apply Kd.R_alloc | apply Kd.R_drewN | apply Kd.R_drew)); exact HO_411001.out) hb); have n3_ := Aside0.mk (Kd.R_below (by (with_reducible repeat (first | apply Kd.R_alloc | apply Kd.R_drewN | apply Kd.R_drew)); exact HO415.out) hb); have n4_ := Aside0.mk (blk_below (g := gb388) (o := .cells #[.string a0_0, .slice A0_1 l0_1.length c0_1] 41 (0, 0)) (by (with_reducible repeat (first | refine blk_drewN ?_ _ | refine blk_drew ?_ | refine blk_alloc ?_ _)); exact BK388.out) hb); have n5_ := Aside0.mk (blk_below (g := gb399) (o := .cells #[.string t394, .slice Ao26 t395.length co26] 27 (0, 0)) (by (with_reducible repeat (first | refine blk_drewN ?_ _ | refine blk_drew ?_ | refine blk_alloc ?_ _)); exact BK399.out) hb); have n6_ := Aside0.mk (blk_below (g := gb404) (o := .cells #[.string t400, .slice Ao33 t401.length co33] 27 (0, 0)) (by (with_reducible repeat (first | refine blk_drewN ?_ _ | refine blk_drew ?_ | refine blk_alloc ?_ _)); exact BK404.out) hb); have n7_ := Aside0.mk (blk_below (g := gb410) (o := .cells #[.string t405, .slice Ao40 t406.length co40] 27 (0, 0)) (by (with_reducible repeat (first | refine blk_drewN ?_ _ | refine blk_drew ?_ | refine blk_alloc ?_ _)); exact BK410.out) hb); have n8_ := Aside0.mk (below_step (by repeat (first | (with_reducible first | exact HB.out | apply below_alloc | apply pw_below_drewN | apply below_drew1 | refine below_set ?_ GE388.out | refine below_set ?_ GE399.out | refine below_set ?_ GE404.out | refine below_set ?_ GE410.out) | exact HB.out)) hb); clear HO_400001; clear HO_405001; clear HO_411001; clear HO415; clear BK388; clear BK399; clear BK404; clear BK410; clear HB; have HO_400001 := n0_; have HO_405001 := n1_; have HO_411001 := n2_; have HO415 := n3_; have BK388 := n4_; have BK399 := n5_; have BK404 := n6_; have BK410 := n7_; have HB := n8_; clear n0_ n1_ n2_ n3_ n4_ n5_ n6_ n7_ n8_; (try clear hb); (try clear hb2); (try clear hk); (try clear hi)))
          go_meet
          case rel => exact ⟨_, ((t409 != t398)), (by first | rfl | (simp; done) | (simp [*]; done) | (simp [i64_w, IntKind.wrap_u8, e256_]; done) | (simp; generalize ByteArray.toList _ = zz_; cases zz_ <;> rfl)), H', ⟨by have := HJ14.out; first | omega | exact Nat.le_refl _⟩, ⟨by (with_reducible repeat (first | apply Kd.R_alloc | apply Kd.R_drewN | apply Kd.R_drew)); exact Kd.R_mono HO_400001.out (fun _ hk => ⟨hk.1, hk.2.1⟩)⟩, ⟨by (with_reducible repeat (first | apply Kd.R_alloc | apply Kd.R_drewN | apply Kd.R_drew)); exact Kd.R_mono HO_405001.out (fun _ hk => ⟨hk.1.1, hk.1.2⟩)⟩, ⟨by (with_reducible repeat (first | apply Kd.R_alloc | apply Kd.R_drewN | apply Kd.R_drew)); exact Kd.R_mono HO_411001.out (fun _ hk => ⟨hk.1, hk.2.1⟩)⟩, ⟨by (with_reducible repeat (first | refine blk_drewN ?_ _ | refine blk_drew ?_ | refine blk_alloc ?_ _)); exact BK388.out⟩, ⟨by (with_reducible repeat (first | refine blk_drewN ?_ _ | refine blk_drew ?_ | refine blk_alloc ?_ _)); exact BK399.out⟩, ⟨by (with_reducible repeat (first | refine blk_drewN ?_ _ | refine blk_drew ?_ | refine blk_alloc ?_ _)); exact BK404.out⟩, ⟨by (with_reducible repeat (first | refine blk_drewN ?_ _ | refine blk_drew ?_ | refine blk_alloc ?_ _)); exact BK410.out⟩, ⟨by repeat (first | (with_reducible first | exact HB.out | apply below_alloc | apply pw_below_drewN | apply below_drew1 | refine below_set ?_ GE388.out | refine below_set ?_ GE399.out | refine below_set ?_ GE404.out | refine below_set ?_ GE410.out) | exact HB.out)⟩⟩
         ·replace c76 := Bool.eq_false_iff.mpr c76
          subst c76
          have H1 : (laws_FnExactWithField.j1 kj14 a1 a2 t398 true a0_0 l0_1 t394 t395 t405 t406) = some r := by rw [if_neg (show ¬ (false = true) by decide)] at H; exact H
          clear H
          have H := H1
          clear H1
          have H' := Aside0.mk H
          clear H
          have hnb85 := NB410_388.out
          have hnc85 := NB388_410.out
          have hnb86 := NB410_399.out
          have hnc86 := NB399_410.out
          have hnb87 := NB410_404.out
          have hnc87 := NB404_410.out
          have hcz88_0 : w73.cell? ⟨gb410, 0, none⟩ = some (.string t405) := (blk_cell BK410.out 0).trans rfl
          have hcz88_1 : w73.cell? ⟨gb410, 1, none⟩ = some (.slice Ao40 t406.length co40) := (blk_cell BK410.out 1).trans rfl
          have hfz88_0 := blk_frozen BK410.out 0
          have hfz88_1 := blk_frozen BK410.out 1
          have hnb89 := NB399_388.out
          have hnc89 := NB388_399.out
          have hnb90 := NB399_404.out
          have hnc90 := NB404_399.out
          have hcz91_0 : w73.cell? ⟨gb399, 0, none⟩ = some (.string t394) := (blk_cell BK399.out 0).trans rfl
          have hcz91_1 : w73.cell? ⟨gb399, 1, none⟩ = some (.slice Ao26 t395.length co26) := (blk_cell BK399.out 1).trans rfl
          have hfz91_0 := blk_frozen BK399.out 0
          have hfz91_1 := blk_frozen BK399.out 1
          go_wp2_with (first | (go_at_call 19; (with_reducible refine (laws_eqMsg.calls kj14 t405 _ _ t406 t394 _ _ t395 false _ ?side1 ?side2 ?side3 ?side4 A75.out).mono ?_); (case side1 => repeat (first | exact (Kd.R_reads' HO_411001.out).2.2 | (with_reducible refine Kd.C_alloc ?_ _) | (with_reducible refine Kd.C_drewN ?_ _) | (with_reducible refine Kd.C_drew ?_))); (case side2 => exact (Kd.R_reads' HO_411001.out).2.1); (case side3 => repeat (first | exact (Kd.R_reads' HO_400001.out).2.2 | (with_reducible refine Kd.C_alloc ?_ _) | (with_reducible refine Kd.C_drewN ?_ _) | (with_reducible refine Kd.C_drew ?_))); (case side4 => exact (Kd.R_reads' HO_400001.out).2.1); rintro e w92 ⟨rfl, hb⟩; have n0_ := Aside0.mk (Kd.R_below (by (with_reducible repeat (first | apply Kd.R_alloc | apply Kd.R_drewN | apply Kd.R_drew)); exact HO_400001.out) hb); have n1_ := Aside0.mk (Kd.R_below (by (with_reducible repeat (first | apply Kd.R_alloc | apply Kd.R_drewN | apply Kd.R_drew)); exact HO_405001.out) hb); have n2_ := Aside0.mk (Kd.R_below (by (with_reducible repeat (first | apply Kd.R_alloc | apply Kd.R_drewN | apply Kd.R_drew)); exact HO_411001.out) hb); have n3_ := Aside0.mk (Kd.R_below (by (with_reducible repeat (first | apply Kd.R_alloc | apply Kd.R_drewN | apply Kd.R_drew)); exact HO415.out) hb); have n4_ := Aside0.mk (blk_below (g := gb388) (o := .cells #[.string a0_0, .slice A0_1 l0_1.length c0_1] 41 (0, 0)) (by (with_reducible repeat (first | refine blk_drewN ?_ _ | refine blk_drew ?_ | refine blk_alloc ?_ _)); exact BK388.out) hb); have n5_ := Aside0.mk (blk_below (g := gb399) (o := .cells #[.string t394, .slice Ao26 t395.length co26] 27 (0, 0)) (by (with_reducible repeat (first | refine blk_drewN ?_ _ | refine blk_drew ?_ | refine blk_alloc ?_ _)); exact BK399.out) hb); have n6_ := Aside0.mk (blk_below (g := gb404) (o := .cells #[.string t400, .slice Ao33 t401.length co33] 27 (0, 0)) (by (with_reducible repeat (first | refine blk_drewN ?_ _ | refine blk_drew ?_ | refine blk_alloc ?_ _)); exact BK404.out) hb); have n7_ := Aside0.mk (blk_below (g := gb410) (o := .cells #[.string t405, .slice Ao40 t406.length co40] 27 (0, 0)) (by (with_reducible repeat (first | refine blk_drewN ?_ _ | refine blk_drew ?_ | refine blk_alloc ?_ _)); exact BK410.out) hb); have n8_ := Aside0.mk (below_step (by repeat (first | (with_reducible first | exact HB.out | apply below_alloc | apply pw_below_drewN | apply below_drew1 | refine below_set ?_ GE388.out | refine below_set ?_ GE399.out | refine below_set ?_ GE404.out | refine below_set ?_ GE410.out) | exact HB.out)) hb); clear HO_400001; clear HO_405001; clear HO_411001; clear HO415; clear BK388; clear BK399; clear BK404; clear BK410; clear HB; have HO_400001 := n0_; have HO_405001 := n1_; have HO_411001 := n2_; have HO415 := n3_; have BK388 := n4_; have BK399 := n5_; have BK404 := n6_; have BK410 := n7_; have HB := n8_; clear n0_ n1_ n2_ n3_ n4_ n5_ n6_ n7_ n8_; (try clear hb); (try clear hb2); (try clear hk); (try clear hi)))
          go_meet
          case rel => exact ⟨_, (true), (by first | rfl | (simp; done) | (simp [*]; done) | (simp [i64_w, IntKind.wrap_u8, e256_]; done) | (simp; generalize ByteArray.toList _ = zz_; cases zz_ <;> rfl)), H', ⟨by have := HJ14.out; first | omega | exact Nat.le_refl _⟩, ⟨by (with_reducible repeat (first | apply Kd.R_alloc | apply Kd.R_drewN | apply Kd.R_drew)); exact Kd.R_mono HO_400001.out (fun _ hk => ⟨hk.1, hk.2.1⟩)⟩, ⟨by (with_reducible repeat (first | apply Kd.R_alloc | apply Kd.R_drewN | apply Kd.R_drew)); exact Kd.R_mono HO_405001.out (fun _ hk => ⟨hk.1.1, hk.1.2⟩)⟩, ⟨by (with_reducible repeat (first | apply Kd.R_alloc | apply Kd.R_drewN | apply Kd.R_drew)); exact Kd.R_mono HO_411001.out (fun _ hk => ⟨hk.1, hk.2.1⟩)⟩, ⟨by (with_reducible repeat (first | refine blk_drewN ?_ _ | refine blk_drew ?_ | refine blk_alloc ?_ _)); exact BK388.out⟩, ⟨by (with_reducible repeat (first | refine blk_drewN ?_ _ | refine blk_drew ?_ | refine blk_alloc ?_ _)); exact BK399.out⟩, ⟨by (with_reducible repeat (first | refine blk_drewN ?_ _ | refine blk_drew ?_ | refine blk_alloc ?_ _)); exact BK404.out⟩, ⟨by (with_reducible repeat (first | refine blk_drewN ?_ _ | refine blk_drew ?_ | refine blk_alloc ?_ _)); exact BK410.out⟩, ⟨by repeat (first | (with_reducible first | exact HB.out | apply below_alloc | apply pw_below_drewN | apply below_drew1 | refine below_set ?_ GE388.out | refine below_set ?_ GE399.out | refine below_set ?_ GE404.out | refine below_set ?_ GE410.out) | exact HB.out)⟩⟩
       case rest =>
        clear HC64
        try clear c1
        try clear c2
        try clear p2
        try clear c3
        try clear c4
        try clear c4b0
        try clear c4b1
        try clear c5
        try clear c6
        try clear p6
        try clear c7
        try clear c7b0
        try clear c8
        try clear c9
        try clear c11
        try clear c16
        try clear c17
        try clear c18
        try clear c19
        try clear c20
        try clear c24
        try clear c30
        try clear c31
        try clear c36
        try clear c37
        try clear c38
        try clear c42
        try clear c43
        try clear c44
        try clear c45
        try clear c47
        try clear c48
        try clear c51
        try clear c52
        try clear c53
        try clear c55
        try clear c56
        try clear c59
        try clear c62
        try clear p64
        try clear c69
        try clear c70
        try clear c71
        try clear c74
        try clear c74b0
        try clear c76
        try clear c77
        try clear c78
        try clear c79
        try clear c81
        try clear c82
        try clear c85
        try clear c86
        try clear c87
        try clear c89
        try clear c90
        try clear hcz17_0
        try clear hcz17_1
        try clear hcz19_0
        try clear hcz19_1
        try clear hcz25_0
        try clear hcz25_1
        try clear hcz27_0
        try clear hcz27_1
        try clear hcz32_0
        try clear hcz32_1
        try clear hcz39_0
        try clear hcz39_1
        try clear hcz46_0
        try clear hcz46_1
        try clear hcz49_0
        try clear hcz49_1
        try clear hcz54_0
        try clear hcz54_1
        try clear hcz57_0
        try clear hcz57_1
        try clear hcz72_0
        try clear hcz72_1
        try clear hcz80_0
        try clear hcz80_1
        try clear hcz83_0
        try clear hcz83_1
        try clear hcz88_0
        try clear hcz88_1
        try clear hcz91_0
        try clear hcz91_1
        try clear hcz9_0
        try clear hcz9_1
        try clear hfz17_0
        try clear hfz17_1
        try clear hfz19_0
        try clear hfz19_1
        try clear hfz25_0
        try clear hfz25_1
        try clear hfz27_0
        try clear hfz27_1
        try clear hfz32_0
        try clear hfz32_1
        try clear hfz39_0
        try clear hfz39_1
        try clear hfz46_0
        try clear hfz46_1
        try clear hfz49_0
        try clear hfz49_1
        try clear hfz54_0
        try clear hfz54_1
        try clear hfz57_0
        try clear hfz57_1
        try clear hfz72_0
        try clear hfz72_1
        try clear hfz80_0
        try clear hfz80_1
        try clear hfz83_0
        try clear hfz83_1
        try clear hfz88_0
        try clear hfz88_1
        try clear hfz91_0
        try clear hfz91_1
        try clear hfz9_0
        try clear hfz9_1
        try clear p2
        try clear p6
        obtain ⟨kq, x72_63, rfl, HA, HJ63, HO_400001, HO_405001, HO_411001, BK388, BK399, BK404, BK410, HB⟩ := hcut
        have hl405001_63 := (Kd.R_reads' HO_405001.out).1
        rw [hl405001_63] at HO_405001
        (try simp only [hl405001_63])
        (try simp only [hl405001_63] at BK388)
        (try simp only [hl405001_63] at BK399)
        (try simp only [hl405001_63] at BK404)
        (try simp only [hl405001_63] at BK410)
        (try simp only [hl405001_63] at HO_400001)
        (try simp only [hl405001_63] at HO_411001)
        cases kq with
        | zero => exact absurd HA.out (by simp [laws_FnExactWithField.j1])
        | succ kj63 =>
         have H := HA.out
         clear HA
         simp only [laws_FnExactWithField.j1] at H
         by_cases c93 : x72_63 = true
         ·subst c93
          have H1 : (some false) = some r := by rw [if_pos rfl] at H; exact H
          clear H
          have H := H1
          clear H1
          obtain rfl := Option.some.inj H
          exact absurd hr_ (by simp)
         ·replace c93 := Bool.eq_false_iff.mpr c93
          subst c93
          have H1 : ((laws_markMsg.f kj63 t405 t406 1).bind fun bt420 => ((laws_heldMsg.f kj63 t405 bt420.2 1).bind fun t422 => (if t422 < 0 then (some false) else (if t422 = bt420.1 then ((laws_toMsg.f kj63 a0_0 l0_1).bind fun bt423 => ((impl_WithField.f kj63 bt423.1 bt423.2 a1 a2).bind fun bt427 => ((laws_eqMsg.f kj63 bt427.1 bt427.2.1 t394 t395).bind fun t433 => (if t433 = true then (laws_FnExactWithField.j2 kj63 bt420.1 (bt427.2.2 != t398) t405 bt420.2) else (laws_FnExactWithField.j2 kj63 bt420.1 true t405 bt420.2))))) else (some false))))) = some r := by rw [if_neg (show ¬ (false = true) by decide)] at H; exact H
          clear H
          have H := H1
          clear H1
          replace H := Option.bind_eq_some_iff.mp H
          obtain ⟨⟨t420, t421⟩, A940, H⟩ := H
          replace H : ((laws_heldMsg.f kj63 t405 t421 1).bind fun t422 => (if t422 < 0 then (some false) else (if t422 = t420 then ((laws_toMsg.f kj63 a0_0 l0_1).bind fun bt423 => ((impl_WithField.f kj63 bt423.1 bt423.2 a1 a2).bind fun bt427 => ((laws_eqMsg.f kj63 bt427.1 bt427.2.1 t394 t395).bind fun t433 => (if t433 = true then (laws_FnExactWithField.j2 kj63 t420 (bt427.2.2 != t398) t405 t421) else (laws_FnExactWithField.j2 kj63 t420 true t405 t421))))) else (some false)))) = some r := H
          have A94 := Aside0.mk A940
          clear A940
          replace H := Option.bind_eq_some_iff.mp H
          obtain ⟨t422, A950, H⟩ := H
          replace H : (if t422 < 0 then (some false) else (if t422 = t420 then ((laws_toMsg.f kj63 a0_0 l0_1).bind fun bt423 => ((impl_WithField.f kj63 bt423.1 bt423.2 a1 a2).bind fun bt427 => ((laws_eqMsg.f kj63 bt427.1 bt427.2.1 t394 t395).bind fun t433 => (if t433 = true then (laws_FnExactWithField.j2 kj63 t420 (bt427.2.2 != t398) t405 t421) else (laws_FnExactWithField.j2 kj63 t420 true t405 t421))))) else (some false))) = some r := H
          have A95 := Aside0.mk A950
          clear A950
          by_cases c96 : t422 < 0
          ·rw [if_pos c96] at H
           have c96b0 : decide (t422 < 0) = true := decide_eq_true c96
           clear c96
           obtain rfl := Option.some.inj H
           exact absurd hr_ (by simp)
          ·rw [if_neg c96] at H
           have c96b0 : decide (t422 < 0) = false := decide_eq_false c96
           clear c96
           by_cases c97 : t422 = t420
           ·rw [if_pos c97] at H
            have c97b0 : (t422 == t420) = true := beq_iff_eq.mpr c97
            have c97b1 : (t422 != t420) = false := bne_eq_false_iff_eq.mpr c97
            clear c97
            replace H := Option.bind_eq_some_iff.mp H
            obtain ⟨⟨t423, t424⟩, A980, H⟩ := H
            replace H : ((impl_WithField.f kj63 t423 t424 a1 a2).bind fun bt427 => ((laws_eqMsg.f kj63 bt427.1 bt427.2.1 t394 t395).bind fun t433 => (if t433 = true then (laws_FnExactWithField.j2 kj63 t420 (bt427.2.2 != t398) t405 t421) else (laws_FnExactWithField.j2 kj63 t420 true t405 t421)))) = some r := H
            have A98 := Aside0.mk A980
            clear A980
            replace H := Option.bind_eq_some_iff.mp H
            obtain ⟨⟨t427, t428, t431⟩, A990, H⟩ := H
            replace H : ((laws_eqMsg.f kj63 t427 t428 t394 t395).bind fun t433 => (if t433 = true then (laws_FnExactWithField.j2 kj63 t420 (t431 != t398) t405 t421) else (laws_FnExactWithField.j2 kj63 t420 true t405 t421))) = some r := H
            have A99 := Aside0.mk A990
            clear A990
            have HC100 := Aside0.mk H
            clear H
            have hnb101 := NB410_388.out
            have hnc101 := NB388_410.out
            have hnb102 := NB410_399.out
            have hnc102 := NB399_410.out
            have hnb103 := NB410_404.out
            have hnc103 := NB404_410.out
            have hcz104_0 : wc.cell? ⟨gb410, 0, none⟩ = some (.string t405) := (blk_cell BK410.out 0).trans rfl
            have hcz104_1 : wc.cell? ⟨gb410, 1, none⟩ = some (.slice Ao40 t406.length co40) := (blk_cell BK410.out 1).trans rfl
            have hfz104_0 := blk_frozen BK410.out 0
            have hfz104_1 := blk_frozen BK410.out 1
            go_upto_region 27 with (first | ((with_reducible refine gate_callee (f := 20) rfl ?_); refine goesL_ (some 75) rfl rfl Try.func20 (by kernel_rfl) rfl #[.agg #[.string t405, .slice Ao40 t406.length co40], .int .i64 1] rfl (by (try simp only [List.map_toArray, List.map_cons, List.map_nil]); first | done | rfl | (simp only [List.length_drop, List.length_take]; rfl)) ?_; (with_reducible refine (laws_markMsg.calls kj63 t405 (fun k_ => some k_ = (.slice Ao40 t406.length co40 : Value).ownBlock) (.slice Ao40 t406.length co40) t406 1 t420 t421 w _ ?side1 ?side2 A94.out).mono ?_); (case side1 => repeat (first | (with_reducible first | exact HB.out | apply below_alloc | apply pw_below_drewN | apply below_drew1 | refine below_set ?_ GE388.out | refine below_set ?_ GE399.out | refine below_set ?_ GE404.out | refine below_set ?_ GE410.out) | exact HB.out)); (case side2 => exact Kd.R_tight rfl HO_411001.out); rintro e w105 ⟨rfl, hy0, hb, hkp⟩; refine ⟨_, rfl, ?_⟩; have n0_ := Aside0.mk (Kd.R_mono (ok' := fun k_ => some k_ ≠ (.slice Ao33 t418.length co33 : Value).ownBlock ∧ some k_ ≠ (.slice Ao40 t406.length co40 : Value).ownBlock) (Kd.R_keptB (HO_400001.out) hkp (fun k_ hk_ hs_ => (hk_.2) hs_)) (fun k_ hk_ => ⟨hk_.1.1, hk_.1.2⟩)); have n1_ := Aside0.mk (Kd.R_mono (ok' := fun k_ => some k_ ≠ (.slice Ao26 t395.length co26 : Value).ownBlock ∧ some k_ ≠ (.slice Ao40 t406.length co40 : Value).ownBlock) (Kd.R_keptB (HO_405001.out) hkp (fun k_ hk_ hs_ => (hk_.2) hs_)) (fun k_ hk_ => ⟨hk_.1.1, hk_.1.2⟩)); have n2_ := Aside0.mk (Kd.R_reok rfl hy0 (fun k_ e_ => HO_411001.out.1 k_ e_)); have n3_ := Aside0.mk (blk_kept (by (with_reducible repeat (first | refine blk_drewN ?_ _ | refine blk_drew ?_ | refine blk_alloc ?_ _)); exact BK388.out) hkp (fun hs_ => (fun e_ => (Kd.R_ne HO_411001.out BK388.out (by decide)) e_) hs_)); have n4_ := Aside0.mk (blk_kept (by (with_reducible repeat (first | refine blk_drewN ?_ _ | refine blk_drew ?_ | refine blk_alloc ?_ _)); exact BK399.out) hkp (fun hs_ => (fun e_ => (Kd.R_ne HO_411001.out BK399.out (by decide)) e_) hs_)); have n5_ := Aside0.mk (blk_kept (by (with_reducible repeat (first | refine blk_drewN ?_ _ | refine blk_drew ?_ | refine blk_alloc ?_ _)); exact BK404.out) hkp (fun hs_ => (fun e_ => (Kd.R_ne HO_411001.out BK404.out (by decide)) e_) hs_)); have n6_ := Aside0.mk (blk_kept (by (with_reducible repeat (first | refine blk_drewN ?_ _ | refine blk_drew ?_ | refine blk_alloc ?_ _)); exact BK410.out) hkp (fun hs_ => (fun e_ => (Kd.R_ne HO_411001.out BK410.out (by decide)) e_) hs_)); have n7_ := Aside0.mk (hb); clear HO_400001; clear HO_405001; clear HO_411001; clear BK388; clear BK399; clear BK404; clear BK410; clear HB; have HO_400001 := n0_; have HO_405001 := n1_; have HO_411001 := n2_; have BK388 := n3_; have BK399 := n4_; have BK404 := n5_; have BK410 := n6_; have HB := n7_; clear n0_ n1_ n2_ n3_ n4_ n5_ n6_ n7_; (try clear hb); (try clear hkp); (try clear hy0); have hcz106_0 : w105.cell? ⟨gb410, 0, none⟩ = some (.string t405) := (blk_cell BK410.out 0).trans rfl; have hcz106_1 : w105.cell? ⟨gb410, 1, none⟩ = some (.slice Ao40 t406.length co40) := (blk_cell BK410.out 1).trans rfl; have hfz106_0 := blk_frozen BK410.out 0; have hfz106_1 := blk_frozen BK410.out 1) | ((with_reducible refine gate_callee (f := 21) rfl ?_); refine goesL_ (some 78) rfl rfl Try.func21 (by kernel_rfl) rfl #[.agg #[.string t405, .slice Ao40 t421.length co40], .int .i64 1] rfl (by (try simp only [List.map_toArray, List.map_cons, List.map_nil]); first | done | (rw [show t421.length = t406.length from (Kd.R_reads' HO_411001.out).1.symm] <;> rfl) | rfl | (simp only [List.length_drop, List.length_take]; rfl)) ?_; (with_reducible refine (laws_heldMsg.calls kj63 t405 _ _ t421 1 t422 _ ?side1 ?side2 A95.out).mono ?_); (case side1 => repeat (first | exact (Kd.R_reads' HO_411001.out).2.2 | (with_reducible refine Kd.C_alloc ?_ _) | (with_reducible refine Kd.C_drewN ?_ _) | (with_reducible refine Kd.C_drew ?_))); (case side2 => rw [show t421.length = t406.length from (Kd.R_reads' HO_411001.out).1.symm]; exact (Kd.R_reads' HO_411001.out).2.1); rintro e w107 ⟨rfl, hb⟩; refine ⟨_, rfl, ?_⟩; have n0_ := Aside0.mk (Kd.R_below (by (with_reducible repeat (first | apply Kd.R_alloc | apply Kd.R_drewN | apply Kd.R_drew)); exact HO_400001.out) hb); have n1_ := Aside0.mk (Kd.R_below (by (with_reducible repeat (first | apply Kd.R_alloc | apply Kd.R_drewN | apply Kd.R_drew)); exact HO_405001.out) hb); have n2_ := Aside0.mk (Kd.R_below (by (with_reducible repeat (first | apply Kd.R_alloc | apply Kd.R_drewN | apply Kd.R_drew)); exact HO_411001.out) hb); have n3_ := Aside0.mk (blk_below (g := gb388) (o := .cells #[.string a0_0, .slice A0_1 l0_1.length c0_1] 41 (0, 0)) (by (with_reducible repeat (first | refine blk_drewN ?_ _ | refine blk_drew ?_ | refine blk_alloc ?_ _)); exact BK388.out) hb); have n4_ := Aside0.mk (blk_below (g := gb399) (o := .cells #[.string t394, .slice Ao26 t395.length co26] 27 (0, 0)) (by (with_reducible repeat (first | refine blk_drewN ?_ _ | refine blk_drew ?_ | refine blk_alloc ?_ _)); exact BK399.out) hb); have n5_ := Aside0.mk (blk_below (g := gb404) (o := .cells #[.string t400, .slice Ao33 t418.length co33] 27 (0, 0)) (by (with_reducible repeat (first | refine blk_drewN ?_ _ | refine blk_drew ?_ | refine blk_alloc ?_ _)); exact BK404.out) hb); have n6_ := Aside0.mk (blk_below (g := gb410) (o := .cells #[.string t405, .slice Ao40 t406.length co40] 27 (0, 0)) (by (with_reducible repeat (first | refine blk_drewN ?_ _ | refine blk_drew ?_ | refine blk_alloc ?_ _)); exact BK410.out) hb); have n7_ := Aside0.mk (below_step (by repeat (first | (with_reducible first | exact HB.out | apply below_alloc | apply pw_below_drewN | apply below_drew1 | refine below_set ?_ GE388.out | refine below_set ?_ GE399.out | refine below_set ?_ GE404.out | refine below_set ?_ GE410.out) | exact HB.out)) hb); clear HO_400001; clear HO_405001; clear HO_411001; clear BK388; clear BK399; clear BK404; clear BK410; clear HB; have HO_400001 := n0_; have HO_405001 := n1_; have HO_411001 := n2_; have BK388 := n3_; have BK399 := n4_; have BK404 := n5_; have BK410 := n6_; have HB := n7_; clear n0_ n1_ n2_ n3_ n4_ n5_ n6_ n7_; (try clear hb); (try clear hb2); (try clear hk); (try clear hi); have hnb108 := NB388_399.out; have hnc108 := NB399_388.out; have hnb109 := NB388_404.out; have hnc109 := NB404_388.out; have hcz110_0 : w107.cell? ⟨gb388, 0, none⟩ = some (.string a0_0) := (blk_cell BK388.out 0).trans rfl; have hcz110_1 : w107.cell? ⟨gb388, 1, none⟩ = some (.slice A0_1 l0_1.length c0_1) := (blk_cell BK388.out 1).trans rfl; have hfz110_0 := blk_frozen BK388.out 0; have hfz110_1 := blk_frozen BK388.out 1) | ((with_reducible refine gate_callee (f := 18) rfl ?_); refine goesL_ (some 86) rfl rfl Try.func18 (by kernel_rfl) rfl #[.agg #[.string a0_0, .slice A0_1 l0_1.length c0_1]] rfl (by (try simp only [List.map_toArray, List.map_cons, List.map_nil]); first | done | rfl | (simp only [List.length_drop, List.length_take]; rfl)) ?_; (with_reducible refine (laws_toMsg.calls kj63 a0_0 _ _ l0_1 t423 t424 _ ?side1 ?side2 A98.out).mono ?_); (case side1 => repeat (first | exact (Kd.C_below HR0_1.out HB.out) | (with_reducible refine Kd.C_alloc ?_ _) | (with_reducible refine Kd.C_drewN ?_ _) | (with_reducible refine Kd.C_drew ?_))); (case side2 => exact HC0_1.out); rintro e w111 ⟨v425, rfl, ho0, hb⟩; refine ⟨_, rfl, ?_⟩; have n0_ := Aside0.mk (Kd.R_elder' (by (with_reducible repeat (first | apply Kd.R_alloc | apply Kd.R_drewN | apply Kd.R_drew)); exact HO_400001.out) (Kd.R_base ho0) hb); have n1_ := Aside0.mk (Kd.R_elder' (by (with_reducible repeat (first | apply Kd.R_alloc | apply Kd.R_drewN | apply Kd.R_drew)); exact HO_405001.out) (Kd.R_base ho0) hb); have n2_ := Aside0.mk (Kd.R_elder' (by (with_reducible repeat (first | apply Kd.R_alloc | apply Kd.R_drewN | apply Kd.R_drew)); exact HO_411001.out) (Kd.R_base ho0) hb); have n3_ := Aside0.mk (Kd.R_lower (Kd.R_new' (Kd.R_new' (Kd.R_new' ho0 (Kd.R_lt (by (with_reducible repeat (first | apply Kd.R_alloc | apply Kd.R_drewN | apply Kd.R_drew)); exact HO_400001.out))) (Kd.R_lt (by (with_reducible repeat (first | apply Kd.R_alloc | apply Kd.R_drewN | apply Kd.R_drew)); exact HO_405001.out))) (Kd.R_lt (by (with_reducible repeat (first | apply Kd.R_alloc | apply Kd.R_drewN | apply Kd.R_drew)); exact HO_411001.out))) (below_size (by repeat (first | (with_reducible first | exact HB.out | apply below_alloc | apply pw_below_drewN | apply below_drew1 | refine below_set ?_ GE388.out | refine below_set ?_ GE399.out | refine below_set ?_ GE404.out | refine below_set ?_ GE410.out) | exact HB.out)))); have n4_ := Aside0.mk (blk_below (g := gb388) (o := .cells #[.string a0_0, .slice A0_1 l0_1.length c0_1] 41 (0, 0)) (by (with_reducible repeat (first | refine blk_drewN ?_ _ | refine blk_drew ?_ | refine blk_alloc ?_ _)); exact BK388.out) hb); have n5_ := Aside0.mk (blk_below (g := gb399) (o := .cells #[.string t394, .slice Ao26 t395.length co26] 27 (0, 0)) (by (with_reducible repeat (first | refine blk_drewN ?_ _ | refine blk_drew ?_ | refine blk_alloc ?_ _)); exact BK399.out) hb); have n6_ := Aside0.mk (blk_below (g := gb404) (o := .cells #[.string t400, .slice Ao33 t418.length co33] 27 (0, 0)) (by (with_reducible repeat (first | refine blk_drewN ?_ _ | refine blk_drew ?_ | refine blk_alloc ?_ _)); exact BK404.out) hb); have n7_ := Aside0.mk (blk_below (g := gb410) (o := .cells #[.string t405, .slice Ao40 t406.length co40] 27 (0, 0)) (by (with_reducible repeat (first | refine blk_drewN ?_ _ | refine blk_drew ?_ | refine blk_alloc ?_ _)); exact BK410.out) hb); have n8_ := Aside0.mk (below_step (by repeat (first | (with_reducible first | exact HB.out | apply below_alloc | apply pw_below_drewN | apply below_drew1 | refine below_set ?_ GE388.out | refine below_set ?_ GE399.out | refine below_set ?_ GE404.out | refine below_set ?_ GE410.out) | exact HB.out)) hb); clear HO_400001; clear HO_405001; clear HO_411001; clear BK388; clear BK399; clear BK404; clear BK410; clear HB; have HO_400001 := n0_; have HO_405001 := n1_; have HO_411001 := n2_; have HO426 := n3_; have BK388 := n4_; have BK399 := n5_; have BK404 := n6_; have BK410 := n7_; have HB := n8_; clear n0_ n1_ n2_ n3_ n4_ n5_ n6_ n7_ n8_; (try clear hb); (try clear hb2); (try clear hk); (try clear hi); (try clear ho0); obtain ⟨Ao112, co112, eo112⟩ := Kd.R_slice HO426.out; subst eo112) | ((with_reducible refine gate_callee (f := 11) rfl ?_); refine goesL_ (some 89) rfl rfl Try.func11 (by kernel_rfl) rfl #[.agg #[.string t423, .slice Ao112 t424.length co112], .int .i64 a1, .string a2] rfl (by (try simp only [List.map_toArray, List.map_cons, List.map_nil]); first | done | rfl | (simp only [List.length_drop, List.length_take]; rfl)) ?_; (with_reducible refine (impl_WithField.calls kj63 t423 _ _ t424 a1 a2 t427 t428 t431 _ ?side1 ?side2 A99.out).mono ?_); (case side1 => repeat (first | exact (Kd.R_reads' HO426.out).2.2 | (with_reducible refine Kd.C_alloc ?_ _) | (with_reducible refine Kd.C_drewN ?_ _) | (with_reducible refine Kd.C_drew ?_))); (case side2 => exact (Kd.R_reads' HO426.out).2.1); rintro e w113 ⟨v429, rfl, ho0, hb⟩; refine ⟨_, rfl, ?_⟩; have n0_ := Aside0.mk (Kd.R_elder' (by (with_reducible repeat (first | apply Kd.R_alloc | apply Kd.R_drewN | apply Kd.R_drew)); exact HO_400001.out) (Kd.R_base ho0) hb); have n1_ := Aside0.mk (Kd.R_elder' (by (with_reducible repeat (first | apply Kd.R_alloc | apply Kd.R_drewN | apply Kd.R_drew)); exact HO_405001.out) (Kd.R_base ho0) hb); have n2_ := Aside0.mk (Kd.R_elder' (by (with_reducible repeat (first | apply Kd.R_alloc | apply Kd.R_drewN | apply Kd.R_drew)); exact HO_411001.out) (Kd.R_base ho0) hb); have n3_ := Aside0.mk (Kd.R_elder' (by (with_reducible repeat (first | apply Kd.R_alloc | apply Kd.R_drewN | apply Kd.R_drew)); exact HO426.out) (Kd.R_base ho0) hb); have n4_ := Aside0.mk (Kd.R_lower (Kd.R_new' (Kd.R_new' (Kd.R_new' (Kd.R_new' ho0 (Kd.R_lt (by (with_reducible repeat (first | apply Kd.R_alloc | apply Kd.R_drewN | apply Kd.R_drew)); exact HO_400001.out))) (Kd.R_lt (by (with_reducible repeat (first | apply Kd.R_alloc | apply Kd.R_drewN | apply Kd.R_drew)); exact HO_405001.out))) (Kd.R_lt (by (with_reducible repeat (first | apply Kd.R_alloc | apply Kd.R_drewN | apply Kd.R_drew)); exact HO_411001.out))) (Kd.R_lt (by (with_reducible repeat (first | apply Kd.R_alloc | apply Kd.R_drewN | apply Kd.R_drew)); exact HO426.out))) (below_size (by repeat (first | (with_reducible first | exact HB.out | apply below_alloc | apply pw_below_drewN | apply below_drew1 | refine below_set ?_ GE388.out | refine below_set ?_ GE399.out | refine below_set ?_ GE404.out | refine below_set ?_ GE410.out) | exact HB.out)))); have n5_ := Aside0.mk (blk_below (g := gb388) (o := .cells #[.string a0_0, .slice A0_1 l0_1.length c0_1] 41 (0, 0)) (by (with_reducible repeat (first | refine blk_drewN ?_ _ | refine blk_drew ?_ | refine blk_alloc ?_ _)); exact BK388.out) hb); have n6_ := Aside0.mk (blk_below (g := gb399) (o := .cells #[.string t394, .slice Ao26 t395.length co26] 27 (0, 0)) (by (with_reducible repeat (first | refine blk_drewN ?_ _ | refine blk_drew ?_ | refine blk_alloc ?_ _)); exact BK399.out) hb); have n7_ := Aside0.mk (blk_below (g := gb404) (o := .cells #[.string t400, .slice Ao33 t418.length co33] 27 (0, 0)) (by (with_reducible repeat (first | refine blk_drewN ?_ _ | refine blk_drew ?_ | refine blk_alloc ?_ _)); exact BK404.out) hb); have n8_ := Aside0.mk (blk_below (g := gb410) (o := .cells #[.string t405, .slice Ao40 t406.length co40] 27 (0, 0)) (by (with_reducible repeat (first | refine blk_drewN ?_ _ | refine blk_drew ?_ | refine blk_alloc ?_ _)); exact BK410.out) hb); have n9_ := Aside0.mk (below_step (by repeat (first | (with_reducible first | exact HB.out | apply below_alloc | apply pw_below_drewN | apply below_drew1 | refine below_set ?_ GE388.out | refine below_set ?_ GE399.out | refine below_set ?_ GE404.out | refine below_set ?_ GE410.out) | exact HB.out)) hb); clear HO_400001; clear HO_405001; clear HO_411001; clear HO426; clear BK388; clear BK399; clear BK404; clear BK410; clear HB; have HO_400001 := n0_; have HO_405001 := n1_; have HO_411001 := n2_; have HO426 := n3_; have HO430 := n4_; have BK388 := n5_; have BK399 := n6_; have BK404 := n7_; have BK410 := n8_; have HB := n9_; clear n0_ n1_ n2_ n3_ n4_ n5_ n6_ n7_ n8_ n9_; (try clear hb); (try clear hb2); (try clear hk); (try clear hi); (try clear ho0)) | ((with_reducible refine gate_dst (N := 16) rfl ?_); refine box_event ?hg (N := 16) ?hd (cs := #[.string (⟨#[]⟩ : ByteArray), .slice none 0 0]) (t := 27) ?hr ?_; (case hd => rfl); (case hg => rfl); (case hr => first | (go_simp; done) | (go_simp; rfl)); intro gb432 hg w114 hbox hb; have n0_ := Aside0.mk (Kd.R_below (by (with_reducible repeat (first | apply Kd.R_alloc | apply Kd.R_drewN | apply Kd.R_drew)); exact HO_400001.out) hb); have n1_ := Aside0.mk (Kd.R_below (by (with_reducible repeat (first | apply Kd.R_alloc | apply Kd.R_drewN | apply Kd.R_drew)); exact HO_405001.out) hb); have n2_ := Aside0.mk (Kd.R_below (by (with_reducible repeat (first | apply Kd.R_alloc | apply Kd.R_drewN | apply Kd.R_drew)); exact HO_411001.out) hb); have n3_ := Aside0.mk (Kd.R_below (by (with_reducible repeat (first | apply Kd.R_alloc | apply Kd.R_drewN | apply Kd.R_drew)); exact HO426.out) hb); have n4_ := Aside0.mk (Kd.R_below (by (with_reducible repeat (first | apply Kd.R_alloc | apply Kd.R_drewN | apply Kd.R_drew)); exact HO430.out) hb); have n5_ := Aside0.mk (blk_below (g := gb388) (o := .cells #[.string a0_0, .slice A0_1 l0_1.length c0_1] 41 (0, 0)) (by (with_reducible repeat (first | refine blk_drewN ?_ _ | refine blk_drew ?_ | refine blk_alloc ?_ _)); exact BK388.out) hb); have n6_ := Aside0.mk (blk_below (g := gb399) (o := .cells #[.string t394, .slice Ao26 t395.length co26] 27 (0, 0)) (by (with_reducible repeat (first | refine blk_drewN ?_ _ | refine blk_drew ?_ | refine blk_alloc ?_ _)); exact BK399.out) hb); have n7_ := Aside0.mk (blk_below (g := gb404) (o := .cells #[.string t400, .slice Ao33 t418.length co33] 27 (0, 0)) (by (with_reducible repeat (first | refine blk_drewN ?_ _ | refine blk_drew ?_ | refine blk_alloc ?_ _)); exact BK404.out) hb); have n8_ := Aside0.mk (blk_below (g := gb410) (o := .cells #[.string t405, .slice Ao40 t406.length co40] 27 (0, 0)) (by (with_reducible repeat (first | refine blk_drewN ?_ _ | refine blk_drew ?_ | refine blk_alloc ?_ _)); exact BK410.out) hb); have n9_ := Aside0.mk (below_step (by repeat (first | (with_reducible first | exact HB.out | apply below_alloc | apply pw_below_drewN | apply below_drew1 | refine below_set ?_ GE388.out | refine below_set ?_ GE399.out | refine below_set ?_ GE404.out | refine below_set ?_ GE410.out) | exact HB.out)) hb); have n10_ := Aside0.mk (hbox); have n11_ := Aside0.mk ((by rw [hg]; exact (below_size (by repeat (first | (with_reducible first | exact HB.out | apply below_alloc | apply pw_below_drewN | apply below_drew1 | refine below_set ?_ GE388.out | refine below_set ?_ GE399.out | refine below_set ?_ GE404.out | refine below_set ?_ GE410.out) | exact HB.out))) : w.heap.size ≤ gb432)); have n12_ := Aside0.mk ((by rw [hg]; exact (below_size (by repeat (first | (with_reducible first | exact HB.out | apply below_alloc | apply pw_below_drewN | apply below_drew1 | refine below_set ?_ GE388.out | refine below_set ?_ GE399.out | refine below_set ?_ GE404.out | refine below_set ?_ GE410.out) | exact HB.out))) : w.heap.size ≤ gb432)); have n13_ := Aside0.mk ((by rw [hg]; exact Nat.ne_of_lt (blk_lt (g := gb388) (o := .cells #[.string a0_0, .slice A0_1 l0_1.length c0_1] 41 (0, 0)) (by (with_reducible repeat (first | refine blk_drewN ?_ _ | refine blk_drew ?_ | refine blk_alloc ?_ _)); exact BK388.out)) : gb388 ≠ gb432)); have n14_ := Aside0.mk ((by rw [hg]; exact Nat.ne_of_gt (blk_lt (g := gb388) (o := .cells #[.string a0_0, .slice A0_1 l0_1.length c0_1] 41 (0, 0)) (by (with_reducible repeat (first | refine blk_drewN ?_ _ | refine blk_drew ?_ | refine blk_alloc ?_ _)); exact BK388.out)) : gb432 ≠ gb388)); have n15_ := Aside0.mk ((by rw [hg]; exact Nat.ne_of_lt (blk_lt (g := gb399) (o := .cells #[.string t394, .slice Ao26 t395.length co26] 27 (0, 0)) (by (with_reducible repeat (first | refine blk_drewN ?_ _ | refine blk_drew ?_ | refine blk_alloc ?_ _)); exact BK399.out)) : gb399 ≠ gb432)); have n16_ := Aside0.mk ((by rw [hg]; exact Nat.ne_of_gt (blk_lt (g := gb399) (o := .cells #[.string t394, .slice Ao26 t395.length co26] 27 (0, 0)) (by (with_reducible repeat (first | refine blk_drewN ?_ _ | refine blk_drew ?_ | refine blk_alloc ?_ _)); exact BK399.out)) : gb432 ≠ gb399)); have n17_ := Aside0.mk ((by rw [hg]; exact Nat.ne_of_lt (blk_lt (g := gb404) (o := .cells #[.string t400, .slice Ao33 t418.length co33] 27 (0, 0)) (by (with_reducible repeat (first | refine blk_drewN ?_ _ | refine blk_drew ?_ | refine blk_alloc ?_ _)); exact BK404.out)) : gb404 ≠ gb432)); have n18_ := Aside0.mk ((by rw [hg]; exact Nat.ne_of_gt (blk_lt (g := gb404) (o := .cells #[.string t400, .slice Ao33 t418.length co33] 27 (0, 0)) (by (with_reducible repeat (first | refine blk_drewN ?_ _ | refine blk_drew ?_ | refine blk_alloc ?_ _)); exact BK404.out)) : gb432 ≠ gb404)); have n19_ := Aside0.mk ((by rw [hg]; exact Nat.ne_of_lt (blk_lt (g := gb410) (o := .cells #[.string t405, .slice Ao40 t406.length co40] 27 (0, 0)) (by (with_reducible repeat (first | refine blk_drewN ?_ _ | refine blk_drew ?_ | refine blk_alloc ?_ _)); exact BK410.out)) : gb410 ≠ gb432)); have n20_ := Aside0.mk ((by rw [hg]; exact Nat.ne_of_gt (blk_lt (g := gb410) (o := .cells #[.string t405, .slice Ao40 t406.length co40] 27 (0, 0)) (by (with_reducible repeat (first | refine blk_drewN ?_ _ | refine blk_drew ?_ | refine blk_alloc ?_ _)); exact BK410.out)) : gb432 ≠ gb410)); clear HO_400001; clear HO_405001; clear HO_411001; clear HO426; clear HO430; clear BK388; clear BK399; clear BK404; clear BK410; clear HB; have HO_400001 := n0_; have HO_405001 := n1_; have HO_411001 := n2_; have HO426 := n3_; have HO430 := n4_; have BK388 := n5_; have BK399 := n6_; have BK404 := n7_; have BK410 := n8_; have HB := n9_; have BK432 := n10_; have GW432 := n11_; have GE432 := n12_; have NB388_432 := n13_; have NB432_388 := n14_; have NB399_432 := n15_; have NB432_399 := n16_; have NB404_432 := n17_; have NB432_404 := n18_; have NB410_432 := n19_; have NB432_410 := n20_; clear n0_ n1_ n2_ n3_ n4_ n5_ n6_ n7_ n8_ n9_ n10_ n11_ n12_ n13_ n14_ n15_ n16_ n17_ n18_ n19_ n20_; clear hb hbox hg; have hnb115 := NB432_388.out; have hnc115 := NB388_432.out; have hnb116 := NB432_399.out; have hnc116 := NB399_432.out; have hnb117 := NB432_404.out; have hnc117 := NB404_432.out; have hnb118 := NB432_410.out; have hnc118 := NB410_432.out; have hcz119_0 : w114.cell? ⟨gb432, 0, none⟩ = some (.string (⟨#[]⟩ : ByteArray)) := (blk_cell BK432.out 0).trans rfl; have hcz119_1 : w114.cell? ⟨gb432, 1, none⟩ = some (.slice none 0 0) := (blk_cell BK432.out 1).trans rfl; have hfz119_0 := blk_frozen BK432.out 0; have hfz119_1 := blk_frozen BK432.out 1; obtain ⟨Ao120, co120, eo120⟩ := Kd.R_slice HO430.out; subst eo120))
            (try simp only [Act.put, List.setIfInBounds_toArray, List.set_cons_zero, List.set_cons_succ])
            go_cut [100] (fun v100 wc => ∃ (kq : Nat) (x100_99 : Bool), v100 = .bool x100_99 ∧ Aside0 (laws_FnExactWithField.j2 kq t420 x100_99 t405 t421 = some r) ∧ Aside0 (kq ≤ kj63) ∧ Aside0 (Kd.R k58 58 wc w.heap.size (fun k_ => some k_ ≠ ((.slice Ao33 t418.length co33) : Value).ownBlock ∧ some k_ ≠ ((.slice Ao40 t406.length co40) : Value).ownBlock ∧ some k_ ≠ ((.slice Ao120 t428.length co120) : Value).ownBlock) (.slice Ao26 t395.length co26) t395) ∧ Aside0 (Kd.R k58 58 wc w.heap.size (fun k_ => some k_ ≠ ((.slice Ao26 t395.length co26) : Value).ownBlock ∧ some k_ ≠ ((.slice Ao40 t406.length co40) : Value).ownBlock ∧ some k_ ≠ ((.slice Ao120 t428.length co120) : Value).ownBlock) (.slice Ao33 t418.length co33) t418) ∧ Aside0 (Kd.R k58 58 wc w.heap.size (fun k_ => some k_ ≠ ((.slice Ao26 t395.length co26) : Value).ownBlock ∧ some k_ ≠ ((.slice Ao33 t418.length co33) : Value).ownBlock ∧ some k_ ≠ ((.slice Ao120 t428.length co120) : Value).ownBlock) (.slice Ao40 t406.length co40) t421) ∧ Aside0 (Kd.R k58 58 wc w.heap.size (fun k_ => some k_ ≠ ((.slice Ao26 t395.length co26) : Value).ownBlock ∧ some k_ ≠ ((.slice Ao33 t418.length co33) : Value).ownBlock ∧ some k_ ≠ ((.slice Ao40 t406.length co40) : Value).ownBlock) (.slice Ao120 t428.length co120) t428) ∧ Aside0 (wc.heap[gb388]? = some (.cells #[.string a0_0, (.slice A0_1 l0_1.length c0_1)] 41 (0, 0))) ∧ Aside0 (wc.heap[gb399]? = some (.cells #[.string t394, (.slice Ao26 t395.length co26)] 27 (0, 0))) ∧ Aside0 (wc.heap[gb404]? = some (.cells #[.string t400, (.slice Ao33 t418.length co33)] 27 (0, 0))) ∧ Aside0 (wc.heap[gb410]? = some (.cells #[.string t405, (.slice Ao40 t406.length co40)] 27 (0, 0))) ∧ Aside0 (wc.heap[gb432]? = some (.cells #[.string t427, (.slice Ao120 t428.length co120)] 27 (0, 0))) ∧ Aside0 (Below w.heap.size w wc))
            case first =>
             have H := HC100.out
             clear HC100
             replace H := Option.bind_eq_some_iff.mp H
             obtain ⟨t433, A1210, H⟩ := H
             replace H : (if t433 = true then (laws_FnExactWithField.j2 kj63 t420 (t431 != t398) t405 t421) else (laws_FnExactWithField.j2 kj63 t420 true t405 t421)) = some r := H
             have A121 := Aside0.mk A1210
             clear A1210
             by_cases c122 : t433 = true
             ·subst c122
              have H1 : (laws_FnExactWithField.j2 kj63 t420 (t431 != t398) t405 t421) = some r := by rw [if_pos rfl] at H; exact H
              clear H
              have H := H1
              clear H1
              have H' := Aside0.mk H
              clear H
              have hnb123 := NB432_388.out
              have hnc123 := NB388_432.out
              have hnb124 := NB432_399.out
              have hnc124 := NB399_432.out
              have hnb125 := NB432_404.out
              have hnc125 := NB404_432.out
              have hnb126 := NB432_410.out
              have hnc126 := NB410_432.out
              have hcz127_0 : w114.cell? ⟨gb432, 0, none⟩ = some (.string (⟨#[]⟩ : ByteArray)) := (blk_cell BK432.out 0).trans rfl
              have hcz127_1 : w114.cell? ⟨gb432, 1, none⟩ = some (.slice none 0 0) := (blk_cell BK432.out 1).trans rfl
              have hfz127_0 := blk_frozen BK432.out 0
              have hfz127_1 := blk_frozen BK432.out 1
              have hnb128 := NB399_388.out
              have hnc128 := NB388_399.out
              have hnb129 := NB399_404.out
              have hnc129 := NB404_399.out
              have hnb130 := NB399_410.out
              have hnc130 := NB410_399.out
              have hcz131_0 : w114.cell? ⟨gb399, 0, none⟩ = some (.string t394) := (blk_cell BK399.out 0).trans rfl
              have hcz131_1 : w114.cell? ⟨gb399, 1, none⟩ = some (.slice Ao26 t395.length co26) := (blk_cell BK399.out 1).trans rfl
              have hfz131_0 := blk_frozen BK399.out 0
              have hfz131_1 := blk_frozen BK399.out 1
              go_wp2_with (first | ((with_reducible refine gate_callee (f := 19) rfl ?_); refine goesL_ (some 94) rfl rfl Try.func19 (by kernel_rfl) rfl #[.agg #[.string t427, .slice Ao120 t428.length co120], .agg #[.string t394, .slice Ao26 t395.length co26]] rfl (by (try simp only [List.map_toArray, List.map_cons, List.map_nil]); first | done | rfl | (simp only [List.length_drop, List.length_take]; rfl)) ?_; (with_reducible refine (laws_eqMsg.calls kj63 t427 _ _ t428 t394 _ _ t395 true _ ?side1 ?side2 ?side3 ?side4 A121.out).mono ?_); (case side1 => refine (Kd.R_reads' (e := 58) (base := w.heap.size) (ok := fun k_ => ((((True ∧ some k_ ≠ (.slice Ao26 t395.length co26 : Value).ownBlock) ∧ some k_ ≠ (.slice Ao33 t418.length co33 : Value).ownBlock) ∧ some k_ ≠ (.slice Ao40 t406.length co40 : Value).ownBlock) ∧ some k_ ≠ (.slice Ao112 t424.length co112 : Value).ownBlock)) (n := t428.length) (c := co120) ?_).2.2; exact (by (with_reducible repeat (first | apply Kd.R_alloc | apply Kd.R_drewN | apply Kd.R_drew)); exact (Kd.R_mono (Kd.R_far (p := ⟨gb432, 1, none⟩) (Kd.R_far (p := ⟨gb432, 0, none⟩) (Kd.R_types HO430.out BK432.out (by decide)) (fun _ hk => hk.2) (.string t427)) (fun _ hk => hk.2) (.slice Ao120 t428.length co120)) (fun _ h_ => h_.1)))); (case side2 => exact (Kd.R_reads' HO430.out).2.1); (case side3 => refine (Kd.R_reads' (e := 58) (base := w.heap.size) (ok := fun k_ => (((some k_ ≠ (.slice Ao33 t418.length co33 : Value).ownBlock ∧ some k_ ≠ (.slice Ao40 t406.length co40 : Value).ownBlock) ∧ some k_ ≠ (.slice Ao112 t424.length co112 : Value).ownBlock) ∧ some k_ ≠ (.slice Ao120 t428.length co120 : Value).ownBlock)) (n := t395.length) (c := co26) ?_).2.2; exact (by (with_reducible repeat (first | apply Kd.R_alloc | apply Kd.R_drewN | apply Kd.R_drew)); exact (Kd.R_mono (Kd.R_far (p := ⟨gb432, 1, none⟩) (Kd.R_far (p := ⟨gb432, 0, none⟩) (Kd.R_types HO_400001.out BK432.out (by decide)) (fun _ hk => hk.2) (.string t427)) (fun _ hk => hk.2) (.slice Ao120 t428.length co120)) (fun _ h_ => h_.1)))); (case side4 => exact (Kd.R_reads' HO_400001.out).2.1); rintro e w132 ⟨rfl, hb⟩; refine ⟨_, rfl, ?_⟩; have n0_ := Aside0.mk (Kd.R_below (by (with_reducible repeat (first | apply Kd.R_alloc | apply Kd.R_drewN | apply Kd.R_drew)); exact (Kd.R_mono (Kd.R_far (p := ⟨gb432, 1, none⟩) (Kd.R_far (p := ⟨gb432, 0, none⟩) (Kd.R_types HO_400001.out BK432.out (by decide)) (fun _ hk => hk.2) (.string t427)) (fun _ hk => hk.2) (.slice Ao120 t428.length co120)) (fun _ h_ => h_.1))) hb); have n1_ := Aside0.mk (Kd.R_below (by (with_reducible repeat (first | apply Kd.R_alloc | apply Kd.R_drewN | apply Kd.R_drew)); exact (Kd.R_mono (Kd.R_far (p := ⟨gb432, 1, none⟩) (Kd.R_far (p := ⟨gb432, 0, none⟩) (Kd.R_types HO_405001.out BK432.out (by decide)) (fun _ hk => hk.2) (.string t427)) (fun _ hk => hk.2) (.slice Ao120 t428.length co120)) (fun _ h_ => h_.1))) hb); have n2_ := Aside0.mk (Kd.R_below (by (with_reducible repeat (first | apply Kd.R_alloc | apply Kd.R_drewN | apply Kd.R_drew)); exact (Kd.R_mono (Kd.R_far (p := ⟨gb432, 1, none⟩) (Kd.R_far (p := ⟨gb432, 0, none⟩) (Kd.R_types HO_411001.out BK432.out (by decide)) (fun _ hk => hk.2) (.string t427)) (fun _ hk => hk.2) (.slice Ao120 t428.length co120)) (fun _ h_ => h_.1))) hb); have n3_ := Aside0.mk (Kd.R_below (by (with_reducible repeat (first | apply Kd.R_alloc | apply Kd.R_drewN | apply Kd.R_drew)); exact (Kd.R_mono (Kd.R_far (p := ⟨gb432, 1, none⟩) (Kd.R_far (p := ⟨gb432, 0, none⟩) (Kd.R_types HO426.out BK432.out (by decide)) (fun _ hk => hk.2) (.string t427)) (fun _ hk => hk.2) (.slice Ao120 t428.length co120)) (fun _ h_ => h_.1))) hb); have n4_ := Aside0.mk (Kd.R_below (by (with_reducible repeat (first | apply Kd.R_alloc | apply Kd.R_drewN | apply Kd.R_drew)); exact (Kd.R_mono (Kd.R_far (p := ⟨gb432, 1, none⟩) (Kd.R_far (p := ⟨gb432, 0, none⟩) (Kd.R_types HO430.out BK432.out (by decide)) (fun _ hk => hk.2) (.string t427)) (fun _ hk => hk.2) (.slice Ao120 t428.length co120)) (fun _ h_ => h_.1))) hb); have n5_ := Aside0.mk (blk_below (g := gb388) (o := .cells #[.string a0_0, .slice A0_1 l0_1.length c0_1] 41 (0, 0)) (by (with_reducible repeat (first | refine blk_drewN ?_ _ | refine blk_drew ?_ | refine blk_alloc ?_ _)); refine blk_far ?_ NB388_432.out _; (with_reducible repeat (first | refine blk_drewN ?_ _ | refine blk_drew ?_ | refine blk_alloc ?_ _)); refine blk_far ?_ NB388_432.out _; (with_reducible repeat (first | refine blk_drewN ?_ _ | refine blk_drew ?_ | refine blk_alloc ?_ _)); exact BK388.out) hb); have n6_ := Aside0.mk (blk_below (g := gb399) (o := .cells #[.string t394, .slice Ao26 t395.length co26] 27 (0, 0)) (by (with_reducible repeat (first | refine blk_drewN ?_ _ | refine blk_drew ?_ | refine blk_alloc ?_ _)); refine blk_far ?_ NB399_432.out _; (with_reducible repeat (first | refine blk_drewN ?_ _ | refine blk_drew ?_ | refine blk_alloc ?_ _)); refine blk_far ?_ NB399_432.out _; (with_reducible repeat (first | refine blk_drewN ?_ _ | refine blk_drew ?_ | refine blk_alloc ?_ _)); exact BK399.out) hb); have n7_ := Aside0.mk (blk_below (g := gb404) (o := .cells #[.string t400, .slice Ao33 t418.length co33] 27 (0, 0)) (by (with_reducible repeat (first | refine blk_drewN ?_ _ | refine blk_drew ?_ | refine blk_alloc ?_ _)); refine blk_far ?_ NB404_432.out _; (with_reducible repeat (first | refine blk_drewN ?_ _ | refine blk_drew ?_ | refine blk_alloc ?_ _)); refine blk_far ?_ NB404_432.out _; (with_reducible repeat (first | refine blk_drewN ?_ _ | refine blk_drew ?_ | refine blk_alloc ?_ _)); exact BK404.out) hb); have n8_ := Aside0.mk (blk_below (g := gb410) (o := .cells #[.string t405, .slice Ao40 t406.length co40] 27 (0, 0)) (by (with_reducible repeat (first | refine blk_drewN ?_ _ | refine blk_drew ?_ | refine blk_alloc ?_ _)); refine blk_far ?_ NB410_432.out _; (with_reducible repeat (first | refine blk_drewN ?_ _ | refine blk_drew ?_ | refine blk_alloc ?_ _)); refine blk_far ?_ NB410_432.out _; (with_reducible repeat (first | refine blk_drewN ?_ _ | refine blk_drew ?_ | refine blk_alloc ?_ _)); exact BK410.out) hb); have n9_ := Aside0.mk (blk_below (g := gb432) (o := .cells #[.string t427, .slice Ao120 t428.length co120] 27 (0, 0)) (by (with_reducible repeat (first | refine blk_drewN ?_ _ | refine blk_drew ?_ | refine blk_alloc ?_ _)); refine blk_put (cs := #[.string t427, .slice none 0 0]) ?_ 1 _ rfl; (with_reducible repeat (first | refine blk_drewN ?_ _ | refine blk_drew ?_ | refine blk_alloc ?_ _)); refine blk_put (cs := #[.string (⟨#[]⟩ : ByteArray), .slice none 0 0]) ?_ 0 _ rfl; (with_reducible repeat (first | refine blk_drewN ?_ _ | refine blk_drew ?_ | refine blk_alloc ?_ _)); exact BK432.out) hb); have n10_ := Aside0.mk (below_step (by repeat (first | (with_reducible first | exact HB.out | apply below_alloc | apply pw_below_drewN | apply below_drew1 | refine below_set ?_ GE388.out | refine below_set ?_ GE399.out | refine below_set ?_ GE404.out | refine below_set ?_ GE410.out | refine below_set ?_ GE432.out) | exact HB.out)) hb); clear HO_400001; clear HO_405001; clear HO_411001; clear HO426; clear HO430; clear BK388; clear BK399; clear BK404; clear BK410; clear BK432; clear HB; have HO_400001 := n0_; have HO_405001 := n1_; have HO_411001 := n2_; have HO426 := n3_; have HO430 := n4_; have BK388 := n5_; have BK399 := n6_; have BK404 := n7_; have BK410 := n8_; have BK432 := n9_; have HB := n10_; clear n0_ n1_ n2_ n3_ n4_ n5_ n6_ n7_ n8_ n9_ n10_; (try clear hb); (try clear hb2); (try clear hk); (try clear hi)))
              go_meet
              case rel => exact ⟨_, ((t431 != t398)), (by first | rfl | (simp; done) | (simp [*]; done) | (simp [i64_w, IntKind.wrap_u8, e256_]; done) | (simp; generalize ByteArray.toList _ = zz_; cases zz_ <;> rfl)), H', ⟨by have := HJ14.out; have := HJ63.out; first | omega | exact Nat.le_refl _⟩, ⟨by (try simp only [hl405001_63]); (with_reducible repeat (first | apply Kd.R_alloc | apply Kd.R_drewN | apply Kd.R_drew)); exact Kd.R_mono HO_400001.out (fun _ hk => ⟨hk.1.1.1, ⟨hk.1.1.2, hk.2⟩⟩)⟩, ⟨by (try simp only [hl405001_63]); (with_reducible repeat (first | apply Kd.R_alloc | apply Kd.R_drewN | apply Kd.R_drew)); exact Kd.R_mono HO_405001.out (fun _ hk => ⟨hk.1.1.1, ⟨hk.1.1.2, hk.2⟩⟩)⟩, ⟨by (try simp only [hl405001_63]); (with_reducible repeat (first | apply Kd.R_alloc | apply Kd.R_drewN | apply Kd.R_drew)); exact Kd.R_mono HO_411001.out (fun _ hk => ⟨hk.1.1.1, ⟨hk.1.1.2, hk.2⟩⟩)⟩, ⟨by (try simp only [hl405001_63]); (with_reducible repeat (first | apply Kd.R_alloc | apply Kd.R_drewN | apply Kd.R_drew)); exact Kd.R_mono HO430.out (fun _ hk => ⟨hk.1.1.1.2, ⟨hk.1.1.2, hk.1.2⟩⟩)⟩, ⟨by (try simp only [hl405001_63]); (with_reducible repeat (first | refine blk_drewN ?_ _ | refine blk_drew ?_ | refine blk_alloc ?_ _)); exact BK388.out⟩, ⟨by (try simp only [hl405001_63]); (with_reducible repeat (first | refine blk_drewN ?_ _ | refine blk_drew ?_ | refine blk_alloc ?_ _)); exact BK399.out⟩, ⟨by (try simp only [hl405001_63]); (with_reducible repeat (first | refine blk_drewN ?_ _ | refine blk_drew ?_ | refine blk_alloc ?_ _)); exact BK404.out⟩, ⟨by (try simp only [hl405001_63]); (with_reducible repeat (first | refine blk_drewN ?_ _ | refine blk_drew ?_ | refine blk_alloc ?_ _)); exact BK410.out⟩, ⟨by (try simp only [hl405001_63]); (with_reducible repeat (first | refine blk_drewN ?_ _ | refine blk_drew ?_ | refine blk_alloc ?_ _)); exact BK432.out⟩, ⟨by repeat (first | (with_reducible first | exact HB.out | apply below_alloc | apply pw_below_drewN | apply below_drew1 | refine below_set ?_ GE388.out | refine below_set ?_ GE399.out | refine below_set ?_ GE404.out | refine below_set ?_ GE410.out | refine below_set ?_ GE432.out) | exact HB.out)⟩⟩
             ·replace c122 := Bool.eq_false_iff.mpr c122
              subst c122
              have H1 : (laws_FnExactWithField.j2 kj63 t420 true t405 t421) = some r := by rw [if_neg (show ¬ (false = true) by decide)] at H; exact H
              clear H
              have H := H1
              clear H1
              have H' := Aside0.mk H
              clear H
              have hnb133 := NB432_388.out
              have hnc133 := NB388_432.out
              have hnb134 := NB432_399.out
              have hnc134 := NB399_432.out
              have hnb135 := NB432_404.out
              have hnc135 := NB404_432.out
              have hnb136 := NB432_410.out
              have hnc136 := NB410_432.out
              have hcz137_0 : w114.cell? ⟨gb432, 0, none⟩ = some (.string (⟨#[]⟩ : ByteArray)) := (blk_cell BK432.out 0).trans rfl
              have hcz137_1 : w114.cell? ⟨gb432, 1, none⟩ = some (.slice none 0 0) := (blk_cell BK432.out 1).trans rfl
              have hfz137_0 := blk_frozen BK432.out 0
              have hfz137_1 := blk_frozen BK432.out 1
              have hnb138 := NB399_388.out
              have hnc138 := NB388_399.out
              have hnb139 := NB399_404.out
              have hnc139 := NB404_399.out
              have hnb140 := NB399_410.out
              have hnc140 := NB410_399.out
              have hcz141_0 : w114.cell? ⟨gb399, 0, none⟩ = some (.string t394) := (blk_cell BK399.out 0).trans rfl
              have hcz141_1 : w114.cell? ⟨gb399, 1, none⟩ = some (.slice Ao26 t395.length co26) := (blk_cell BK399.out 1).trans rfl
              have hfz141_0 := blk_frozen BK399.out 0
              have hfz141_1 := blk_frozen BK399.out 1
              go_wp2_with (first | ((with_reducible refine gate_callee (f := 19) rfl ?_); refine goesL_ (some 94) rfl rfl Try.func19 (by kernel_rfl) rfl #[.agg #[.string t427, .slice Ao120 t428.length co120], .agg #[.string t394, .slice Ao26 t395.length co26]] rfl (by (try simp only [List.map_toArray, List.map_cons, List.map_nil]); first | done | rfl | (simp only [List.length_drop, List.length_take]; rfl)) ?_; (with_reducible refine (laws_eqMsg.calls kj63 t427 _ _ t428 t394 _ _ t395 false _ ?side1 ?side2 ?side3 ?side4 A121.out).mono ?_); (case side1 => refine (Kd.R_reads' (e := 58) (base := w.heap.size) (ok := fun k_ => ((((True ∧ some k_ ≠ (.slice Ao26 t395.length co26 : Value).ownBlock) ∧ some k_ ≠ (.slice Ao33 t418.length co33 : Value).ownBlock) ∧ some k_ ≠ (.slice Ao40 t406.length co40 : Value).ownBlock) ∧ some k_ ≠ (.slice Ao112 t424.length co112 : Value).ownBlock)) (n := t428.length) (c := co120) ?_).2.2; exact (by (with_reducible repeat (first | apply Kd.R_alloc | apply Kd.R_drewN | apply Kd.R_drew)); exact (Kd.R_mono (Kd.R_far (p := ⟨gb432, 1, none⟩) (Kd.R_far (p := ⟨gb432, 0, none⟩) (Kd.R_types HO430.out BK432.out (by decide)) (fun _ hk => hk.2) (.string t427)) (fun _ hk => hk.2) (.slice Ao120 t428.length co120)) (fun _ h_ => h_.1)))); (case side2 => exact (Kd.R_reads' HO430.out).2.1); (case side3 => refine (Kd.R_reads' (e := 58) (base := w.heap.size) (ok := fun k_ => (((some k_ ≠ (.slice Ao33 t418.length co33 : Value).ownBlock ∧ some k_ ≠ (.slice Ao40 t406.length co40 : Value).ownBlock) ∧ some k_ ≠ (.slice Ao112 t424.length co112 : Value).ownBlock) ∧ some k_ ≠ (.slice Ao120 t428.length co120 : Value).ownBlock)) (n := t395.length) (c := co26) ?_).2.2; exact (by (with_reducible repeat (first | apply Kd.R_alloc | apply Kd.R_drewN | apply Kd.R_drew)); exact (Kd.R_mono (Kd.R_far (p := ⟨gb432, 1, none⟩) (Kd.R_far (p := ⟨gb432, 0, none⟩) (Kd.R_types HO_400001.out BK432.out (by decide)) (fun _ hk => hk.2) (.string t427)) (fun _ hk => hk.2) (.slice Ao120 t428.length co120)) (fun _ h_ => h_.1)))); (case side4 => exact (Kd.R_reads' HO_400001.out).2.1); rintro e w142 ⟨rfl, hb⟩; refine ⟨_, rfl, ?_⟩; have n0_ := Aside0.mk (Kd.R_below (by (with_reducible repeat (first | apply Kd.R_alloc | apply Kd.R_drewN | apply Kd.R_drew)); exact (Kd.R_mono (Kd.R_far (p := ⟨gb432, 1, none⟩) (Kd.R_far (p := ⟨gb432, 0, none⟩) (Kd.R_types HO_400001.out BK432.out (by decide)) (fun _ hk => hk.2) (.string t427)) (fun _ hk => hk.2) (.slice Ao120 t428.length co120)) (fun _ h_ => h_.1))) hb); have n1_ := Aside0.mk (Kd.R_below (by (with_reducible repeat (first | apply Kd.R_alloc | apply Kd.R_drewN | apply Kd.R_drew)); exact (Kd.R_mono (Kd.R_far (p := ⟨gb432, 1, none⟩) (Kd.R_far (p := ⟨gb432, 0, none⟩) (Kd.R_types HO_405001.out BK432.out (by decide)) (fun _ hk => hk.2) (.string t427)) (fun _ hk => hk.2) (.slice Ao120 t428.length co120)) (fun _ h_ => h_.1))) hb); have n2_ := Aside0.mk (Kd.R_below (by (with_reducible repeat (first | apply Kd.R_alloc | apply Kd.R_drewN | apply Kd.R_drew)); exact (Kd.R_mono (Kd.R_far (p := ⟨gb432, 1, none⟩) (Kd.R_far (p := ⟨gb432, 0, none⟩) (Kd.R_types HO_411001.out BK432.out (by decide)) (fun _ hk => hk.2) (.string t427)) (fun _ hk => hk.2) (.slice Ao120 t428.length co120)) (fun _ h_ => h_.1))) hb); have n3_ := Aside0.mk (Kd.R_below (by (with_reducible repeat (first | apply Kd.R_alloc | apply Kd.R_drewN | apply Kd.R_drew)); exact (Kd.R_mono (Kd.R_far (p := ⟨gb432, 1, none⟩) (Kd.R_far (p := ⟨gb432, 0, none⟩) (Kd.R_types HO426.out BK432.out (by decide)) (fun _ hk => hk.2) (.string t427)) (fun _ hk => hk.2) (.slice Ao120 t428.length co120)) (fun _ h_ => h_.1))) hb); have n4_ := Aside0.mk (Kd.R_below (by (with_reducible repeat (first | apply Kd.R_alloc | apply Kd.R_drewN | apply Kd.R_drew)); exact (Kd.R_mono (Kd.R_far (p := ⟨gb432, 1, none⟩) (Kd.R_far (p := ⟨gb432, 0, none⟩) (Kd.R_types HO430.out BK432.out (by decide)) (fun _ hk => hk.2) (.string t427)) (fun _ hk => hk.2) (.slice Ao120 t428.length co120)) (fun _ h_ => h_.1))) hb); have n5_ := Aside0.mk (blk_below (g := gb388) (o := .cells #[.string a0_0, .slice A0_1 l0_1.length c0_1] 41 (0, 0)) (by (with_reducible repeat (first | refine blk_drewN ?_ _ | refine blk_drew ?_ | refine blk_alloc ?_ _)); refine blk_far ?_ NB388_432.out _; (with_reducible repeat (first | refine blk_drewN ?_ _ | refine blk_drew ?_ | refine blk_alloc ?_ _)); refine blk_far ?_ NB388_432.out _; (with_reducible repeat (first | refine blk_drewN ?_ _ | refine blk_drew ?_ | refine blk_alloc ?_ _)); exact BK388.out) hb); have n6_ := Aside0.mk (blk_below (g := gb399) (o := .cells #[.string t394, .slice Ao26 t395.length co26] 27 (0, 0)) (by (with_reducible repeat (first | refine blk_drewN ?_ _ | refine blk_drew ?_ | refine blk_alloc ?_ _)); refine blk_far ?_ NB399_432.out _; (with_reducible repeat (first | refine blk_drewN ?_ _ | refine blk_drew ?_ | refine blk_alloc ?_ _)); refine blk_far ?_ NB399_432.out _; (with_reducible repeat (first | refine blk_drewN ?_ _ | refine blk_drew ?_ | refine blk_alloc ?_ _)); exact BK399.out) hb); have n7_ := Aside0.mk (blk_below (g := gb404) (o := .cells #[.string t400, .slice Ao33 t418.length co33] 27 (0, 0)) (by (with_reducible repeat (first | refine blk_drewN ?_ _ | refine blk_drew ?_ | refine blk_alloc ?_ _)); refine blk_far ?_ NB404_432.out _; (with_reducible repeat (first | refine blk_drewN ?_ _ | refine blk_drew ?_ | refine blk_alloc ?_ _)); refine blk_far ?_ NB404_432.out _; (with_reducible repeat (first | refine blk_drewN ?_ _ | refine blk_drew ?_ | refine blk_alloc ?_ _)); exact BK404.out) hb); have n8_ := Aside0.mk (blk_below (g := gb410) (o := .cells #[.string t405, .slice Ao40 t406.length co40] 27 (0, 0)) (by (with_reducible repeat (first | refine blk_drewN ?_ _ | refine blk_drew ?_ | refine blk_alloc ?_ _)); refine blk_far ?_ NB410_432.out _; (with_reducible repeat (first | refine blk_drewN ?_ _ | refine blk_drew ?_ | refine blk_alloc ?_ _)); refine blk_far ?_ NB410_432.out _; (with_reducible repeat (first | refine blk_drewN ?_ _ | refine blk_drew ?_ | refine blk_alloc ?_ _)); exact BK410.out) hb); have n9_ := Aside0.mk (blk_below (g := gb432) (o := .cells #[.string t427, .slice Ao120 t428.length co120] 27 (0, 0)) (by (with_reducible repeat (first | refine blk_drewN ?_ _ | refine blk_drew ?_ | refine blk_alloc ?_ _)); refine blk_put (cs := #[.string t427, .slice none 0 0]) ?_ 1 _ rfl; (with_reducible repeat (first | refine blk_drewN ?_ _ | refine blk_drew ?_ | refine blk_alloc ?_ _)); refine blk_put (cs := #[.string (⟨#[]⟩ : ByteArray), .slice none 0 0]) ?_ 0 _ rfl; (with_reducible repeat (first | refine blk_drewN ?_ _ | refine blk_drew ?_ | refine blk_alloc ?_ _)); exact BK432.out) hb); have n10_ := Aside0.mk (below_step (by repeat (first | (with_reducible first | exact HB.out | apply below_alloc | apply pw_below_drewN | apply below_drew1 | refine below_set ?_ GE388.out | refine below_set ?_ GE399.out | refine below_set ?_ GE404.out | refine below_set ?_ GE410.out | refine below_set ?_ GE432.out) | exact HB.out)) hb); clear HO_400001; clear HO_405001; clear HO_411001; clear HO426; clear HO430; clear BK388; clear BK399; clear BK404; clear BK410; clear BK432; clear HB; have HO_400001 := n0_; have HO_405001 := n1_; have HO_411001 := n2_; have HO426 := n3_; have HO430 := n4_; have BK388 := n5_; have BK399 := n6_; have BK404 := n7_; have BK410 := n8_; have BK432 := n9_; have HB := n10_; clear n0_ n1_ n2_ n3_ n4_ n5_ n6_ n7_ n8_ n9_ n10_; (try clear hb); (try clear hb2); (try clear hk); (try clear hi)))
              go_meet
              case rel => exact ⟨_, (true), (by first | rfl | (simp; done) | (simp [*]; done) | (simp [i64_w, IntKind.wrap_u8, e256_]; done) | (simp; generalize ByteArray.toList _ = zz_; cases zz_ <;> rfl)), H', ⟨by have := HJ14.out; have := HJ63.out; first | omega | exact Nat.le_refl _⟩, ⟨by (try simp only [hl405001_63]); (with_reducible repeat (first | apply Kd.R_alloc | apply Kd.R_drewN | apply Kd.R_drew)); exact Kd.R_mono HO_400001.out (fun _ hk => ⟨hk.1.1.1, ⟨hk.1.1.2, hk.2⟩⟩)⟩, ⟨by (try simp only [hl405001_63]); (with_reducible repeat (first | apply Kd.R_alloc | apply Kd.R_drewN | apply Kd.R_drew)); exact Kd.R_mono HO_405001.out (fun _ hk => ⟨hk.1.1.1, ⟨hk.1.1.2, hk.2⟩⟩)⟩, ⟨by (try simp only [hl405001_63]); (with_reducible repeat (first | apply Kd.R_alloc | apply Kd.R_drewN | apply Kd.R_drew)); exact Kd.R_mono HO_411001.out (fun _ hk => ⟨hk.1.1.1, ⟨hk.1.1.2, hk.2⟩⟩)⟩, ⟨by (try simp only [hl405001_63]); (with_reducible repeat (first | apply Kd.R_alloc | apply Kd.R_drewN | apply Kd.R_drew)); exact Kd.R_mono HO430.out (fun _ hk => ⟨hk.1.1.1.2, ⟨hk.1.1.2, hk.1.2⟩⟩)⟩, ⟨by (try simp only [hl405001_63]); (with_reducible repeat (first | refine blk_drewN ?_ _ | refine blk_drew ?_ | refine blk_alloc ?_ _)); exact BK388.out⟩, ⟨by (try simp only [hl405001_63]); (with_reducible repeat (first | refine blk_drewN ?_ _ | refine blk_drew ?_ | refine blk_alloc ?_ _)); exact BK399.out⟩, ⟨by (try simp only [hl405001_63]); (with_reducible repeat (first | refine blk_drewN ?_ _ | refine blk_drew ?_ | refine blk_alloc ?_ _)); exact BK404.out⟩, ⟨by (try simp only [hl405001_63]); (with_reducible repeat (first | refine blk_drewN ?_ _ | refine blk_drew ?_ | refine blk_alloc ?_ _)); exact BK410.out⟩, ⟨by (try simp only [hl405001_63]); (with_reducible repeat (first | refine blk_drewN ?_ _ | refine blk_drew ?_ | refine blk_alloc ?_ _)); exact BK432.out⟩, ⟨by repeat (first | (with_reducible first | exact HB.out | apply below_alloc | apply pw_below_drewN | apply below_drew1 | refine below_set ?_ GE388.out | refine below_set ?_ GE399.out | refine below_set ?_ GE404.out | refine below_set ?_ GE410.out | refine below_set ?_ GE432.out) | exact HB.out)⟩⟩
            case rest =>
             clear HC100
             try clear c1
             try clear c2
             try clear p2
             try clear c3
             try clear c4
             try clear c4b0
             try clear c4b1
             try clear c5
             try clear c6
             try clear p6
             try clear c7
             try clear c7b0
             try clear c8
             try clear c9
             try clear c10
             try clear c11
             try clear c12
             try clear c13
             try clear c14
             try clear c16
             try clear c17
             try clear c18
             try clear c19
             try clear c20
             try clear c21
             try clear c24
             try clear c30
             try clear c31
             try clear c36
             try clear c37
             try clear c38
             try clear c42
             try clear c43
             try clear c44
             try clear c45
             try clear c47
             try clear c48
             try clear c51
             try clear c52
             try clear c53
             try clear c55
             try clear c56
             try clear c59
             try clear c62
             try clear p64
             try clear c69
             try clear c70
             try clear c71
             try clear c74
             try clear c74b0
             try clear c76
             try clear c77
             try clear c78
             try clear c79
             try clear c81
             try clear c82
             try clear c85
             try clear c86
             try clear c87
             try clear c89
             try clear c90
             try clear c93
             try clear c96
             try clear c96b0
             try clear c97
             try clear c97b0
             try clear c97b1
             try clear c101
             try clear c102
             try clear c103
             try clear c108
             try clear c109
             try clear c115
             try clear c116
             try clear c117
             try clear c118
             try clear c122
             try clear c123
             try clear c124
             try clear c125
             try clear c126
             try clear c128
             try clear c129
             try clear c130
             try clear c133
             try clear c134
             try clear c135
             try clear c136
             try clear c138
             try clear c139
             try clear c140
             try clear hcz104_0
             try clear hcz104_1
             try clear hcz106_0
             try clear hcz106_1
             try clear hcz110_0
             try clear hcz110_1
             try clear hcz119_0
             try clear hcz119_1
             try clear hcz127_0
             try clear hcz127_1
             try clear hcz131_0
             try clear hcz131_1
             try clear hcz137_0
             try clear hcz137_1
             try clear hcz141_0
             try clear hcz141_1
             try clear hcz17_0
             try clear hcz17_1
             try clear hcz19_0
             try clear hcz19_1
             try clear hcz25_0
             try clear hcz25_1
             try clear hcz27_0
             try clear hcz27_1
             try clear hcz32_0
             try clear hcz32_1
             try clear hcz39_0
             try clear hcz39_1
             try clear hcz46_0
             try clear hcz46_1
             try clear hcz49_0
             try clear hcz49_1
             try clear hcz54_0
             try clear hcz54_1
             try clear hcz57_0
             try clear hcz57_1
             try clear hcz72_0
             try clear hcz72_1
             try clear hcz80_0
             try clear hcz80_1
             try clear hcz83_0
             try clear hcz83_1
             try clear hcz88_0
             try clear hcz88_1
             try clear hcz91_0
             try clear hcz91_1
             try clear hcz9_0
             try clear hcz9_1
             try clear hfz104_0
             try clear hfz104_1
             try clear hfz106_0
             try clear hfz106_1
             try clear hfz110_0
             try clear hfz110_1
             try clear hfz119_0
             try clear hfz119_1
             try clear hfz127_0
             try clear hfz127_1
             try clear hfz131_0
             try clear hfz131_1
             try clear hfz137_0
             try clear hfz137_1
             try clear hfz141_0
             try clear hfz141_1
             try clear hfz17_0
             try clear hfz17_1
             try clear hfz19_0
             try clear hfz19_1
             try clear hfz25_0
             try clear hfz25_1
             try clear hfz27_0
             try clear hfz27_1
             try clear hfz32_0
             try clear hfz32_1
             try clear hfz39_0
             try clear hfz39_1
             try clear hfz46_0
             try clear hfz46_1
             try clear hfz49_0
             try clear hfz49_1
             try clear hfz54_0
             try clear hfz54_1
             try clear hfz57_0
             try clear hfz57_1
             try clear hfz72_0
             try clear hfz72_1
             try clear hfz80_0
             try clear hfz80_1
             try clear hfz83_0
             try clear hfz83_1
             try clear hfz88_0
             try clear hfz88_1
             try clear hfz91_0
             try clear hfz91_1
             try clear hfz9_0
             try clear hfz9_1
             try clear p2
             try clear p6
             try clear p64
             obtain ⟨kq, x100_99, rfl, HA, HJ99, HO_400001, HO_405001, HO_411001, HO_433001, BK388, BK399, BK404, BK410, BK432, HB⟩ := hcut
             have hl411001_99 := (Kd.R_reads' HO_411001.out).1
             rw [hl411001_99] at HO_411001
             (try simp only [hl411001_99])
             (try simp only [hl411001_99] at BK388)
             (try simp only [hl411001_99] at BK399)
             (try simp only [hl411001_99] at BK404)
             (try simp only [hl411001_99] at BK410)
             (try simp only [hl411001_99] at BK432)
             (try simp only [hl411001_99] at HO_400001)
             (try simp only [hl411001_99] at HO_405001)
             (try simp only [hl411001_99] at HO_433001)
             cases kq with
             | zero => exact absurd HA.out (by simp [laws_FnExactWithField.j2])
             | succ kj99 =>
              have H := HA.out
              clear HA
              simp only [laws_FnExactWithField.j2] at H
              by_cases c143 : x100_99 = true
              ·subst c143
               have H1 : (some false) = some r := by rw [if_pos rfl] at H; exact H
               clear H
               have H := H1
               clear H1
               obtain rfl := Option.some.inj H
               exact absurd hr_ (by simp)
              ·replace c143 := Bool.eq_false_iff.mpr c143
               subst c143
               have H1 : ((laws_heldMsg.f kj99 t405 t421 1).bind fun t434 => (if t434 < 0 then (some false) else (if t434 = t420 then (some true) else (some false)))) = some r := by rw [if_neg (show ¬ (false = true) by decide)] at H; exact H
               clear H
               have H := H1
               clear H1
               replace H := Option.bind_eq_some_iff.mp H
               obtain ⟨t434, A1440, H⟩ := H
               replace H : (if t434 < 0 then (some false) else (if t434 = t420 then (some true) else (some false))) = some r := H
               have A144 := Aside0.mk A1440
               clear A1440
               by_cases c145 : t434 < 0
               ·rw [if_pos c145] at H
                have c145b0 : decide (t434 < 0) = true := decide_eq_true c145
                clear c145
                obtain rfl := Option.some.inj H
                exact absurd hr_ (by simp)
               ·rw [if_neg c145] at H
                have c145b0 : decide (t434 < 0) = false := decide_eq_false c145
                clear c145
                by_cases c146 : t434 = t420
                ·rw [if_pos c146] at H
                 have c146b0 : (t434 == t420) = true := beq_iff_eq.mpr c146
                 have c146b1 : (t434 != t420) = false := bne_eq_false_iff_eq.mpr c146
                 clear c146
                 obtain rfl := Option.some.inj H
                 have hnb147 := NB410_388.out
                 have hnc147 := NB388_410.out
                 have hnb148 := NB410_399.out
                 have hnc148 := NB399_410.out
                 have hnb149 := NB410_404.out
                 have hnc149 := NB404_410.out
                 have hnb150 := NB410_432.out
                 have hnc150 := NB432_410.out
                 have hcz151_0 : wc.cell? ⟨gb410, 0, none⟩ = some (.string t405) := (blk_cell BK410.out 0).trans rfl
                 have hcz151_1 : wc.cell? ⟨gb410, 1, none⟩ = some (.slice Ao40 t421.length co40) := (blk_cell BK410.out 1).trans rfl
                 have hfz151_0 := blk_frozen BK410.out 0
                 have hfz151_1 := blk_frozen BK410.out 1
                 go_wp2_with (first | ((with_reducible refine gate_callee (f := 21) rfl ?_); refine goesL_ (some 103) rfl rfl Try.func21 (by kernel_rfl) rfl #[.agg #[.string t405, .slice Ao40 t421.length co40], .int .i64 1] rfl (by (try simp only [List.map_toArray, List.map_cons, List.map_nil]); first | done | rfl | (simp only [List.length_drop, List.length_take]; rfl)) ?_; (with_reducible refine (laws_heldMsg.calls kj99 t405 _ _ t421 1 t434 _ ?side1 ?side2 A144.out).mono ?_); (case side1 => repeat (first | exact (Kd.R_reads' HO_411001.out).2.2 | (with_reducible refine Kd.C_alloc ?_ _) | (with_reducible refine Kd.C_drewN ?_ _) | (with_reducible refine Kd.C_drew ?_))); (case side2 => exact (Kd.R_reads' HO_411001.out).2.1); rintro e w152 ⟨rfl, hb⟩; refine ⟨_, rfl, ?_⟩; have n0_ := Aside0.mk (Kd.R_below (by (with_reducible repeat (first | apply Kd.R_alloc | apply Kd.R_drewN | apply Kd.R_drew)); exact HO_400001.out) hb); have n1_ := Aside0.mk (Kd.R_below (by (with_reducible repeat (first | apply Kd.R_alloc | apply Kd.R_drewN | apply Kd.R_drew)); exact HO_405001.out) hb); have n2_ := Aside0.mk (Kd.R_below (by (with_reducible repeat (first | apply Kd.R_alloc | apply Kd.R_drewN | apply Kd.R_drew)); exact HO_411001.out) hb); have n3_ := Aside0.mk (Kd.R_below (by (with_reducible repeat (first | apply Kd.R_alloc | apply Kd.R_drewN | apply Kd.R_drew)); exact HO_433001.out) hb); have n4_ := Aside0.mk (blk_below (g := gb388) (o := .cells #[.string a0_0, .slice A0_1 l0_1.length c0_1] 41 (0, 0)) (by (with_reducible repeat (first | refine blk_drewN ?_ _ | refine blk_drew ?_ | refine blk_alloc ?_ _)); exact BK388.out) hb); have n5_ := Aside0.mk (blk_below (g := gb399) (o := .cells #[.string t394, .slice Ao26 t395.length co26] 27 (0, 0)) (by (with_reducible repeat (first | refine blk_drewN ?_ _ | refine blk_drew ?_ | refine blk_alloc ?_ _)); exact BK399.out) hb); have n6_ := Aside0.mk (blk_below (g := gb404) (o := .cells #[.string t400, .slice Ao33 t418.length co33] 27 (0, 0)) (by (with_reducible repeat (first | refine blk_drewN ?_ _ | refine blk_drew ?_ | refine blk_alloc ?_ _)); exact BK404.out) hb); have n7_ := Aside0.mk (blk_below (g := gb410) (o := .cells #[.string t405, .slice Ao40 t421.length co40] 27 (0, 0)) (by (with_reducible repeat (first | refine blk_drewN ?_ _ | refine blk_drew ?_ | refine blk_alloc ?_ _)); exact BK410.out) hb); have n8_ := Aside0.mk (blk_below (g := gb432) (o := .cells #[.string t427, .slice Ao120 t428.length co120] 27 (0, 0)) (by (with_reducible repeat (first | refine blk_drewN ?_ _ | refine blk_drew ?_ | refine blk_alloc ?_ _)); exact BK432.out) hb); have n9_ := Aside0.mk (below_step (by repeat (first | (with_reducible first | exact HB.out | apply below_alloc | apply pw_below_drewN | apply below_drew1 | refine below_set ?_ GE388.out | refine below_set ?_ GE399.out | refine below_set ?_ GE404.out | refine below_set ?_ GE410.out | refine below_set ?_ GE432.out) | exact HB.out)) hb); clear HO_400001; clear HO_405001; clear HO_411001; clear HO_433001; clear BK388; clear BK399; clear BK404; clear BK410; clear BK432; clear HB; have HO_400001 := n0_; have HO_405001 := n1_; have HO_411001 := n2_; have HO_433001 := n3_; have BK388 := n4_; have BK399 := n5_; have BK404 := n6_; have BK410 := n7_; have BK432 := n8_; have HB := n9_; clear n0_ n1_ n2_ n3_ n4_ n5_ n6_ n7_ n8_ n9_; (try clear hb); (try clear hb2); (try clear hk); (try clear hi)))
                 go_ret
                 exact ⟨by first | rfl | (simp [errW_none, errW_some] <;> rfl) | (simp [*, errW_none, errW_some] <;> rfl), by repeat (first | (with_reducible first | exact HB.out | apply below_alloc | apply pw_below_drewN | apply below_drew1 | refine below_set ?_ GE388.out | refine below_set ?_ GE399.out | refine below_set ?_ GE404.out | refine below_set ?_ GE410.out | refine below_set ?_ GE432.out) | exact HB.out)⟩
                ·rw [if_neg c146] at H
                 have c146b0 : (t434 == t420) = false := beq_eq_false_iff_ne.mpr c146
                 have c146b1 : (t434 != t420) = true := bne_iff_ne.mpr c146
                 obtain rfl := Option.some.inj H
                 exact absurd hr_ (by simp)
           ·rw [if_neg c97] at H
            have c97b0 : (t422 == t420) = false := beq_eq_false_iff_ne.mpr c97
            have c97b1 : (t422 != t420) = true := bne_iff_ne.mpr c97
            obtain rfl := Option.some.inj H
            exact absurd hr_ (by simp)
      ·replace c62 := Bool.eq_false_iff.mpr c62
       subst c62
       have H1 : (some false) = some r := by rw [if_neg (show ¬ (false = true) by decide)] at H; exact H
       clear H
       have H := H1
       clear H1
       obtain rfl := Option.some.inj H
       exact absurd hr_ (by simp)
end Go.Proofs.Ytdcbpnhbbglbhaa.Q
end
section
/- Lemmas on what the printed functions compute (base); no condition. -/
namespace Go.Proofs.Ytdcbpnhbbglbhaa.Q
open Go.RowKit Go.Proofs.YtdcbpnhbbglbhaaW.PrintWords Go.Proofs.YtdcbpnhbbglbhaaW.PrintLast Go.Proofs.YtdcbpnhbbglbhaaW.PrintMore
set_option linter.unusedVariables false
set_option linter.unusedSimpArgs false

theorem w64 {i : Int} (h0 : 0 ≤ i) (h : i ≤ 140737488351232) : wrap64 (i + 1) = i + 1 := by
  unfold wrap64
  omega

theorem drop_bt (s : ByteArray) (n : Nat) (h : n < s.size) : (bytesOf s).drop n = bt s (n : Int) :: (bytesOf s).drop (n + 1) := by
  have hl : n < (bytesOf s).length := by rw [bytesOf_length]; exact h
  rw [List.drop_eq_getElem_cons hl]
  congr 1
  rw [← rd_bytesOf]
  unfold rd
  simp [List.getD, hl]

theorem drop_rd (l : List Int) (n : Nat) (h : n < l.length) : l.drop n = rd l (n : Int) :: l.drop (n + 1) := by
  rw [List.drop_eq_getElem_cons h]
  congr 1
  unfold rd
  simp [List.getD, h]


theorem wf_i64 {a : Int} (h : (Lit.int .i64 a).wf = true) : -9223372036854775808 ≤ a ∧ a ≤ 9223372036854775807 := by
  simp only [Lit.wf, IntKind.min, IntKind.max, IntKind.signed, IntKind.bits, Bool.and_eq_true, decide_eq_true_eq, if_true] at h
  omega

theorem wf_u8 {a : Int} (h : (Lit.int .u8 a).wf = true) : 0 ≤ a ∧ a ≤ 255 := by
  simp [Lit.wf, IntKind.min, IntKind.max, IntKind.signed, IntKind.bits] at h
  omega

theorem w64id {i : Int} (h0 : -9223372036854775808 ≤ i) (h : i ≤ 9223372036854775807) : wrap64 i = i := by
  unfold wrap64
  omega

theorem rd_nat (l : List Int) (n : Nat) (h : n < l.length) : rd l (n : Int) = l[n] := by
  unfold rd
  simp [List.getD, h]

theorem rd_mem (l : List Int) (n : Nat) (h : n < l.length) : rd l (n : Int) ∈ l := by
  rw [rd_nat l n h]
  exact List.getElem_mem h

/-- More rounds tell the same. -/
theorem later {α : Type} {g : Nat → Option α} {r : α} {k0 : Nat} (hm : ∀ k, LeO (g k) (g (k + 1))) (h : g k0 = some r) (k : Nat) (hk : k0 ≤ k) : g k = some r :=
  at_rounds hm hk h
end Go.Proofs.Ytdcbpnhbbglbhaa.Q
end
section
/- Lemmas on what the printed functions compute (msgs); no condition. -/
namespace Go.Proofs.Ytdcbpnhbbglbhaa.Q
open Go.RowKit Go.Proofs.YtdcbpnhbbglbhaaW.PrintWords Go.Proofs.YtdcbpnhbbglbhaaW.PrintLast Go.Proofs.YtdcbpnhbbglbhaaW.PrintMore
set_option linter.unusedVariables false
set_option linter.unusedSimpArgs false

abbrev LF := S95
abbrev IF := S58

theorem rdL_nat (l : List LF) (n : Nat) (h : n < l.length) : rd_T95 l (n : Int) = l[n] := by
  unfold rd_T95
  simp [List.getD, h]

theorem rdF_nat (l : List IF) (n : Nat) (h : n < l.length) : rd_T58 l (n : Int) = l[n] := by
  unfold rd_T58
  simp [List.getD, h]

theorem dropL (l : List LF) (n : Nat) (h : n < l.length) : l.drop n = rd_T95 l (n : Int) :: l.drop (n + 1) := by
  rw [List.drop_eq_getElem_cons h, rdL_nat l n h]

theorem dropF (l : List IF) (n : Nat) (h : n < l.length) : l.drop n = rd_T58 l (n : Int) :: l.drop (n + 1) := by
  rw [List.drop_eq_getElem_cons h, rdF_nat l n h]

theorem rdF_mem (l : List IF) (n : Nat) (h : n < l.length) : rd_T58 l (n : Int) ∈ l := by
  rw [rdF_nat l n h]
  exact List.getElem_mem h

theorem rdL_mem (l : List LF) (n : Nat) (h : n < l.length) : rd_T95 l (n : Int) ∈ l := by
  rw [rdL_nat l n h]
  exact List.getElem_mem h

theorem rdF_set_same (y : List IF) (n : Nat) (v : IF) (h : n < y.length) : rd_T58 (y.set n v) (n : Int) = v := by
  rw [rdF_nat _ _ (by simpa using h)]
  simp

theorem rdF_set_other (y : List IF) (n j : Nat) (v : IF) (h : j ≠ n) : rd_T58 (y.set n v) (j : Int) = rd_T58 y (j : Int) := by
  unfold rd_T58
  simp [List.getD, List.getElem?_set, Ne.symm h]

theorem intNat (n : Nat) : ((n : Int) : Int).toNat = n := by simp
theorem w64s {n : Nat} (h : n ≤ 140737488351232) : wrap64 ((n : Int) + 1) = ((n + 1 : Nat) : Int) := by unfold wrap64; omega
end Go.Proofs.Ytdcbpnhbbglbhaa.Q
end
section
/- Lemmas on what the printed functions compute (msgSz); no condition. -/
namespace Go.Proofs.Ytdcbpnhbbglbhaa.Q
open Go.RowKit Go.Proofs.YtdcbpnhbbglbhaaW.PrintWords Go.Proofs.YtdcbpnhbbglbhaaW.PrintLast Go.Proofs.YtdcbpnhbbglbhaaW.PrintMore
set_option linter.unusedVariables false
set_option linter.unusedSimpArgs false

theorem szFieldS_l (l : List LF) (hl : l.length ≤ 10000000) (hw : ∀ f ∈ l, f.f1.size ≤ 9223372036854775807) : ∀ (d n k : Nat) (a : Int), n + d = l.length → 0 ≤ a → a ≤ 1048576 → d < k →
    ∃ r, laws_szFieldS.l0 k l a (n : Int) = some r ∧ (r < 0 ∨ (0 ≤ r ∧ r ≤ a ∧ ∀ f ∈ l.drop n, (f.f1.size : Int) ≤ a)) := by
  intro d
  induction d with
  | zero =>
    intro n k a hd h0 h1 hk
    obtain ⟨k, rfl⟩ : ∃ m, k = m + 1 := ⟨k - 1, by omega⟩
    have c1 : ¬ (n : Int) < (l.length : Int) := by omega
    simp only [laws_szFieldS.l0, if_neg c1]
    refine ⟨a, rfl, Or.inr ⟨h0, Int.le_refl _, ?_⟩⟩
    rw [List.drop_of_length_le (by omega)]
    intro f hf
    simp at hf
  | succ d ih =>
    intro n k a hd h0 h1 hk
    obtain ⟨k, rfl⟩ : ∃ m, k = m + 1 := ⟨k - 1, by omega⟩
    have c1 : (n : Int) < (l.length : Int) := by omega
    have c2 : 0 ≤ (n : Int) := by omega
    have hs := hw _ (rdL_mem l n (by omega))
    rw [dropL l n (by omega)]
    simp only [laws_szFieldS.l0, if_pos c1, if_pos c2]
    unfold laws_szField.f
    generalize rd_T95 l (n : Int) = f at hs
    have e : wrap64 (a - (f.f1.size : Int)) = a - (f.f1.size : Int) := w64id (by omega) (by omega)
    rw [e]
    by_cases h : a - (f.f1.size : Int) < 0
    · rw [if_pos h]
      exact ⟨-1, rfl, Or.inl (by omega)⟩
    · rw [if_neg h, Option.bind_some, if_neg h, w64s (by omega)]
      obtain ⟨r, hr, hq⟩ := ih (n + 1) k (a - (f.f1.size : Int)) (by omega) (by omega) (by omega) (by omega)
      refine ⟨r, hr, ?_⟩
      rcases hq with hq | ⟨q1, q2, q3⟩
      · exact Or.inl hq
      · refine Or.inr ⟨q1, by omega, fun g hg => ?_⟩
        rcases List.mem_cons.1 hg with rfl | hg
        · omega
        · have := q3 g hg
          omega

/-- The size of a message: below 0, or all of it is small. -/
theorem szMsg_at (m : ByteArray) (l : List LF) (hm : m.size ≤ 9223372036854775807) (hl : l.length ≤ 9223372036854775807) (hw : ∀ f ∈ l, f.f1.size ≤ 9223372036854775807) (a : Int) (h0 : 0 ≤ a) (h1 : a ≤ 1048576) :
    ∃ r, (∀ k, l.length < k → laws_szMsg.f k m l a = some r) ∧ (r < 0 ∨ (0 ≤ r ∧ r ≤ a ∧ m.size ≤ 1048576 ∧ l.length ≤ 1048576 ∧ ∀ f ∈ l, f.f1.size ≤ 1048576)) := by
  have e : wrap64 (a - (m.size : Int)) = a - (m.size : Int) := w64id (by omega) (by omega)
  by_cases h : a - (m.size : Int) < 0
  · refine ⟨-1, fun k _ => ?_, Or.inl (by omega)⟩
    unfold laws_szMsg.f
    rw [e, if_pos h]
  have e2 : wrap64 (a - (m.size : Int) - (l.length : Int)) = a - (m.size : Int) - (l.length : Int) := w64id (by omega) (by omega)
  by_cases h2 : a - (m.size : Int) - (l.length : Int) < 0
  · refine ⟨-1, fun k _ => ?_, Or.inl (by omega)⟩
    unfold laws_szMsg.f laws_szFieldS.f
    rw [e, if_neg h, e2, if_pos h2, Option.bind_some, if_pos (by omega)]
  have hl2 : l.length ≤ 1048576 := by omega
  have hm2 : m.size ≤ 1048576 := by omega
  clear e e2
  obtain ⟨r, hr, hq⟩ := szFieldS_l l (by omega) hw l.length 0 (l.length + 1) (a - (m.size : Int) - (l.length : Int)) (by omega) (by omega) (by omega) (by omega)
  have e : wrap64 (a - (m.size : Int)) = a - (m.size : Int) := w64id (by omega) (by omega)
  have e2 : wrap64 (a - (m.size : Int) - (l.length : Int)) = a - (m.size : Int) - (l.length : Int) := w64id (by omega) (by omega)
  have hz : laws_szFieldS.f (l.length + 1) l (a - (m.size : Int)) = some r := by
    unfold laws_szFieldS.f
    rw [e2, if_neg h2]
    exact hr
  refine ⟨if r < 0 then -1 else r, fun k hk => ?_, ?_⟩
  · unfold laws_szMsg.f
    rw [e, if_neg h, later (g := fun k => laws_szFieldS.f k l (a - (m.size : Int))) (fun k => laws_szFieldS.mono l _ k) hz k (by omega), Option.bind_some]
    by_cases q : r < 0
    · rw [if_pos q, if_pos q]
    · rw [if_neg q, if_neg q]
  · clear e e2
    rcases hq with hq | ⟨q1, q2, q3⟩
    · rw [if_pos hq]; exact Or.inl (by omega)
    · rw [if_neg (by omega)]
      refine Or.inr ⟨q1, by omega, hm2, hl2, fun f hf => ?_⟩
      have := q3 f (by simpa using hf)
      omega
end Go.Proofs.Ytdcbpnhbbglbhaa.Q
end
section
/- Lemmas on what the printed functions compute (msgTo); no condition. -/
namespace Go.Proofs.Ytdcbpnhbbglbhaa.Q
open Go.RowKit Go.Proofs.YtdcbpnhbbglbhaaW.PrintWords Go.Proofs.YtdcbpnhbbglbhaaW.PrintLast Go.Proofs.YtdcbpnhbbglbhaaW.PrintMore
set_option linter.unusedVariables false
set_option linter.unusedSimpArgs false

def conv (f : LF) : IF := ⟨f.f0, f.f1⟩

theorem toFieldS_l (l : List LF) (hl : l.length ≤ 10000000) : ∀ (d n k : Nat) (y : List IF), n + d = l.length → y.length = l.length → y.take n = (l.map conv).take n → d < k →
    laws_toFieldS.l0 k l y (n : Int) = some (l.map conv) := by
  intro d
  induction d with
  | zero =>
    intro n k y hd hy ht hk
    obtain ⟨k, rfl⟩ : ∃ m, k = m + 1 := ⟨k - 1, by omega⟩
    have c1 : ¬ (n : Int) < (l.length : Int) := by omega
    simp only [laws_toFieldS.l0, if_neg c1]
    rw [List.take_of_length_le (by omega), List.take_of_length_le (by simp; omega)] at ht
    rw [ht]
  | succ d ih =>
    intro n k y hd hy ht hk
    obtain ⟨k, rfl⟩ : ∃ m, k = m + 1 := ⟨k - 1, by omega⟩
    have c1 : (n : Int) < (l.length : Int) := by omega
    have c2 : 0 ≤ (n : Int) := by omega
    have c3 : (n : Int) < (y.length : Int) := by omega
    simp only [laws_toFieldS.l0, if_pos c1, if_pos c2, if_pos c3, w64s (n := n) (by omega), intNat, laws_toField.f, Option.bind_some]
    refine ih (n + 1) k _ (by omega) (by simpa using hy) ?_ (by omega)
    rw [List.take_succ_eq_append_getElem (by simpa [hy] using by omega), List.take_succ_eq_append_getElem (by simpa using by omega), rdL_nat l n (by omega)]
    simp [List.take_set_of_le, ht, conv]

theorem toMsg_at (m : ByteArray) (l : List LF) (hl : l.length ≤ 10000000) (k : Nat) (hk : l.length < k) : laws_toMsg.f k m l = some (m, l.map conv) := by
  unfold laws_toMsg.f laws_toFieldS.f
  have h : laws_toFieldS.l0 k l (List.replicate ((l.length : Int) : Int).toNat z58) 0 = some (l.map conv) := toFieldS_l l hl l.length 0 k _ (by omega) (by simp) (by simp) hk
  rw [if_pos (by omega), if_pos (by omega), h]
  rfl
end Go.Proofs.Ytdcbpnhbbglbhaa.Q
end
section
/- Lemmas on what the printed functions compute (msgEq); no condition. -/
namespace Go.Proofs.Ytdcbpnhbbglbhaa.Q
open Go.RowKit Go.Proofs.YtdcbpnhbbglbhaaW.PrintWords Go.Proofs.YtdcbpnhbbglbhaaW.PrintLast Go.Proofs.YtdcbpnhbbglbhaaW.PrintMore
set_option linter.unusedVariables false
set_option linter.unusedSimpArgs false

theorem eqFieldS_l (l : List IF) (hl : l.length ≤ 10000000) : ∀ (d n k : Nat), n + d = l.length → d < k → laws_eqFieldS.l0 k l l (n : Int) = some true := by
  intro d
  induction d with
  | zero =>
    intro n k hd hk
    obtain ⟨k, rfl⟩ : ∃ m, k = m + 1 := ⟨k - 1, by omega⟩
    have c1 : ¬ (n : Int) < (l.length : Int) := by omega
    simp only [laws_eqFieldS.l0, if_neg c1]
  | succ d ih =>
    intro n k hd hk
    obtain ⟨k, rfl⟩ : ∃ m, k = m + 1 := ⟨k - 1, by omega⟩
    have c1 : (n : Int) < (l.length : Int) := by omega
    have c2 : 0 ≤ (n : Int) := by omega
    simp only [laws_eqFieldS.l0, if_pos c1, if_pos c2, w64s (n := n) (by omega), laws_eqField.f, if_true, Option.bind_some]
    exact ih (n + 1) k (by omega) (by omega)

theorem eqMsg_self (m : ByteArray) (l : List IF) (hl : l.length ≤ 10000000) (k : Nat) (hk : l.length < k) : laws_eqMsg.f k m l m l = some true := by
  unfold laws_eqMsg.f laws_eqFieldS.f
  have h : laws_eqFieldS.l0 k l l 0 = some true := eqFieldS_l l hl l.length 0 k (by omega) hk
  rw [if_pos rfl, if_pos rfl, h]
  rfl
end Go.Proofs.Ytdcbpnhbbglbhaa.Q
end
section
/- Lemmas on what the printed functions compute (rdset); no condition. -/
namespace Go.Proofs.Ytdcbpnhbbglbhaa.Q
open Go.RowKit Go.Proofs.YtdcbpnhbbglbhaaW.PrintWords Go.Proofs.YtdcbpnhbbglbhaaW.PrintLast Go.Proofs.YtdcbpnhbbglbhaaW.PrintMore
set_option linter.unusedVariables false
set_option linter.unusedSimpArgs false

theorem rd_set_same (y : List Int) (n : Nat) (v : Int) (h : n < y.length) : rd (y.set n v) (n : Int) = v := by
  rw [rd_nat _ _ (by simpa using h)]
  simp

theorem rd_set_other (y : List Int) (n j : Nat) (v : Int) (h : j ≠ n) : rd (y.set n v) (j : Int) = rd y (j : Int) := by
  unfold rd
  simp [List.getD, List.getElem?_set, Ne.symm h]

theorem toNat_cast (n : Nat) : ((n : Int) : Int).toNat = n := by simp

theorem take_set_succ (y l : List Int) (n : Nat) (hn : n < l.length) (hy : y.length = l.length) (h : y.take n = l.take n) :
    (y.set n (rd l (n : Int))).take (n + 1) = l.take (n + 1) := by
  rw [List.take_succ_eq_append_getElem (by simpa [hy] using hn), List.take_succ_eq_append_getElem hn, rd_nat l n hn]
  simp [List.take_set_of_le, h]
end Go.Proofs.Ytdcbpnhbbglbhaa.Q
end
section
/- Lemmas on what the printed functions compute (strs); no condition. -/
namespace Go.Proofs.Ytdcbpnhbbglbhaa.Q
open Go.RowKit Go.Proofs.YtdcbpnhbbglbhaaW.PrintWords Go.Proofs.YtdcbpnhbbglbhaaW.PrintLast Go.Proofs.YtdcbpnhbbglbhaaW.PrintMore
set_option linter.unusedVariables false
set_option linter.unusedSimpArgs false

def isByte (c : Int) : Prop := 0 ≤ c ∧ c ≤ 255

theorem bytesOf_range (s : ByteArray) : ∀ c ∈ bytesOf s, isByte c := by
  intro c hc
  unfold bytesOf at hc
  obtain ⟨b, _, rfl⟩ := List.mem_map.1 hc
  have := b.toNat_lt
  exact ⟨by omega, by omega⟩

theorem bytesOf_inj {s t : ByteArray} (h : bytesOf s = bytesOf t) : s = t := by
  have e : s.data.toList = t.data.toList := by
    unfold bytesOf at h
    have := congrArg (List.map fun n : Int => UInt8.ofNat n.toNat) h
    simpa [List.map_map, Function.comp_def] using this
  cases s; cases t
  congr 1
  exact Array.toList_inj.1 e

theorem bytesOf_append (s t : ByteArray) : bytesOf (s ++ t) = bytesOf s ++ bytesOf t := by
  unfold bytesOf
  simp

theorem bytesOf_strOfNums (l : List Int) (h : ∀ c ∈ l, isByte c) : bytesOf (strOfNums l) = l := by
  unfold bytesOf
  rw [strOfNums_data, List.map_map]
  have : ∀ c ∈ l, ((fun b : UInt8 => (b.toNat : Int)) ∘ fun n : Int => UInt8.ofNat n.toNat) c = c := by
    intro c hc
    obtain ⟨h0, h1⟩ := h c hc
    have e : (UInt8.ofNat c.toNat).toNat = c.toNat := by simp [UInt8.toNat_ofNat']; omega
    simp only [Function.comp, e]
    omega
  rw [List.map_congr_left this]
  simp

theorem strOfNums_bytesOf (s : ByteArray) : strOfNums (bytesOf s) = s := bytesOf_inj (bytesOf_strOfNums _ (bytesOf_range s))

theorem strOfNums_append (a b : List Int) : strOfNums (a ++ b) = strOfNums a ++ strOfNums b := by
  have e : (strOfNums (a ++ b)).data.toList = (strOfNums a ++ strOfNums b).data.toList := by
    rw [strOfNums_data, ByteArray.toList_data_append, strOfNums_data, strOfNums_data, List.map_append]
  revert e
  generalize strOfNums (a ++ b) = x
  generalize strOfNums a ++ strOfNums b = y
  intro e
  cases x; cases y
  congr 1
  exact Array.toList_inj.1 e

theorem size_eq (s : ByteArray) : s.size = (bytesOf s).length := (bytesOf_length s).symm

theorem bytesOf_extract (s : ByteArray) (a b : Nat) : bytesOf (s.extract a b) = ((bytesOf s).take b).drop a := by
  unfold bytesOf
  rw [ByteArray.data_extract, Array.toList_extract, List.extract_eq_take_drop, List.map_take, List.map_drop, List.drop_take]

theorem toList_of_eq {s t : ByteArray} (h : bytesOf s = bytesOf t) : s.toList = t.toList := by rw [bytesOf_inj h]

theorem bt_eq (s : ByteArray) (i : Int) : bt s i = rd (bytesOf s) i := (rd_bytesOf s i).symm
end Go.Proofs.Ytdcbpnhbbglbhaa.Q
end
section
/- Lemmas on what the printed functions compute (markText); no condition. -/
namespace Go.Proofs.Ytdcbpnhbbglbhaa.Q
open Go.RowKit Go.Proofs.YtdcbpnhbbglbhaaW.PrintWords Go.Proofs.YtdcbpnhbbglbhaaW.PrintLast Go.Proofs.YtdcbpnhbbglbhaaW.PrintMore
set_option linter.unusedVariables false
set_option linter.unusedSimpArgs false

theorem markText_l : ∀ (d k : Nat) (a : Int) (x : ByteArray), 0 ≤ a → a ≤ 1000000000 → a < 10 ^ d → x.size + d ≤ 1000 → d < k → ∃ t, laws_markText.l0 k a x = some t := by
  intro d
  induction d with
  | zero =>
    intro k a x h0 hg h1 hx hk
    obtain ⟨k, rfl⟩ : ∃ m, k = m + 1 := ⟨k - 1, by omega⟩
    have c1 : ¬ a > 0 := by simp at h1; omega
    have c2 : 1 + x.size ≤ 9223372036854775807 := by omega
    simp only [laws_markText.l0, if_neg c1, if_pos c2]
    exact ⟨_, rfl⟩
  | succ d ih =>
    intro k a x h0 hg h1 hx hk
    obtain ⟨k, rfl⟩ : ∃ m, k = m + 1 := ⟨k - 1, by omega⟩
    simp only [laws_markText.l0]
    by_cases c1 : a > 0
    · have hz : (strOfNums [wrap64 (48 + Int.tmod a 10) % 256]).size = 1 := by rw [strOfNums_size]; rfl
      rw [if_pos c1, Option.bind_some, if_pos (by omega)]
      have hq : 0 ≤ wrap64 (Int.tdiv a 10) ∧ wrap64 (Int.tdiv a 10) ≤ 1000000000 ∧ wrap64 (Int.tdiv a 10) < 10 ^ d := by
        rw [Int.tdiv_eq_ediv_of_nonneg h0]
        have hp : (10 : Int) ^ (d + 1) = 10 ^ d * 10 := Int.pow_succ 10 d
        rw [hp] at h1
        generalize (10 : Int) ^ d = p at h1
        rw [w64id (by omega) (by omega)]
        omega
      refine ih k _ _ hq.1 hq.2.1 hq.2.2 ?_ (by omega)
      rw [ByteArray.size_append, hz]
      omega
    · have c2 : 1 + x.size ≤ 9223372036854775807 := by omega
      rw [if_neg c1, if_pos c2]
      exact ⟨_, rfl⟩

def mtext (a : Int) : ByteArray := (laws_markText.f 30 a).getD ⟨#[]⟩

theorem markText_at (a : Int) (h1 : a ≤ 1000000000) (k : Nat) (hk : 30 ≤ k) : laws_markText.f k a = some (mtext a) := by
  have h : laws_markText.f 30 a = some (mtext a) := by
    unfold mtext
    by_cases h : a ≤ 0
    · unfold laws_markText.f
      rw [if_pos h]; rfl
    · obtain ⟨t, ht⟩ := markText_l 10 30 a ⟨#[]⟩ (by omega) (by omega) (by omega) (by decide) (by omega)
      have : laws_markText.f 30 a = some t := by
        unfold laws_markText.f
        rw [if_neg h]; exact ht
      rw [this]; rfl
  exact later (g := fun k => laws_markText.f k a) (fun k => laws_markText.mono a k) h k hk
end Go.Proofs.Ytdcbpnhbbglbhaa.Q
end
section
/- Lemmas on what the printed functions compute (msgMark); no condition. -/
namespace Go.Proofs.Ytdcbpnhbbglbhaa.Q
open Go.RowKit Go.Proofs.YtdcbpnhbbglbhaaW.PrintWords Go.Proofs.YtdcbpnhbbglbhaaW.PrintLast Go.Proofs.YtdcbpnhbbglbhaaW.PrintMore
set_option linter.unusedVariables false
set_option linter.unusedSimpArgs false

def mfield (a : Int) : IF := ⟨a, mtext (a + 1)⟩

theorem markFieldS_l : ∀ (d n k : Nat) (y : List IF) (a : Int), n + d = y.length → y.length ≤ 10000000 → 0 ≤ a → a + 2 * d ≤ 900000000 → d + 30 ≤ k →
    ∃ y', laws_markFieldS.l0 k y a (n : Int) = some (a + 2 * d, y') ∧ y'.length = y.length ∧ (∀ j : Nat, j < n → rd_T58 y' (j : Int) = rd_T58 y (j : Int)) ∧ ∀ j : Nat, n ≤ j → j < y.length → rd_T58 y' (j : Int) = mfield (a + 2 * ((j : Int) - (n : Int))) := by
  intro d
  induction d with
  | zero =>
    intro n k y a hd hy ha hb hk
    obtain ⟨k, rfl⟩ : ∃ m, k = m + 1 := ⟨k - 1, by omega⟩
    have c1 : ¬ (n : Int) < (y.length : Int) := by omega
    simp only [laws_markFieldS.l0, if_neg c1]
    refine ⟨y, ?_, rfl, fun _ _ => rfl, fun j h1 h2 => by omega⟩
    simp
  | succ d ih =>
    intro n k y a hd hy ha hb hk
    obtain ⟨k, rfl⟩ : ∃ m, k = m + 1 := ⟨k - 1, by omega⟩
    have c1 : (n : Int) < (y.length : Int) := by omega
    have c2 : 0 ≤ (n : Int) := by omega
    have e1 : wrap64 (a + 1) = a + 1 := w64id (by omega) (by omega)
    have e2 : wrap64 (a + 1 + 1) = a + 2 := by rw [w64id (by omega) (by omega)]; omega
    simp only [laws_markFieldS.l0, if_pos c1, if_pos c2, intNat, Option.bind_some, e1, e2, w64s (n := n) (by omega), markText_at (a + 1) (by omega) k (by omega)]
    have hset : (y.set n ⟨a, (rd_T58 y (n : Int)).f1⟩).set n ⟨(rd_T58 (y.set n ⟨a, (rd_T58 y (n : Int)).f1⟩) (n : Int)).f0, mtext (a + 1)⟩ = y.set n (mfield a) := by
      rw [rdF_set_same _ _ _ (by omega), List.set_set]
      rfl
    rw [hset]
    obtain ⟨y', h1, h2, h3, h4⟩ := ih (n + 1) k (y.set n (mfield a)) (a + 2) (by simpa using (by omega : n + 1 + d = y.length)) (by simpa using hy) (by omega) (by omega) (by omega)
    refine ⟨y', ?_, by simpa using h2, fun j hj => ?_, fun j hj1 hj2 => ?_⟩
    · rw [h1, show a + 2 + 2 * (d : Int) = a + 2 * ((d + 1 : Nat) : Int) from by omega]
    · rw [h3 j (by omega), rdF_set_other _ _ _ _ (by omega)]
    · by_cases e : j = n
      · rw [e, h3 n (by omega), rdF_set_same _ _ _ (by omega)]
        have : a + 2 * ((n : Int) - (n : Int)) = a := by omega
        rw [this]
      · rw [h4 j (by omega) (by simpa using hj2)]
        have : a + 2 + 2 * ((j : Int) - ((n + 1 : Nat) : Int)) = a + 2 * ((j : Int) - (n : Int)) := by omega
        rw [this]

theorem heldFieldS_l : ∀ (d n k : Nat) (y : List IF) (a : Int), n + d = y.length → y.length ≤ 10000000 → 0 ≤ a → a + 2 * d ≤ 900000000 → d + 30 ≤ k → (∀ j : Nat, n ≤ j → j < y.length → rd_T58 y (j : Int) = mfield (a + 2 * ((j : Int) - (n : Int)))) →
    laws_heldFieldS.l0 k y a (n : Int) = some (a + 2 * d) := by
  intro d
  induction d with
  | zero =>
    intro n k y a hd hy ha hb hk hv
    obtain ⟨k, rfl⟩ : ∃ m, k = m + 1 := ⟨k - 1, by omega⟩
    have c1 : ¬ (n : Int) < (y.length : Int) := by omega
    simp only [laws_heldFieldS.l0, if_neg c1]
    simp
  | succ d ih =>
    intro n k y a hd hy ha hb hk hv
    obtain ⟨k, rfl⟩ : ∃ m, k = m + 1 := ⟨k - 1, by omega⟩
    have c1 : (n : Int) < (y.length : Int) := by omega
    have c2 : 0 ≤ (n : Int) := by omega
    have e1 : wrap64 (a + 1) = a + 1 := w64id (by omega) (by omega)
    have e2 : wrap64 (a + 1 + 1) = a + 2 := by rw [w64id (by omega) (by omega)]; omega
    have c3 : rd_T58 y (n : Int) = mfield a := by
      rw [hv n (by omega) (by omega)]
      have : a + 2 * ((n : Int) - (n : Int)) = a := by omega
      rw [this]
    simp only [laws_heldFieldS.l0, if_pos c1, if_pos c2, c3, mfield, if_true, e1, e2, w64s (n := n) (by omega), markText_at (a + 1) (by omega) k (by omega), Option.bind_some]
    rw [ih (n + 1) k y (a + 2) (by omega) hy (by omega) (by omega) (by omega) (fun j h1 h2 => ?_)]
    · rw [show a + 2 + 2 * (d : Int) = a + 2 * ((d + 1 : Nat) : Int) from by omega]
    · rw [hv j (by omega) h2]
      have : a + 2 + 2 * ((j : Int) - ((n + 1 : Nat) : Int)) = a + 2 * ((j : Int) - (n : Int)) := by omega
      rw [this]

/-- A message that is marked holds its marks. -/
theorem markMsg_held (m : ByteArray) (y : List IF) (hy : y.length ≤ 10000000) (a : Int) (ha : 0 ≤ a) (hb : a ≤ 1000000) :
    ∃ y', y'.length = y.length ∧ ∀ k, y.length + 30 ≤ k → laws_markMsg.f k m y a = some (a + 2 * y.length, y') ∧ laws_heldMsg.f k m y' a = some (a + 2 * y.length) := by
  obtain ⟨y', h1, h2, _, h4⟩ := markFieldS_l y.length 0 (y.length + 30) y a (by omega) (by omega) ha (by omega) (by omega)
  have hm : ∀ k, y.length + 30 ≤ k → laws_markFieldS.f k y a = some (a + 2 * y.length, y') := fun k hk => later (g := fun k => laws_markFieldS.f k y a) (fun k => laws_markFieldS.mono y a k) h1 k hk
  refine ⟨y', h2, fun k hk => ⟨?_, ?_⟩⟩
  · unfold laws_markMsg.f
    rw [hm k hk]; rfl
  · have h := heldFieldS_l y'.length 0 k y' a (by omega) (by omega) ha (by omega) (by omega) (fun j hj1 hj2 => h4 j hj1 (by omega))
    have hf : laws_heldFieldS.f k y' a = some (a + 2 * y.length) := by rw [h2] at h; exact h
    unfold laws_heldMsg.f
    rw [hf, Option.bind_some, if_neg (by omega)]
end Go.Proofs.Ytdcbpnhbbglbhaa.Q
end
section
/- Lemmas on what the printed functions compute (without); no condition. -/
namespace Go.Proofs.Ytdcbpnhbbglbhaa.Q
open Go.RowKit Go.Proofs.YtdcbpnhbbglbhaaW.PrintWords Go.Proofs.YtdcbpnhbbglbhaaW.PrintLast Go.Proofs.YtdcbpnhbbglbhaaW.PrintMore
set_option linter.unusedVariables false
set_option linter.unusedSimpArgs false

def without (l : List IF) (x : Int) : List IF := l.filter fun f => !decide (f.f0 = x)

theorem without_length (l : List IF) (x : Int) : (without l x).length ≤ l.length := List.length_filter_le _ _

theorem impl_WithoutField_l (x : Int) (m : ByteArray) (l : List IF) (hl : l.length ≤ 10000000) : ∀ (d n k : Nat) (y : List IF), n + d = l.length → y.length ≤ n → d < k →
    impl_WithoutField.l0 k x l (l.length : Int) (n : Int) m y = some (m, y ++ without (l.drop n) x) := by
  intro d
  induction d with
  | zero =>
    intro n k y hd hy hk
    obtain ⟨k, rfl⟩ : ∃ m, k = m + 1 := ⟨k - 1, by omega⟩
    have c1 : ¬ (n : Int) < (l.length : Int) := by omega
    simp only [impl_WithoutField.l0, if_neg c1]
    rw [List.drop_of_length_le (by omega)]
    simp [without]
  | succ d ih =>
    intro n k y hd hy hk
    obtain ⟨k, rfl⟩ : ∃ m, k = m + 1 := ⟨k - 1, by omega⟩
    have c1 : (n : Int) < (l.length : Int) := by omega
    have c2 : 0 ≤ (n : Int) := by omega
    have c3 : y.length < 5864062014805 := by omega
    rw [dropF l n (by omega)]
    simp only [impl_WithoutField.l0, if_pos c1, if_pos c2, if_pos c3, w64s (n := n) (by omega)]
    generalize rd_T58 l (n : Int) = f
    by_cases h : f.f0 = x
    · rw [if_pos h, ih (n + 1) k y (by omega) (by omega) (by omega)]
      simp [without, h]
    · rw [if_neg h, ih (n + 1) k _ (by omega) (by simp; omega) (by omega)]
      simp [without, h]

theorem impl_WithoutField_at (m : ByteArray) (l : List IF) (x : Int) (hl : l.length ≤ 10000000) (k : Nat) (hk : l.length < k) : impl_WithoutField.f k m l x = some (m, without l x) := by
  unfold impl_WithoutField.f
  have h := impl_WithoutField_l x m l hl l.length 0 k [] (by omega) (by simp) hk
  simpa using h
end Go.Proofs.Ytdcbpnhbbglbhaa.Q
end
section
/- Lemmas on what the printed functions compute (kinds); no condition. -/
namespace Go.Proofs.Ytdcbpnhbbglbhaa.Q
open Go.RowKit Go.Proofs.YtdcbpnhbbglbhaaW.PrintWords Go.Proofs.YtdcbpnhbbglbhaaW.PrintLast Go.Proofs.YtdcbpnhbbglbhaaW.PrintMore
set_option linter.unusedVariables false
set_option linter.unusedSimpArgs false

def kindOf (x : Int) : Int := if x = 2 then 3 else if x = 3 ∨ x = 4 ∨ x = 7 ∨ x = 11 ∨ x = 14 ∨ x = 49 then 1 else if x = 37 ∨ x = 38 ∨ x = 39 ∨ x = 41 ∨ x = 95 then 2 else if x = 102 ∨ x = 103 then 4 else if x = 48 ∨ x = 54 then 5 else 0
def sizeOf_ (x : Int) : Int := if x = 2 then 19 else if x = 3 ∨ x = 11 ∨ x = 38 then 6 else if x = 4 ∨ x = 37 ∨ x = 95 then 12 else if x = 7 then 10 else if x = 14 then 4 else if x = 39 then 2 else if x = 41 then 8 else if x = 49 then 3 else if x = 102 ∨ x = 103 then 20 else if x = 48 ∨ x = 54 then 60 else 0

/-- Every number is one of the sixteen, or none of them. -/
theorem nos_cases (P : Int → Prop) (h2 : P 2) (h3 : P 3) (h4 : P 4) (h7 : P 7) (h11 : P 11) (h14 : P 14) (h37 : P 37) (h38 : P 38) (h39 : P 39) (h41 : P 41) (h48 : P 48) (h49 : P 49) (h54 : P 54) (h95 : P 95) (h102 : P 102) (h103 : P 103)
    (hno : ∀ x : Int, ¬ x = 2 → ¬ x = 3 → ¬ x = 4 → ¬ x = 7 → ¬ x = 11 → ¬ x = 14 → ¬ x = 37 → ¬ x = 38 → ¬ x = 39 → ¬ x = 41 → ¬ x = 48 → ¬ x = 49 → ¬ x = 54 → ¬ x = 95 → ¬ x = 102 → ¬ x = 103 → P x) (x : Int) : P x := by
  by_cases e2 : x = 2
  · subst e2; exact h2
  by_cases e3 : x = 3
  · subst e3; exact h3
  by_cases e4 : x = 4
  · subst e4; exact h4
  by_cases e7 : x = 7
  · subst e7; exact h7
  by_cases e11 : x = 11
  · subst e11; exact h11
  by_cases e14 : x = 14
  · subst e14; exact h14
  by_cases e37 : x = 37
  · subst e37; exact h37
  by_cases e38 : x = 38
  · subst e38; exact h38
  by_cases e39 : x = 39
  · subst e39; exact h39
  by_cases e41 : x = 41
  · subst e41; exact h41
  by_cases e48 : x = 48
  · subst e48; exact h48
  by_cases e49 : x = 49
  · subst e49; exact h49
  by_cases e54 : x = 54
  · subst e54; exact h54
  by_cases e95 : x = 95
  · subst e95; exact h95
  by_cases e102 : x = 102
  · subst e102; exact h102
  by_cases e103 : x = 103
  · subst e103; exact h103
  exact hno x e2 e3 e4 e7 e11 e14 e37 e38 e39 e41 e48 e49 e54 e95 e102 e103
end Go.Proofs.Ytdcbpnhbbglbhaa.Q
end
section
/- Lemmas on what the printed functions compute (rowOf); no condition. -/
namespace Go.Proofs.Ytdcbpnhbbglbhaa.Q
open Go.RowKit Go.Proofs.YtdcbpnhbbglbhaaW.PrintWords Go.Proofs.YtdcbpnhbbglbhaaW.PrintLast Go.Proofs.YtdcbpnhbbglbhaaW.PrintMore
set_option linter.unusedVariables false
set_option linter.unusedSimpArgs false

theorem rowOf_none (x : Int) (l : List S71) (hl : l.length ≤ 1000) (h : ∀ r ∈ l, ¬ r.f0 = x) : ∀ (d n k : Nat), n + d = l.length → d < k →
    impl_rowOf.l0 k x l (l.length : Int) (n : Int) = some (0, 0, 0) := by
  intro d
  induction d with
  | zero =>
    intro n k hd hk
    obtain ⟨k, rfl⟩ : ∃ m, k = m + 1 := ⟨k - 1, by omega⟩
    have c1 : ¬ (n : Int) < (l.length : Int) := by omega
    simp only [impl_rowOf.l0, if_neg c1]
  | succ d ih =>
    intro n k hd hk
    obtain ⟨k, rfl⟩ : ∃ m, k = m + 1 := ⟨k - 1, by omega⟩
    have c1 : (n : Int) < (l.length : Int) := by omega
    have c2 : 0 ≤ (n : Int) := by omega
    have hn : n < l.length := by omega
    have c3 : ¬ (rd_T71 l (n : Int)).f0 = x := by
      have e : rd_T71 l (n : Int) = l[n] := by unfold rd_T71; simp [List.getD, hn]
      rw [e]
      exact h _ (List.getElem_mem hn)
    simp only [impl_rowOf.l0, if_pos c1, if_pos c2, if_neg c3, w64 c2 (by omega)]
    exact ih (n + 1) k (by omega) (by omega)

theorem rowOf_at (x : Int) (k : Nat) (hk : 20 ≤ k) : ∃ y, impl_rowOf.f k x = some (y, kindOf x, sizeOf_ x) := by
  have h : ∃ y, impl_rowOf.f 20 x = some (y, kindOf x, sizeOf_ x) := by
    refine nos_cases (fun x => ∃ y, impl_rowOf.f 20 x = some (y, kindOf x, sizeOf_ x)) ⟨2, by decide +kernel⟩ ⟨3, by decide +kernel⟩ ⟨4, by decide +kernel⟩ ⟨7, by decide +kernel⟩ ⟨11, by decide +kernel⟩ ⟨14, by decide +kernel⟩ ⟨37, by decide +kernel⟩ ⟨38, by decide +kernel⟩ ⟨39, by decide +kernel⟩ ⟨41, by decide +kernel⟩ ⟨48, by decide +kernel⟩ ⟨49, by decide +kernel⟩ ⟨54, by decide +kernel⟩ ⟨95, by decide +kernel⟩ ⟨102, by decide +kernel⟩ ⟨103, by decide +kernel⟩ ?_ x
    intro x e2 e3 e4 e7 e11 e14 e37 e38 e39 e41 e48 e49 e54 e95 e102 e103
    refine ⟨0, ?_⟩
    have hk : kindOf x = 0 := by unfold kindOf; simp [*]
    have hs : sizeOf_ x = 0 := by unfold sizeOf_; simp [*]
    rw [hk, hs]
    obtain ⟨l, hl, hn⟩ : ∃ l, impl_fieldRows.f = some l ∧ l.length = 16 ∧ ∀ r ∈ l, ¬ r.f0 = x := by
      refine ⟨_, rfl, rfl, ?_⟩
      intro r hr
      simp only [List.mem_cons, List.not_mem_nil, or_false] at hr
      rcases hr with rfl | rfl | rfl | rfl | rfl | rfl | rfl | rfl | rfl | rfl | rfl | rfl | rfl | rfl | rfl | rfl <;> (intro h; first | exact e2 h.symm | exact e3 h.symm | exact e4 h.symm | exact e7 h.symm | exact e11 h.symm | exact e14 h.symm | exact e37 h.symm | exact e38 h.symm | exact e39 h.symm | exact e41 h.symm | exact e48 h.symm | exact e49 h.symm | exact e54 h.symm | exact e95 h.symm | exact e102 h.symm | exact e103 h.symm)
    unfold impl_rowOf.f
    rw [hl]
    exact rowOf_none x l (by omega) hn.2 16 0 20 (by omega) (by omega)
  obtain ⟨y, h⟩ := h
  exact ⟨y, later (g := fun k => impl_rowOf.f k x) (fun k => impl_rowOf.mono x k) h k hk⟩
end Go.Proofs.Ytdcbpnhbbglbhaa.Q
end
section
/- Lemmas on what the printed functions compute (specKind); no condition. -/
namespace Go.Proofs.Ytdcbpnhbbglbhaa.Q
open Go.RowKit Go.Proofs.YtdcbpnhbbglbhaaW.PrintWords Go.Proofs.YtdcbpnhbbglbhaaW.PrintLast Go.Proofs.YtdcbpnhbbglbhaaW.PrintMore
set_option linter.unusedVariables false
set_option linter.unusedSimpArgs false

theorem spec_FieldKind_at (x : Int) (k : Nat) (hk : 20 ≤ k) : spec_FieldKind.f k x = some (kindOf x) := by
  refine later (g := fun k => spec_FieldKind.f k x) (fun k => spec_FieldKind.mono x k) ?_ k hk
  show spec_FieldKind.f 20 x = some (kindOf x)
  refine nos_cases (fun x => spec_FieldKind.f 20 x = some (kindOf x)) (by decide +kernel) (by decide +kernel) (by decide +kernel) (by decide +kernel) (by decide +kernel) (by decide +kernel) (by decide +kernel) (by decide +kernel) (by decide +kernel) (by decide +kernel) (by decide +kernel) (by decide +kernel) (by decide +kernel) (by decide +kernel) (by decide +kernel) (by decide +kernel) ?_ x
  intro x e2 e3 e4 e7 e11 e14 e37 e38 e39 e41 e48 e49 e54 e95 e102 e103
  unfold kindOf
  simp [spec_FieldKind.f, spec_FieldKind.j0, spec_FieldKind.j1, spec_FieldKind.j2, *]
end Go.Proofs.Ytdcbpnhbbglbhaa.Q
end
section
/- Lemmas on what the printed functions compute (specSize); no condition. -/
namespace Go.Proofs.Ytdcbpnhbbglbhaa.Q
open Go.RowKit Go.Proofs.YtdcbpnhbbglbhaaW.PrintWords Go.Proofs.YtdcbpnhbbglbhaaW.PrintLast Go.Proofs.YtdcbpnhbbglbhaaW.PrintMore
set_option linter.unusedVariables false
set_option linter.unusedSimpArgs false

theorem spec_FieldSize_at (x : Int) (k : Nat) (hk : 20 ≤ k) : spec_FieldSize.f k x = some (sizeOf_ x) := by
  refine later (g := fun k => spec_FieldSize.f k x) (fun k => spec_FieldSize.mono x k) ?_ k hk
  show spec_FieldSize.f 20 x = some (sizeOf_ x)
  refine nos_cases (fun x => spec_FieldSize.f 20 x = some (sizeOf_ x)) (by decide +kernel) (by decide +kernel) (by decide +kernel) (by decide +kernel) (by decide +kernel) (by decide +kernel) (by decide +kernel) (by decide +kernel) (by decide +kernel) (by decide +kernel) (by decide +kernel) (by decide +kernel) (by decide +kernel) (by decide +kernel) (by decide +kernel) (by decide +kernel) ?_ x
  intro x e2 e3 e4 e7 e11 e14 e37 e38 e39 e41 e48 e49 e54 e95 e102 e103
  unfold sizeOf_
  simp [spec_FieldSize.f, spec_FieldSize.j0, spec_FieldSize.j1, spec_FieldSize.j2, *]
end Go.Proofs.Ytdcbpnhbbglbhaa.Q
end
section
/- Lemmas on what the printed functions compute (digits); no condition. -/
namespace Go.Proofs.Ytdcbpnhbbglbhaa.Q
open Go.RowKit Go.Proofs.YtdcbpnhbbglbhaaW.PrintWords Go.Proofs.YtdcbpnhbbglbhaaW.PrintLast Go.Proofs.YtdcbpnhbbglbhaaW.PrintMore
set_option linter.unusedVariables false
set_option linter.unusedSimpArgs false

def isDig (c : Int) : Bool := decide (48 ≤ c) && decide (c ≤ 57)
def digs (l : List Int) : Bool := l.all isDig && !l.isEmpty

theorem spec_Digits_l (s : ByteArray) (hs : s.size ≤ 140737488351232) : ∀ (d n k : Nat), n + d = s.size → d < k →
    spec_Digits.l0 k s (n : Int) = some (((bytesOf s).drop n).all isDig && decide (0 < s.size)) := by
  intro d
  induction d with
  | zero =>
    intro n k hd hk
    obtain ⟨k, rfl⟩ : ∃ m, k = m + 1 := ⟨k - 1, by omega⟩
    simp only [spec_Digits.l0]
    rw [if_neg (by omega), List.drop_of_length_le (by rw [bytesOf_length]; omega)]
    simp
  | succ d ih =>
    intro n k hd hk
    obtain ⟨k, rfl⟩ : ∃ m, k = m + 1 := ⟨k - 1, by omega⟩
    simp only [spec_Digits.l0]
    rw [if_pos (by omega), if_pos (by omega), drop_bt s n (by omega), List.all_cons]
    by_cases h1 : bt s (n : Int) < 48
    · rw [if_pos h1]
      have e : isDig (bt s (n : Int)) = false := by unfold isDig; simp; omega
      rw [e]; simp
    · rw [if_neg h1]
      by_cases h2 : bt s (n : Int) > 57
      · rw [if_pos h2]
        have e : isDig (bt s (n : Int)) = false := by unfold isDig; simp; omega
        rw [e]; simp
      · rw [if_neg h2, w64 (by omega) (by omega)]
        have e : isDig (bt s (n : Int)) = true := by unfold isDig; simp; omega
        rw [e, Bool.true_and]
        exact ih (n + 1) k (by omega) (by omega)

theorem digs_eq (s : ByteArray) : ((bytesOf s).all isDig && decide (0 < s.size)) = digs (bytesOf s) := by
  unfold digs
  congr 1
  rw [← bytesOf_length s]
  cases bytesOf s <;> simp

theorem spec_Digits_at (s : ByteArray) (hs : s.size ≤ 140737488351232) (k : Nat) (hk : s.size < k) : spec_Digits.f k s = some (digs (bytesOf s)) := by
  unfold spec_Digits.f
  have h := spec_Digits_l s hs s.size 0 k (by omega) hk
  rw [← digs_eq]
  simpa using h

theorem toList_ne (s : ByteArray) : (s.toList != ([] : List UInt8)) = decide (0 < s.size) := by
  rw [ByteArray.toList_eq, ← data_length s]
  cases s.data.toList <;> simp

theorem impl_Digits_l (s : ByteArray) (hs : s.size ≤ 140737488351232) : ∀ (d n k : Nat), n + d = s.size → d < k →
    impl_Digits.l0 k s (s.size : Int) (n : Int) = some (((bytesOf s).drop n).all isDig && decide (0 < s.size)) := by
  intro d
  induction d with
  | zero =>
    intro n k hd hk
    obtain ⟨k, rfl⟩ : ∃ m, k = m + 1 := ⟨k - 1, by omega⟩
    simp only [impl_Digits.l0]
    rw [if_neg (by omega), List.drop_of_length_le (by rw [bytesOf_length]; omega), toList_ne]
    simp
  | succ d ih =>
    intro n k hd hk
    obtain ⟨k, rfl⟩ : ∃ m, k = m + 1 := ⟨k - 1, by omega⟩
    simp only [impl_Digits.l0]
    rw [if_pos (by omega), if_pos (by omega), if_pos (by omega), drop_bt s n (by omega), List.all_cons]
    by_cases h1 : bt s (n : Int) < 48
    · rw [if_pos h1]
      have e : isDig (bt s (n : Int)) = false := by unfold isDig; simp; omega
      rw [e]; simp
    · rw [if_neg h1]
      by_cases h2 : bt s (n : Int) > 57
      · rw [if_pos h2]
        have e : isDig (bt s (n : Int)) = false := by unfold isDig; simp; omega
        rw [e]; simp
      · rw [if_neg h2, w64 (by omega) (by omega)]
        have e : isDig (bt s (n : Int)) = true := by unfold isDig; simp; omega
        rw [e, Bool.true_and]
        exact ih (n + 1) k (by omega) (by omega)

theorem impl_Digits_at (s : ByteArray) (hs : s.size ≤ 140737488351232) (k : Nat) (hk : s.size < k) : impl_Digits.f k s = some (digs (bytesOf s)) := by
  unfold impl_Digits.f
  have h := impl_Digits_l s hs s.size 0 k (by omega) hk
  rw [← digs_eq]
  simpa using h
end Go.Proofs.Ytdcbpnhbbglbhaa.Q
end
section
/- Lemmas on what the printed functions compute (printable); no condition. -/
namespace Go.Proofs.Ytdcbpnhbbglbhaa.Q
open Go.RowKit Go.Proofs.YtdcbpnhbbglbhaaW.PrintWords Go.Proofs.YtdcbpnhbbglbhaaW.PrintLast Go.Proofs.YtdcbpnhbbglbhaaW.PrintMore
set_option linter.unusedVariables false
set_option linter.unusedSimpArgs false

def isPri (c : Int) : Bool := decide (32 ≤ c) && decide (c ≤ 126)

theorem spec_Printable_l (s : ByteArray) (hs : s.size ≤ 140737488351232) : ∀ (d n k : Nat), n + d = s.size → d < k →
    spec_Printable.l0 k s (n : Int) = some (((bytesOf s).drop n).all isPri) := by
  intro d
  induction d with
  | zero =>
    intro n k hd hk
    obtain ⟨k, rfl⟩ : ∃ m, k = m + 1 := ⟨k - 1, by omega⟩
    simp only [spec_Printable.l0]
    rw [if_neg (by omega), List.drop_of_length_le (by rw [bytesOf_length]; omega)]
    simp
  | succ d ih =>
    intro n k hd hk
    obtain ⟨k, rfl⟩ : ∃ m, k = m + 1 := ⟨k - 1, by omega⟩
    simp only [spec_Printable.l0]
    rw [if_pos (by omega), if_pos (by omega), drop_bt s n (by omega), List.all_cons]
    by_cases h1 : bt s (n : Int) < 32
    · rw [if_pos h1]
      have e : isPri (bt s (n : Int)) = false := by unfold isPri; simp; omega
      rw [e]; simp
    · rw [if_neg h1]
      by_cases h2 : bt s (n : Int) > 126
      · rw [if_pos h2]
        have e : isPri (bt s (n : Int)) = false := by unfold isPri; simp; omega
        rw [e]; simp
      · rw [if_neg h2, w64 (by omega) (by omega)]
        have e : isPri (bt s (n : Int)) = true := by unfold isPri; simp; omega
        rw [e, Bool.true_and]
        exact ih (n + 1) k (by omega) (by omega)

theorem spec_Printable_at (s : ByteArray) (hs : s.size ≤ 140737488351232) (k : Nat) (hk : s.size < k) : spec_Printable.f k s = some ((bytesOf s).all isPri) := by
  unfold spec_Printable.f
  have h := spec_Printable_l s hs s.size 0 k (by omega) hk
  simpa using h

theorem impl_Printable_l (s : ByteArray) (hs : s.size ≤ 140737488351232) : ∀ (d n k : Nat), n + d = s.size → d < k →
    impl_Printable.l0 k s (s.size : Int) (n : Int) = some (((bytesOf s).drop n).all isPri) := by
  intro d
  induction d with
  | zero =>
    intro n k hd hk
    obtain ⟨k, rfl⟩ : ∃ m, k = m + 1 := ⟨k - 1, by omega⟩
    simp only [impl_Printable.l0]
    rw [if_neg (by omega), List.drop_of_length_le (by rw [bytesOf_length]; omega)]
    simp
  | succ d ih =>
    intro n k hd hk
    obtain ⟨k, rfl⟩ : ∃ m, k = m + 1 := ⟨k - 1, by omega⟩
    simp only [impl_Printable.l0]
    rw [if_pos (by omega), if_pos (by omega), if_pos (by omega), drop_bt s n (by omega), List.all_cons]
    by_cases h1 : bt s (n : Int) < 32
    · rw [if_pos h1]
      have e : isPri (bt s (n : Int)) = false := by unfold isPri; simp; omega
      rw [e]; simp
    · rw [if_neg h1]
      by_cases h2 : bt s (n : Int) > 126
      · rw [if_pos h2]
        have e : isPri (bt s (n : Int)) = false := by unfold isPri; simp; omega
        rw [e]; simp
      · rw [if_neg h2, w64 (by omega) (by omega)]
        have e : isPri (bt s (n : Int)) = true := by unfold isPri; simp; omega
        rw [e, Bool.true_and]
        exact ih (n + 1) k (by omega) (by omega)

theorem impl_Printable_at (s : ByteArray) (hs : s.size ≤ 140737488351232) (k : Nat) (hk : s.size < k) : impl_Printable.f k s = some ((bytesOf s).all isPri) := by
  unfold impl_Printable.f
  have h := impl_Printable_l s hs s.size 0 k (by omega) hk
  simpa using h
end Go.Proofs.Ytdcbpnhbbglbhaa.Q
end
section
/- Lemmas on what the printed functions compute (bcdPure); no condition. -/
namespace Go.Proofs.Ytdcbpnhbbglbhaa.Q
open Go.RowKit Go.Proofs.YtdcbpnhbbglbhaaW.PrintWords Go.Proofs.YtdcbpnhbbglbhaaW.PrintLast Go.Proofs.YtdcbpnhbbglbhaaW.PrintMore
set_option linter.unusedVariables false
set_option linter.unusedSimpArgs false

/-- Two and two digits in one byte. -/
def bcd : List Int → List Int
  | a :: b :: t => ((a - 48) * 16 + (b - 48)) :: bcd t
  | _ => []
def evened (l : List Int) : List Int := if l.length % 2 = 1 then 48 :: l else l
def putBcd (l : List Int) : List Int × Bool := if digs l && decide (l.length ≤ 38) then (bcd (evened l), true) else ([], false)

theorem bcd_length : ∀ (n : Nat) (l : List Int), l.length = 2 * n → (bcd l).length = n
  | 0, l, h => by
    have : l = [] := List.length_eq_zero_iff.1 (by omega)
    rw [this]; rfl
  | n + 1, a :: b :: t, h => by
    simp only [bcd, List.length_cons]
    rw [bcd_length n t (by simp at h; omega)]
  | n + 1, [a], h => by simp at h; omega
  | n + 1, [], h => by simp at h

theorem evened_length (l : List Int) : (evened l).length = 2 * ((l.length + 1) / 2) := by
  unfold evened
  split
  · simp; omega
  · omega

theorem evened_all (l : List Int) (h : l.all isDig = true) : (evened l).all isDig = true := by
  unfold evened
  split
  · simp only [List.all_cons, h, Bool.and_true]; decide
  · exact h

theorem dig_range' {c : Int} (h : isDig c = true) : 48 ≤ c ∧ c ≤ 57 := by
  unfold isDig at h
  simpa using h

theorem all_rd' (l : List Int) (p : Int → Bool) (h : l.all p = true) (n : Nat) (hn : n < l.length) : p (rd l (n : Int)) = true := by
  rw [List.all_eq_true] at h
  exact h _ (rd_mem l n hn)

theorem drop_two (l : List Int) (n : Nat) (h : n + 1 < l.length) : l.drop n = rd l (n : Int) :: rd l ((n + 1 : Nat) : Int) :: l.drop (n + 2) := by
  rw [drop_rd l n (by omega), drop_rd l (n + 1) (by omega)]

theorem digs_and (l : List Int) (h : digs l = true) : l.all isDig = true ∧ 0 < l.length := by
  unfold digs at h
  cases l with
  | nil => simp at h
  | cons a t => simpa using h
end Go.Proofs.Ytdcbpnhbbglbhaa.Q
end
section
/- Lemmas on what the printed functions compute (fieldOk); no condition. -/
namespace Go.Proofs.Ytdcbpnhbbglbhaa.Q
open Go.RowKit Go.Proofs.YtdcbpnhbbglbhaaW.PrintWords Go.Proofs.YtdcbpnhbbglbhaaW.PrintLast Go.Proofs.YtdcbpnhbbglbhaaW.PrintMore
set_option linter.unusedVariables false
set_option linter.unusedSimpArgs false

/-- Whether a text is a content of a field. -/
def fieldOk (x : Int) (l : List Int) : Bool :=
  if kindOf x = 1 then digs l && ((l.length : Int) == sizeOf_ x)
  else if kindOf x = 2 then l.all isPri && ((l.length : Int) == sizeOf_ x)
  else if kindOf x = 3 then digs l && decide ((l.length : Int) ≤ sizeOf_ x)
  else if kindOf x = 4 ∨ kindOf x = 5 then l.all isPri && decide (1 ≤ (l.length : Int) ∧ (l.length : Int) ≤ sizeOf_ x)
  else false

theorem kind_range (x : Int) : 0 ≤ kindOf x ∧ kindOf x ≤ 5 := by
  unfold kindOf
  repeat' split
  all_goals omega

theorem spec_FieldOk_at (x : Int) (s : ByteArray) (hs : s.size ≤ 140737488351232) (k : Nat) (hk : s.size + 22 < k) : spec_FieldOk.f k x s = some (fieldOk x (bytesOf s)) := by
  unfold spec_FieldOk.f fieldOk
  rw [spec_FieldSize_at x k (by omega), spec_FieldKind_at x k (by omega)]
  simp only [Option.bind_some]
  obtain ⟨r0, r1⟩ := kind_range x
  rw [bytesOf_length]
  generalize kindOf x = t at r0 r1
  by_cases h1 : t = 1
  · rw [if_pos h1, if_pos h1, spec_Digits_at s hs k (by omega), Option.bind_some]
    cases digs (bytesOf s) <;> simp
  by_cases h2 : t = 2
  · rw [if_neg h1, if_neg h1, if_pos h2, if_pos h2, spec_Printable_at s hs k (by omega), Option.bind_some]
    cases (bytesOf s).all isPri <;> simp
  by_cases h3 : t = 3
  · rw [if_neg h1, if_neg h1, if_neg h2, if_neg h2, if_pos h3, if_pos h3, spec_Digits_at s hs k (by omega), Option.bind_some]
    cases digs (bytesOf s) <;> simp
  rw [if_neg h1, if_neg h1, if_neg h2, if_neg h2, if_neg h3, if_neg h3]
  obtain ⟨k, rfl⟩ : ∃ m, k = m + 1 := ⟨k - 1, by omega⟩
  have hp := spec_Printable_at s hs k (by omega)
  have hin : spec_l01In.f (s.size : Int) 1 (sizeOf_ x) = some (decide (1 ≤ (s.size : Int) ∧ (s.size : Int) ≤ sizeOf_ x)) := by
    unfold spec_l01In.f
    by_cases h : (s.size : Int) ≥ 1
    · have h' : 1 ≤ (s.size : Int) := h
      rw [if_pos h]; simp only [h', true_and]
    · have h' : ¬ 1 ≤ (s.size : Int) := h
      rw [if_neg h]; simp only [h', false_and, decide_false]
  by_cases h4 : t = 4 ∨ t = 5
  · rw [if_pos h4]
    have e : (if t = 4 then spec_FieldOk.j0 (k + 1) s (sizeOf_ x) (t == 4) else spec_FieldOk.j0 (k + 1) s (sizeOf_ x) (t == 5)) = spec_FieldOk.j0 (k + 1) s (sizeOf_ x) true := by
      rcases h4 with h | h
      · rw [if_pos h, h]; rfl
      · rw [if_neg (by omega), h]; rfl
    rw [e, spec_FieldOk.j0, if_pos rfl, hp, Option.bind_some, hin]
    cases (bytesOf s).all isPri <;> simp
  · rw [if_neg h4]
    have e : (if t = 4 then spec_FieldOk.j0 (k + 1) s (sizeOf_ x) (t == 4) else spec_FieldOk.j0 (k + 1) s (sizeOf_ x) (t == 5)) = spec_FieldOk.j0 (k + 1) s (sizeOf_ x) false := by
      have h5 : ¬ t = 5 := fun h => h4 (Or.inr h)
      rw [if_neg (fun h => h4 (Or.inl h)), show (t == 5) = false from by simpa using h5]
    rw [e, spec_FieldOk.j0, if_neg (by simp)]

theorem impl_FieldOk_at (x : Int) (s : ByteArray) (hs : s.size ≤ 140737488351232) (k : Nat) (hk : s.size + 22 < k) : impl_FieldOk.f k x s = some (fieldOk x (bytesOf s)) := by
  unfold impl_FieldOk.f fieldOk
  obtain ⟨y, hy⟩ := rowOf_at x k (by omega)
  rw [hy, Option.bind_some]
  simp only
  obtain ⟨r0, r1⟩ := kind_range x
  have hl := bytesOf_length s
  rw [hl]
  generalize kindOf x = t at r0 r1
  have hin : impl_within.f (s.size : Int) 1 (sizeOf_ x) = some (decide (1 ≤ (s.size : Int) ∧ (s.size : Int) ≤ sizeOf_ x)) := by
    unfold impl_within.f
    by_cases h : 1 ≤ (s.size : Int)
    · rw [if_pos h]; simp only [h, true_and]
    · rw [if_neg h]; simp only [h, false_and, decide_false]
  by_cases h1 : t = 1
  · rw [if_pos h1, if_pos h1, impl_Digits_at s hs k (by omega), Option.bind_some]
    cases digs (bytesOf s) <;> simp
  by_cases h2 : t = 2
  · rw [if_neg h1, if_neg h1, if_pos h2, if_pos h2, impl_Printable_at s hs k (by omega), Option.bind_some]
    cases (bytesOf s).all isPri <;> simp
  by_cases h3 : t = 3
  · rw [if_neg h1, if_neg h1, if_neg h2, if_neg h2, if_pos h3, if_pos h3, impl_Digits_at s hs k (by omega), Option.bind_some, hin]
    by_cases hg : digs (bytesOf s) = true
    · have := (digs_and _ hg).2
      rw [hl] at this
      have h' : 1 ≤ (s.size : Int) := by omega
      rw [if_pos hg, hg]
      simp only [h', true_and, Option.bind_some, Bool.true_and]
    · rw [if_neg hg]
      simp [hg]
  rw [if_neg h1, if_neg h1, if_neg h2, if_neg h2, if_neg h3, if_neg h3]
  obtain ⟨k, rfl⟩ : ∃ m, k = m + 1 := ⟨k - 1, by omega⟩
  have hp := impl_Printable_at s hs k (by omega)
  by_cases h4 : t = 4 ∨ t = 5
  · rw [if_pos h4]
    have e : (if t = 4 then impl_FieldOk.j0 (k + 1) s (t == 4) y t (sizeOf_ x) else impl_FieldOk.j0 (k + 1) s (t == 5) y t (sizeOf_ x)) = impl_FieldOk.j0 (k + 1) s true y t (sizeOf_ x) := by
      rcases h4 with h | h
      · rw [if_pos h, h]; rfl
      · rw [if_neg (by omega), h]; rfl
    rw [e, impl_FieldOk.j0, if_pos rfl, hp, Option.bind_some, hin]
    cases (bytesOf s).all isPri <;> simp
  · rw [if_neg h4]
    have e : (if t = 4 then impl_FieldOk.j0 (k + 1) s (t == 4) y t (sizeOf_ x) else impl_FieldOk.j0 (k + 1) s (t == 5) y t (sizeOf_ x)) = impl_FieldOk.j0 (k + 1) s false y t (sizeOf_ x) := by
      have h5 : ¬ t = 5 := fun h => h4 (Or.inr h)
      rw [if_neg (fun h => h4 (Or.inl h)), show (t == 5) = false from by simpa using h5]
    rw [e, impl_FieldOk.j0, if_neg (by simp)]
end Go.Proofs.Ytdcbpnhbbglbhaa.Q
end
section
/- Lemmas on what the printed functions compute (msgOk); no condition. -/
namespace Go.Proofs.Ytdcbpnhbbglbhaa.Q
open Go.RowKit Go.Proofs.YtdcbpnhbbglbhaaW.PrintWords Go.Proofs.YtdcbpnhbbglbhaaW.PrintLast Go.Proofs.YtdcbpnhbbglbhaaW.PrintMore
set_option linter.unusedVariables false
set_option linter.unusedSimpArgs false

/-- The contents are right and the numbers grow. -/
def okFrom : Option Int → List IF → Bool
  | _, [] => true
  | p, f :: t => fieldOk f.f0 (bytesOf f.f1) && (match p with | none => true | some q => decide (q < f.f0)) && okFrom (some f.f0) t

theorem okFrom_cons (p : Option Int) (f : IF) (t : List IF) : okFrom p (f :: t) = (fieldOk f.f0 (bytesOf f.f1) && (match p with | none => true | some q => decide (q < f.f0)) && okFrom (some f.f0) t) := by
  cases p <;> rfl

def isMti (m : ByteArray) : Bool := digs (bytesOf m) && decide (m.size = 4)
def msgOk (m : ByteArray) (l : List IF) : Bool := isMti m && okFrom none l

def prevOf (l : List IF) (n : Nat) : Option Int := if n = 0 then none else some (rd_T58 l (((n - 1 : Nat)) : Int)).f0

theorem spec_MsgOk_l (m : ByteArray) (l : List IF) (hl : l.length ≤ 10000000) (B : Nat) (hB : B ≤ 10000000) (hw : ∀ f ∈ l, f.f1.size ≤ B) : ∀ (d n k : Nat), n + d = l.length → d + B + 30 < k →
    spec_MsgOk.l0 k l (l.length : Int) (n : Int) m l = some (okFrom (prevOf l n) (l.drop n)) := by
  intro d
  induction d with
  | zero =>
    intro n k hd hk
    obtain ⟨k, rfl⟩ : ∃ m, k = m + 1 := ⟨k - 1, by omega⟩
    have c1 : ¬ (n : Int) < (l.length : Int) := by omega
    simp only [spec_MsgOk.l0, if_neg c1]
    rw [List.drop_of_length_le (by omega)]
    rfl
  | succ d ih =>
    intro n k hd hk
    obtain ⟨k, rfl⟩ : ∃ m, k = m + 1 := ⟨k - 1, by omega⟩
    have c1 : (n : Int) < (l.length : Int) := by omega
    have c2 : 0 ≤ (n : Int) := by omega
    have hs := hw _ (rdF_mem l n (by omega))
    have hp : prevOf l (n + 1) = some (rd_T58 l (n : Int)).f0 := by unfold prevOf; rw [if_neg (by omega)]; rfl
    have ih' := ih (n + 1) k (by omega) (by omega)
    rw [hp] at ih'
    rw [dropF l n (by omega), okFrom_cons]
    simp only [spec_MsgOk.l0, if_pos c1, if_pos c2, w64s (n := n) (by omega)]
    rw [spec_FieldOk_at _ _ (by omega) k (by omega), Option.bind_some]
    by_cases h : fieldOk (rd_T58 l (n : Int)).f0 (bytesOf (rd_T58 l (n : Int)).f1) = true
    · rw [if_pos h, h, Bool.true_and]
      by_cases h0 : n = 0
      · have hpn : prevOf l n = none := by unfold prevOf; rw [if_pos h0]
        rw [if_neg (by omega), hpn, ih', Bool.true_and]
      · have hpn : prevOf l n = some (rd_T58 l ((n - 1 : Nat) : Int)).f0 := by unfold prevOf; rw [if_neg h0]
        have e : wrap64 ((n : Int) - 1) = ((n - 1 : Nat) : Int) := by rw [w64id (by omega) (by omega)]; omega
        rw [if_pos (by omega), e, if_pos (by omega), if_pos (by omega), hpn, ih']
        generalize (rd_T58 l (n : Int)).f0 = u
        generalize (rd_T58 l ((n - 1 : Nat) : Int)).f0 = v
        by_cases g : v ≥ u
        · rw [if_pos g]
          have : decide (v < u) = false := decide_eq_false (by omega)
          simp only [this, Bool.false_and]
        · rw [if_neg g]
          have : decide (v < u) = true := decide_eq_true (by omega)
          simp only [this, Bool.true_and]
    · rw [if_neg h]
      simp [h]

theorem impl_MsgOk_l (m : ByteArray) (hm : m.size ≤ 10000000) (l : List IF) (hl : l.length ≤ 10000000) (B : Nat) (hB : B ≤ 10000000) (hw : ∀ f ∈ l, f.f1.size ≤ B) : ∀ (d n k : Nat), n + d = l.length → d + B + m.size + 30 < k →
    impl_MsgOk.l0 k l (l.length : Int) (n : Int) m l = some (okFrom (prevOf l n) (l.drop n) && isMti m) := by
  intro d
  induction d with
  | zero =>
    intro n k hd hk
    obtain ⟨k, rfl⟩ : ∃ m, k = m + 1 := ⟨k - 1, by omega⟩
    have c1 : ¬ (n : Int) < (l.length : Int) := by omega
    simp only [impl_MsgOk.l0, if_neg c1]
    rw [List.drop_of_length_le (by omega)]
    unfold impl_isWide.f isMti
    rw [impl_Digits_at m (by omega) k (by omega), Option.bind_some]
    have e : ((m.size : Int) == 4) = decide (m.size = 4) := by
      by_cases h : m.size = 4
      · rw [h]; rfl
      · have h' : ¬ (m.size : Int) = 4 := by omega
        rw [decide_eq_false h]
        simpa using h'
    rw [e]
    cases digs (bytesOf m) <;> simp [okFrom]
  | succ d ih =>
    intro n k hd hk
    obtain ⟨k, rfl⟩ : ∃ m, k = m + 1 := ⟨k - 1, by omega⟩
    have c1 : (n : Int) < (l.length : Int) := by omega
    have c2 : 0 ≤ (n : Int) := by omega
    have hs := hw _ (rdF_mem l n (by omega))
    have hp : prevOf l (n + 1) = some (rd_T58 l (n : Int)).f0 := by unfold prevOf; rw [if_neg (by omega)]; rfl
    have ih' := ih (n + 1) k (by omega) (by omega)
    rw [hp] at ih'
    rw [dropF l n (by omega), okFrom_cons]
    simp only [impl_MsgOk.l0, if_pos c1, if_pos c2, w64s (n := n) (by omega)]
    rw [impl_FieldOk_at _ _ (by omega) k (by omega), Option.bind_some]
    by_cases h : fieldOk (rd_T58 l (n : Int)).f0 (bytesOf (rd_T58 l (n : Int)).f1) = true
    · rw [if_pos h, h, Bool.true_and]
      by_cases h0 : n = 0
      · have hpn : prevOf l n = none := by unfold prevOf; rw [if_pos h0]
        rw [if_neg (by omega), hpn, ih', Bool.true_and]
      · have hpn : prevOf l n = some (rd_T58 l ((n - 1 : Nat) : Int)).f0 := by unfold prevOf; rw [if_neg h0]
        have e : wrap64 ((n : Int) - 1) = ((n - 1 : Nat) : Int) := by rw [w64id (by omega) (by omega)]; omega
        rw [if_pos (by omega), e, if_pos (by omega), if_pos (by omega), hpn, ih']
        generalize (rd_T58 l (n : Int)).f0 = u
        generalize (rd_T58 l ((n - 1 : Nat) : Int)).f0 = v
        by_cases g : u ≤ v
        · rw [if_pos g]
          have : decide (v < u) = false := decide_eq_false (by omega)
          simp only [this, Bool.false_and]
        · rw [if_neg g]
          have : decide (v < u) = true := decide_eq_true (by omega)
          simp only [this, Bool.true_and]
    · rw [if_neg h]
      simp [h]

theorem spec_MsgOk_at (m : ByteArray) (l : List IF) (hm : m.size ≤ 10000000) (hl : l.length ≤ 10000000) (B : Nat) (hB : B ≤ 10000000) (hw : ∀ f ∈ l, f.f1.size ≤ B) (k : Nat) (hk : l.length + B + m.size + 40 < k) : spec_MsgOk.f k m l = some (msgOk m l) := by
  obtain ⟨k, rfl⟩ : ∃ m, k = m + 1 := ⟨k - 1, by omega⟩
  unfold spec_MsgOk.f msgOk isMti
  rw [spec_Digits_at m (by omega) _ (by omega), Option.bind_some]
  by_cases h : digs (bytesOf m) = true
  · rw [if_pos h, h, Bool.true_and, spec_MsgOk.j0]
    by_cases h4 : m.size = 4
    · have e : ((m.size : Int) != 4) = false := by rw [h4]; rfl
      rw [e, decide_eq_true h4, Bool.true_and, if_neg (by simp)]
      exact spec_MsgOk_l m l hl B hB hw l.length 0 k (by omega) (by omega)
    · have e : ((m.size : Int) != 4) = true := by simp; omega
      rw [e, decide_eq_false h4, Bool.false_and, if_pos rfl]
  · rw [if_neg h, spec_MsgOk.j0, if_pos rfl]
    simp [h]

theorem impl_MsgOk_at (m : ByteArray) (l : List IF) (hm : m.size ≤ 10000000) (hl : l.length ≤ 10000000) (B : Nat) (hB : B ≤ 10000000) (hw : ∀ f ∈ l, f.f1.size ≤ B) (k : Nat) (hk : l.length + B + m.size + 40 < k) : impl_MsgOk.f k m l = some (msgOk m l) := by
  unfold impl_MsgOk.f
  have h := impl_MsgOk_l m hm l hl B hB hw l.length 0 k (by omega) (by omega)
  unfold msgOk
  rw [Bool.and_comm]
  exact h
end Go.Proofs.Ytdcbpnhbbglbhaa.Q
end
section
/- Lemmas on what the printed functions compute (withField); no condition. -/
namespace Go.Proofs.Ytdcbpnhbbglbhaa.Q
open Go.RowKit Go.Proofs.YtdcbpnhbbglbhaaW.PrintWords Go.Proofs.YtdcbpnhbbglbhaaW.PrintLast Go.Proofs.YtdcbpnhbbglbhaaW.PrintMore
set_option linter.unusedVariables false
set_option linter.unusedSimpArgs false

/-- The fields with f put in, as the reference does it; and as the program does it in what is left of them without f's number. -/
def wins (x : Int) (f : IF) : List IF → List IF
  | [] => [f]
  | g :: t => if g.f0 ≥ x then f :: without (g :: t) x else g :: wins x f t
def wput (x : Int) (f : IF) : List IF → List IF
  | [] => [f]
  | g :: t => if g.f0 < x then g :: wput x f t else f :: g :: t

theorem without_cons (g : IF) (t : List IF) (x : Int) : without (g :: t) x = if g.f0 = x then without t x else g :: without t x := by
  unfold without
  by_cases h : g.f0 = x <;> simp [h]

theorem okFrom_sorted : ∀ (l : List IF) (p : Option Int), okFrom p l = true → (∀ q, p = some q → ∀ f ∈ l, q < f.f0) ∧ l.Pairwise (fun a b => a.f0 < b.f0) := by
  intro l
  induction l with
  | nil => intro p _; exact ⟨fun _ _ f hf => (by cases hf), List.Pairwise.nil⟩
  | cons g t ih =>
    intro p h
    rw [okFrom_cons] at h
    simp only [Bool.and_eq_true] at h
    obtain ⟨⟨_, h2⟩, h3⟩ := h
    obtain ⟨i1, i2⟩ := ih (some g.f0) h3
    refine ⟨fun q hq f hf => ?_, List.Pairwise.cons (fun f hf => i1 _ rfl f hf) i2⟩
    subst hq
    simp only [decide_eq_true_eq] at h2
    rcases List.mem_cons.1 hf with rfl | hf
    · exact h2
    · have := i1 _ rfl f hf
      omega

theorem wput_above (x : Int) (f : IF) (l : List IF) (h : ∀ g ∈ l, x < g.f0) : wput x f l = f :: l := by
  cases l with
  | nil => rfl
  | cons g t =>
    have := h g List.mem_cons_self
    rw [wput, if_neg (by omega)]

theorem wins_wput (x : Int) (f : IF) : ∀ (l : List IF), l.Pairwise (fun a b => a.f0 < b.f0) → wins x f l = wput x f (without l x) := by
  intro l
  induction l with
  | nil => intro _; rfl
  | cons g t ih =>
    intro h
    obtain ⟨h1, h2⟩ := List.pairwise_cons.1 h
    rw [wins, without_cons]
    by_cases q1 : g.f0 = x
    · rw [if_pos (by omega), if_pos q1]
      refine (wput_above x f _ (fun g' hg => ?_)).symm
      have := h1 g' (List.mem_filter.1 hg).1
      omega
    · rw [if_neg q1]
      by_cases q2 : g.f0 < x
      · rw [if_neg (by omega), wput, if_pos q2, ih h2]
      · rw [if_pos (by omega), wput, if_neg q2]

theorem wput_length (x : Int) (f : IF) : ∀ (l : List IF), (wput x f l).length = l.length + 1 := by
  intro l
  induction l with
  | nil => rfl
  | cons g t ih =>
    rw [wput]
    split
    · simp [ih]
    · simp

theorem spec_With_done (x : Int) (s : ByteArray) (m : ByteArray) (l : List IF) (hl : l.length ≤ 10000000) : ∀ (d n k : Nat) (y : List IF), n + d = l.length → y.length ≤ n + 1 → 2 * d < k →
    spec_WithField.l0 k x s true l (l.length : Int) (n : Int) m y = some (m, y ++ without (l.drop n) x, true) := by
  intro d
  induction d with
  | zero =>
    intro n k y hd hy hk
    obtain ⟨k, rfl⟩ : ∃ m, k = m + 1 := ⟨k - 1, by omega⟩
    rw [spec_WithField.l0, if_neg (by omega), if_pos rfl, List.drop_eq_nil_of_le (by omega)]
    simp [without]
  | succ d ih =>
    intro n k y hd hy hk
    obtain ⟨k, rfl⟩ : ∃ m, k = m + 2 := ⟨k - 2, by omega⟩
    rw [spec_WithField.l0, if_pos (by omega), if_pos (by omega), if_pos (by omega), if_pos rfl, spec_WithField.j2, if_neg (by simp), dropF l n (by omega), without_cons, w64s (by omega)]
    by_cases q : (rd_T58 l (n : Int)).f0 = x
    · rw [if_pos q, if_pos q]
      exact ih (n + 1) k y (by omega) (by omega) (by omega)
    · rw [if_neg q, if_neg q, if_pos (by omega), ih (n + 1) k _ (by omega) (by simp; omega) (by omega)]
      simp

theorem spec_With_l (x : Int) (s : ByteArray) (m : ByteArray) (l : List IF) (hl : l.length ≤ 10000000) : ∀ (d n k : Nat) (y : List IF), n + d = l.length → y.length ≤ n → 2 * d < k →
    spec_WithField.l0 k x s false l (l.length : Int) (n : Int) m y = some (m, y ++ wins x ⟨x, s⟩ (l.drop n), true) := by
  intro d
  induction d with
  | zero =>
    intro n k y hd hy hk
    obtain ⟨k, rfl⟩ : ∃ m, k = m + 1 := ⟨k - 1, by omega⟩
    rw [spec_WithField.l0, if_neg (by omega), if_neg (by simp), if_pos (by omega), List.drop_eq_nil_of_le (by omega)]
    rfl
  | succ d ih =>
    intro n k y hd hy hk
    obtain ⟨k, rfl⟩ : ∃ m, k = m + 2 := ⟨k - 2, by omega⟩
    rw [spec_WithField.l0, if_pos (by omega), if_pos (by omega), if_pos (by omega), if_neg (by simp), spec_WithField.j2, dropF l n (by omega), wins, w64s (by omega)]
    by_cases q : (rd_T58 l (n : Int)).f0 ≥ x
    · rw [if_pos (decide_eq_true q), if_pos q, if_pos (by omega), Option.bind_some, without_cons]
      by_cases q1 : (rd_T58 l (n : Int)).f0 = x
      · rw [if_pos q1, if_pos q1, spec_With_done x s m l hl d (n + 1) k _ (by omega) (by simp; omega) (by omega)]
        simp
      · rw [if_neg q1, if_neg q1, if_pos (by simp; omega), spec_With_done x s m l hl d (n + 1) k _ (by omega) (by simp; omega) (by omega)]
        simp
    · rw [if_neg (by simpa using q), if_neg q, if_neg (by omega), if_pos (by omega), ih (n + 1) k _ (by omega) (by simp; omega) (by omega)]
      simp

theorem impl_With_l (x : Int) (s : ByteArray) (m : ByteArray) (y : List IF) (hl : y.length ≤ 10000000) : ∀ (d n k : Nat), n + d = y.length → d < k →
    impl_WithField.l0 k x s (n : Int) m y = some (m, y.take n ++ wput x ⟨x, s⟩ (y.drop n), true) := by
  have hins : ∀ n : Nat, n ≤ y.length → impl_Field_36.f y (n : Int) [⟨x, s⟩] = some (y.take n ++ [⟨x, s⟩] ++ y.drop n) := by
    intro n hn
    unfold impl_Field_36.f
    rw [if_pos ⟨by omega, by omega, rfl, by omega⟩, Int.toNat_natCast]
  intro d
  induction d with
  | zero =>
    intro n k hd hk
    obtain ⟨k, rfl⟩ : ∃ m, k = m + 1 := ⟨k - 1, by omega⟩
    rw [impl_WithField.l0, if_neg (by omega), hins n (by omega), Option.bind_some, List.drop_eq_nil_of_le (by omega)]
    simp [wput]
  | succ d ih =>
    intro n k hd hk
    obtain ⟨k, rfl⟩ : ∃ m, k = m + 1 := ⟨k - 1, by omega⟩
    have hlt : n < y.length := by omega
    rw [impl_WithField.l0, if_pos (by omega), if_pos (by omega), dropF y n hlt, wput]
    by_cases q : (rd_T58 y (n : Int)).f0 < x
    · rw [if_pos q, if_pos q, w64s (by omega), ih (n + 1) k (by omega) (by omega), List.take_succ_eq_append_getElem hlt, rdF_nat y n hlt, List.append_assoc, List.singleton_append]
    · rw [if_neg q, if_neg q, hins n (by omega), Option.bind_some, ← dropF y n hlt]
      simp

/-- What WithField answers. -/
def withField (m : ByteArray) (l : List IF) (x : Int) (s : ByteArray) : ByteArray × List IF × Bool :=
  if msgOk m l = true ∧ fieldOk x (bytesOf s) = true then (m, wput x ⟨x, s⟩ (without l x), true) else (⟨#[]⟩, [], false)

theorem withField_length (m : ByteArray) (l : List IF) (x : Int) (s : ByteArray) : (withField m l x s).2.1.length ≤ l.length + 1 := by
  unfold withField
  split
  · simp only
    rw [wput_length]
    have := without_length l x
    omega
  · simp

theorem spec_WithField_at (m : ByteArray) (l : List IF) (x : Int) (s : ByteArray) (hm : m.size ≤ 10000000) (hl : l.length ≤ 10000000) (hs : s.size ≤ 10000000) (hw : ∀ f ∈ l, f.f1.size ≤ 10000000) (k : Nat) (hk : 100000000 ≤ k) : spec_WithField.f k m l x s = some (withField m l x s) := by
  obtain ⟨k, rfl⟩ : ∃ m, k = m + 1 := ⟨k - 1, by omega⟩
  unfold spec_WithField.f withField
  rw [spec_MsgOk_at m l hm hl 10000000 (by omega) hw _ (by omega), Option.bind_some]
  cases h1 : msgOk m l with
  | false => rw [if_neg (by simp), spec_WithField.j0, if_pos rfl, if_neg (by simp)]
  | true =>
    rw [if_pos rfl, spec_FieldOk_at x s (by omega) _ (by omega), Option.bind_some, spec_WithField.j0]
    cases h2 : fieldOk x (bytesOf s) with
    | false => rw [if_pos (show (!false) = true from rfl), if_neg (by simp)]
    | true =>
      rw [if_neg (by simp), if_pos ⟨rfl, rfl⟩]
      have h3 : okFrom none l = true := by
        unfold msgOk at h1
        simp only [Bool.and_eq_true] at h1
        exact h1.2
      rw [← wins_wput x ⟨x, s⟩ l (okFrom_sorted l none h3).2]
      exact spec_With_l x s m l hl l.length 0 k [] (by omega) (by simp) (by omega)

theorem impl_WithField_at (m : ByteArray) (l : List IF) (x : Int) (s : ByteArray) (hm : m.size ≤ 10000000) (hl : l.length ≤ 10000000) (hs : s.size ≤ 10000000) (hw : ∀ f ∈ l, f.f1.size ≤ 10000000) (k : Nat) (hk : 100000000 ≤ k) : impl_WithField.f k m l x s = some (withField m l x s) := by
  obtain ⟨k, rfl⟩ : ∃ m, k = m + 1 := ⟨k - 1, by omega⟩
  unfold impl_WithField.f withField
  rw [impl_MsgOk_at m l hm hl 10000000 (by omega) hw _ (by omega), Option.bind_some]
  cases h1 : msgOk m l with
  | false => rw [if_neg (by simp), impl_WithField.j0, if_pos rfl, if_neg (by simp)]
  | true =>
    rw [if_pos rfl, impl_FieldOk_at x s (by omega) _ (by omega), Option.bind_some, impl_WithField.j0]
    cases h2 : fieldOk x (bytesOf s) with
    | false => rw [if_pos (show (!false) = true from rfl), if_neg (by simp)]
    | true =>
      rw [if_neg (by simp), if_pos ⟨rfl, rfl⟩, impl_WithoutField_at m l x hl k (by omega), Option.bind_some]
      have := without_length l x
      exact impl_With_l x s m (without l x) (by omega) (without l x).length 0 k (by omega) (by omega)
end Go.Proofs.Ytdcbpnhbbglbhaa.Q
end
section
/- FnExactWithField of the given program answers true at every message, every int64 and every string. -/
namespace Go.Proofs.Ytdcbpnhbbglbhaa.Q
open Go.RowKit Go.Proofs.YtdcbpnhbbglbhaaW.PrintWords Go.Proofs.YtdcbpnhbbglbhaaW.PrintLast Go.Proofs.YtdcbpnhbbglbhaaW.PrintMore
set_option linter.unusedVariables false
set_option linter.unusedSimpArgs false

theorem FnExactWithField : ∀ (m : ByteArray) (l : List LF) (a1 : Int) (s : ByteArray), m.size ≤ 9223372036854775807 → l.length ≤ 9223372036854775807 → (∀ f ∈ l, f.f1.size ≤ 9223372036854775807 ∧ (Lit.int .i64 f.f0).wf = true) → (Lit.int .i64 a1).wf = true → s.size ≤ 140737488351232 → ∃ k, laws_FnExactWithField.f k m l a1 s = some true := by
  intro m l a1 s hm hl hf _ _
  obtain ⟨r, s1, hr⟩ := szMsg_at m l hm hl (fun f h => (hf f h).1) 1048576 (by omega) (by omega)
  obtain ⟨K, hK⟩ : ∃ K : Nat, l.length + 100000000 ≤ K := ⟨_, Nat.le_refl _⟩
  refine ⟨K + 4, ?_⟩
  unfold laws_FnExactWithField.f
  by_cases hs : (s.size : Int) > 1048576
  · rw [if_pos hs]
  rw [if_neg hs, s1 (K + 4) (by omega), Option.bind_some]
  rcases hr with hr | ⟨q0, _, q1, q2, q3⟩
  · rw [if_pos hr]
  have q : ¬ r < 0 := by omega
  rw [if_neg q]
  have g0 := toMsg_at m l (by omega)
  have hz : (l.map conv).length = l.length := by simp
  have hw : ∀ f ∈ l.map conv, f.f1.size ≤ 10000000 := by
    intro f hf
    obtain ⟨g, hg, rfl⟩ := List.mem_map.1 hf
    exact Nat.le_trans (q3 g hg) (by omega)
  have g1 := spec_WithField_at m (l.map conv) a1 s (by omega) (by omega) (by omega) hw
  have g2 := impl_WithField_at m (l.map conv) a1 s (by omega) (by omega) (by omega) hw
  have hz2 := withField_length m (l.map conv) a1 s
  generalize withField m (l.map conv) a1 s = v at g1 g2 hz2
  obtain ⟨vm, vl, vb⟩ := v
  simp only at hz2
  have g3 := eqMsg_self vm vl (by omega)
  have g4 := eqMsg_self m (l.map conv) (by omega)
  obtain ⟨y, hy, m2⟩ := markMsg_held m (l.map conv) (by omega) 1 (by omega) (by omega)
  obtain ⟨z, hz3, n2⟩ := markMsg_held vm vl (by omega) 1 (by omega) (by omega)
  have p1 : ¬ (1 + 2 * ((l.map conv).length : Int)) < 0 := by omega
  have p2 : ¬ (1 + 2 * (vl.length : Int)) < 0 := by omega
  have a1_ := g0 (K + 4) (by omega)
  have a2_ := g1 (K + 4) (by omega)
  have a3_ := g2 (K + 4) (by omega)
  have a4_ := g3 (K + 4) (by omega)
  have b1_ := g0 (K + 3) (by omega)
  have b2_ := g4 (K + 3) (by omega)
  have b3_ := (m2 (K + 3) (by omega)).1
  have b4_ := g3 (K + 3) (by omega)
  have c1_ := (n2 (K + 2) (by omega)).1
  have c2_ := (n2 (K + 2) (by omega)).2
  have c3_ := g0 (K + 2) (by omega)
  have c4_ := g2 (K + 2) (by omega)
  have c5_ := g3 (K + 2) (by omega)
  have d1_ := (n2 (K + 1) (by omega)).2
  clear g0 g1 g2 g3 g4 m2 n2 hz2 hy hz3 hK hw hz q1 q2 q3 s1 hf hm hl hs
  rw [a1_, Option.bind_some]
  simp only
  rw [a2_, Option.bind_some, Option.bind_some]
  simp only
  rw [a3_, Option.bind_some]
  simp only
  rw [a4_, Option.bind_some, if_pos rfl, bne_self_eq_false, laws_FnExactWithField.j0, if_neg (by simp), b1_, Option.bind_some]
  simp only
  rw [b2_, Option.bind_some, if_pos rfl, b3_, Option.bind_some]
  simp only
  rw [if_neg p1, b4_, Option.bind_some, if_pos rfl, bne_self_eq_false]
  rw [laws_FnExactWithField.j1, if_neg (by simp), c1_, Option.bind_some]
  simp only
  rw [c2_, Option.bind_some, if_neg p2, if_pos rfl, c3_, Option.bind_some]
  simp only
  rw [c4_, Option.bind_some]
  simp only
  rw [c5_, Option.bind_some, if_pos rfl, bne_self_eq_false, laws_FnExactWithField.j2, if_neg (by simp), d1_, Option.bind_some, if_neg p2, if_pos rfl]
end Go.Proofs.Ytdcbpnhbbglbhaa.Q
end
section
/- What an argument that is a slice of fields, or of ints, inside a struct reads as: for the rows; no condition. -/
namespace Go.Proofs.Ytdcbpnhbbglbhaa.Q
open Go.RowKit Go.Proofs.YtdcbpnhbbglbhaaW.PrintWords Go.Proofs.YtdcbpnhbbglbhaaW.PrintLast Go.Proofs.YtdcbpnhbbglbhaaW.PrintMore Go.ChangeShapes Go.WideShapes Go.ChangeAt Go.Deep
set_option linter.unusedVariables false
set_option linter.unusedSimpArgs false
theorem addr_add (a : Addr) (i j : Nat) : (a.add i).add j = a.add (i + j) := by
  unfold Addr.add
  by_cases h1 : i = 0 <;> by_cases h2 : j = 0 <;> simp [h1, h2, Nat.add_assoc]
theorem maxLen_eq : maxLen = 9223372036854775807 := rfl
theorem cellsField : Try.prog.cellsOf 95 = 2 := by kernel_rfl
theorem cellsInt : Try.prog.cellsOf 3 = 1 := by kernel_rfl
theorem cellsStr : Try.prog.cellsOf 9 = 1 := by kernel_rfl
set_option maxRecDepth 100000 in
theorem field_cells {H : Type} {enc : TypeId × Value → H} {W : World} {n : Nat} {cs : List Value} {y : DataW H × List MemPlace} (h : DataW.trod enc Try.prog W 0 (fun _ => true) true n 95 cs = some y) :
    ∃ f : S95, cs = [.int .i64 f.f0, .string f.f1] ∧ f.f1.size ≤ 9223372036854775807 ∧ (Lit.int .i64 f.f0).wf = true := by
  obtain ⟨y0, y1, m, hx, hl, h0, h1⟩ := trod_struct2 Try.underlying95 h
  rw [cellsField] at hl
  match cs, hl with
  | [u0, u1], _ =>
    simp only [cellsInt, cellsStr, List.drop_zero, List.take_succ_cons, List.take_zero, List.drop_succ_cons] at h0 h1
    obtain ⟨a, e0, _, wa⟩ := DataW.trod_int Try.underlying3 h0
    obtain ⟨s, e1, _, ws⟩ := DataW.trod_string Try.underlying9 h1
    simp at e0 e1
    subst e0 e1
    exact ⟨⟨a, s⟩, rfl, ws, wa⟩
instance : Inhabited S95 := ⟨z95⟩
set_option maxRecDepth 100000 in
theorem fields_open {H : Type} {enc : TypeId × Value → H} {W : World} {fuel : Nat} {v : Value} {x : DataW H × List MemPlace} (h : DataW.trod enc Try.prog W 0 (fun _ => true) true fuel 39 [v] = some x) :
    ∃ (A : Option Addr) (c : Nat) (l : List S95), v = .slice A l.length c ∧ l.length ≤ c ∧ l.length ≤ 9223372036854775807 ∧ Kd.C k95 W A l.length l ∧ ∀ f ∈ l, f.f1.size ≤ 9223372036854775807 ∧ (Lit.int .i64 f.f0).wf = true := by
  rcases open_slice Try.underlying39 h with ⟨hcs, _⟩ | ⟨a, len, cap, m, n, D, Pl, hcs, _, hlc, hcap, hm, _, hel⟩
  · simp at hcs
    subst hcs
    exact ⟨none, 0, [], rfl, Nat.le_refl _, by simp, Kd.C_nil _ _, fun f hf => by cases hf⟩
  · simp at hcs
    subst hcs
    have hlm : len ≤ m := by rw [hm]; simpa using hlc
    rw [cellsField] at hel
    obtain ⟨F, hF⟩ := choose_lt (α := S95) (n := len) (p := fun i f => f.f1.size ≤ 9223372036854775807 ∧ (Lit.int .i64 f.f0).wf = true ∧ ∀ (j : Nat) (u : Value), ([.int .i64 f.f0, .string f.f1] : List Value)[j]? = some u → W.cell? (a.add (i * 2 + j)) = some u) (fun i hi => by
      obtain ⟨cs', h1, h2⟩ := hel i (by omega)
      obtain ⟨f, rfl, hs, hw⟩ := field_cells h2
      obtain ⟨_, _, hc⟩ := World.cells?_some h1
      refine ⟨f, hs, hw, fun j u hj => ?_⟩
      have hj2 : j < 2 := by
        have := (List.getElem?_eq_some_iff.1 hj).1
        simpa using this
      rw [← addr_add, hc j hj2]
      exact hj)
    have hlen : ((List.range len).map F).length = len := by simp
    rw [maxLen_eq] at hcap
    refine ⟨some a, cap, (List.range len).map F, by rw [hlen], by rw [hlen]; exact hlc, by rw [hlen]; omega, ?_, ?_⟩
    · rw [hlen]
      refine ⟨hlen, by omega, fun _ => ⟨a, rfl, fun j p hj => ?_⟩⟩
      have hjl : j < len := by
        have := (List.getElem?_eq_some_iff.1 hj).1
        rwa [hlen] at this
      have hp : p = F j := by
        simp [hjl] at hj
        exact hj.symm
      subst hp
      exact ⟨[.int .i64 (F j).f0, .string (F j).f1], rfl, k95_mk W (F j), (hF j hjl).2.2⟩
    · intro f hf
      obtain ⟨j, hj, rfl⟩ := List.mem_map.1 hf
      have hjl : j < len := List.mem_range.1 hj
      exact ⟨(hF j hjl).1, (hF j hjl).2.1⟩
end Go.Proofs.Ytdcbpnhbbglbhaa.Q
end
