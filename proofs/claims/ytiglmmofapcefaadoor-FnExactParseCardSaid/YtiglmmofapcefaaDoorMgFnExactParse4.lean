/- Texts for FnExactParse, packed by a program of this session (wip/pack.py), part 4 of 6: the print's words that are used, the printed walks, the plain laws, the row; no condition. -/
import Derived.Test.YtiglmmofapcefaaDoorMgFnExactParse3
section
namespace Go.Proofs.YtiglmmofapcefaaDoor.Q
open Go.RowKit Go.Proofs.YtiglmmofapcefaaDoorW.PrintWords Go.Proofs.YtiglmmofapcefaaDoorW.PrintLast Go.Proofs.YtiglmmofapcefaaDoorW.PrintMore
attribute [local go_sem] max2_int min2_int max_two min_two max_three min_three max_four min_four
set_option linter.unusedVariables false
set_option linter.unusedSimpArgs false
mutual
def laws_FnExactParse.j0 : Nat → List Int → Int → List Int → Int → Bool → ByteArray → List (S81) → ByteArray → List (S81) → Option (Bool)
 | 0, _, _, _, _, _, _, _, _, _ => none
 | k + 1, x0, x4, x5, x7, x37, x576000, x576001, x585000, x585001 => if x37 = true then (some false) else ((laws_toByteS.f k x0).bind fun t586 => ((laws_eqByteS.f k x5 t586).bind fun t589 => (if t589 = true then ((laws_markByteS.f k x5 1).bind fun bt590 => (if bt590.1 < 0 then (laws_FnExactParse.j1 k x0 x4 true x576000 x576001 x585000 x585001) else ((laws_eqMsg.f k x585000 x585001 x576000 x576001).bind fun t592 => (if t592 = true then (laws_FnExactParse.j1 k x0 x4 (x7 != x4) x576000 x576001 x585000 x585001) else (laws_FnExactParse.j1 k x0 x4 true x576000 x576001 x585000 x585001))))) else (some false))))
def laws_FnExactParse.j1 : Nat → List Int → Int → Bool → ByteArray → List (S81) → ByteArray → List (S81) → Option (Bool)
 | 0, _, _, _, _, _, _, _ => none
 | k + 1, x0, x4, x58, x576000, x576001, x585000, x585001 => if x58 = true then (some false) else ((laws_markMsg.f k x585000 x585001 1).bind fun bt593 => ((laws_heldMsg.f k x585000 bt593.2 1).bind fun t595 => (if t595 < 0 then (some false) else (if t595 = bt593.1 then ((laws_toByteS.f k x0).bind fun t596 => ((impl_Parse.f k t596).bind fun bt599 => ((laws_eqMsg.f k bt599.1 bt599.2.1 x576000 x576001).bind fun t605 => (if t605 = true then (laws_FnExactParse.j2 k bt593.1 (bt599.2.2 != x4) x585000 bt593.2) else (laws_FnExactParse.j2 k bt593.1 true x585000 bt593.2))))) else (some false)))))
def laws_FnExactParse.j2 : Nat → Int → Bool → ByteArray → List (S81) → Option (Bool)
 | 0, _, _, _, _ => none
 | k + 1, x9, x84, x585000, x585001 => if x84 = true then (some false) else ((laws_heldMsg.f k x585000 x585001 1).bind fun t606 => (if t606 < 0 then (some false) else (if t606 = x9 then (some true) else (some false))))
end
def laws_FnExactParse.f (k : Nat) (l0 : List Int) : Option (Bool) := if (l0.length : Int) > 1048576 then (some true) else ((laws_toByteS.f k l0).bind fun t567 => ((spec_Parse.f k t567).bind fun bt570 => ((laws_toByteS.f k l0).bind fun t576 => ((impl_Parse.f k t576).bind fun bt579 => ((laws_eqMsg.f k bt579.1 bt579.2.1 bt570.1 bt570.2.1).bind fun t585 => (if t585 = true then (laws_FnExactParse.j0 k l0 bt570.2.2 t576 bt579.2.2 (bt579.2.2 != bt570.2.2) bt570.1 bt570.2.1 bt579.1 bt579.2.1) else (laws_FnExactParse.j0 k l0 bt570.2.2 t576 bt579.2.2 true bt570.1 bt570.2.1 bt579.1 bt579.2.1)))))))
theorem laws_FnExactParse.mono_l : ∀ k, (∀ y0 y1 y2 y3 y4 y5 y6 y7 y8, LeO (laws_FnExactParse.j0 k y0 y1 y2 y3 y4 y5 y6 y7 y8) (laws_FnExactParse.j0 (k + 1) y0 y1 y2 y3 y4 y5 y6 y7 y8)) ∧ (∀ y0 y1 y2 y3 y4 y5 y6, LeO (laws_FnExactParse.j1 k y0 y1 y2 y3 y4 y5 y6) (laws_FnExactParse.j1 (k + 1) y0 y1 y2 y3 y4 y5 y6)) ∧ (∀ y0 y1 y2 y3, LeO (laws_FnExactParse.j2 k y0 y1 y2 y3) (laws_FnExactParse.j2 (k + 1) y0 y1 y2 y3))
 | 0 => ⟨fun _ _ _ _ _ _ _ _ _ r h => by simp [laws_FnExactParse.j0] at h, fun _ _ _ _ _ _ _ r h => by simp [laws_FnExactParse.j1] at h, fun _ _ _ _ r h => by simp [laws_FnExactParse.j2] at h⟩
 | k + 1 => by
  obtain ⟨ih0, ih1, ih2⟩ := laws_FnExactParse.mono_l k
  refine ⟨?_, ?_, ?_⟩
  ·intro y0 y1 y2 y3 y4 y5 y6 y7 y8
   unfold laws_FnExactParse.j0
   repeat' first
   | (with_reducible exact ih0 _ _ _ _ _ _ _ _ _)
   | (with_reducible exact ih1 _ _ _ _ _ _ _)
   | (with_reducible exact ih2 _ _ _ _)
   | (with_reducible exact impl_Parse.mono _ _)
   | (with_reducible exact laws_eqByteS.mono _ _ _)
   | (with_reducible exact laws_eqMsg.mono _ _ _ _ _)
   | (with_reducible exact laws_heldMsg.mono _ _ _ _)
   | (with_reducible exact laws_markByteS.mono _ _ _)
   | (with_reducible exact laws_markMsg.mono _ _ _ _)
   | (with_reducible exact laws_toByteS.mono _ _)
   | (with_reducible exact spec_Parse.mono _ _)
   | (with_reducible exact LeO.refl _)
   | (with_reducible exact LeO.none _)
   | (with_reducible refine LeO.ite ?_ ?_)
   | (with_reducible refine LeO.bind ?_ (fun _ => ?_))
   | exact ih0 _ _ _ _ _ _ _ _ _
   | exact ih1 _ _ _ _ _ _ _
   | exact ih2 _ _ _ _
   | exact impl_Parse.mono _ _
   | exact laws_eqByteS.mono _ _ _
   | exact laws_eqMsg.mono _ _ _ _ _
   | exact laws_heldMsg.mono _ _ _ _
   | exact laws_markByteS.mono _ _ _
   | exact laws_markMsg.mono _ _ _ _
   | exact laws_toByteS.mono _ _
   | exact spec_Parse.mono _ _
   | exact LeO.none _
   | refine LeO.ite ?_ ?_
   | refine LeO.bind ?_ (fun _ => ?_)
  ·intro y0 y1 y2 y3 y4 y5 y6
   unfold laws_FnExactParse.j1
   repeat' first
   | (with_reducible exact ih0 _ _ _ _ _ _ _ _ _)
   | (with_reducible exact ih1 _ _ _ _ _ _ _)
   | (with_reducible exact ih2 _ _ _ _)
   | (with_reducible exact impl_Parse.mono _ _)
   | (with_reducible exact laws_eqByteS.mono _ _ _)
   | (with_reducible exact laws_eqMsg.mono _ _ _ _ _)
   | (with_reducible exact laws_heldMsg.mono _ _ _ _)
   | (with_reducible exact laws_markByteS.mono _ _ _)
   | (with_reducible exact laws_markMsg.mono _ _ _ _)
   | (with_reducible exact laws_toByteS.mono _ _)
   | (with_reducible exact spec_Parse.mono _ _)
   | (with_reducible exact LeO.refl _)
   | (with_reducible exact LeO.none _)
   | (with_reducible refine LeO.ite ?_ ?_)
   | (with_reducible refine LeO.bind ?_ (fun _ => ?_))
   | exact ih0 _ _ _ _ _ _ _ _ _
   | exact ih1 _ _ _ _ _ _ _
   | exact ih2 _ _ _ _
   | exact impl_Parse.mono _ _
   | exact laws_eqByteS.mono _ _ _
   | exact laws_eqMsg.mono _ _ _ _ _
   | exact laws_heldMsg.mono _ _ _ _
   | exact laws_markByteS.mono _ _ _
   | exact laws_markMsg.mono _ _ _ _
   | exact laws_toByteS.mono _ _
   | exact spec_Parse.mono _ _
   | exact LeO.none _
   | refine LeO.ite ?_ ?_
   | refine LeO.bind ?_ (fun _ => ?_)
  ·intro y0 y1 y2 y3
   unfold laws_FnExactParse.j2
   repeat' first
   | (with_reducible exact ih0 _ _ _ _ _ _ _ _ _)
   | (with_reducible exact ih1 _ _ _ _ _ _ _)
   | (with_reducible exact ih2 _ _ _ _)
   | (with_reducible exact impl_Parse.mono _ _)
   | (with_reducible exact laws_eqByteS.mono _ _ _)
   | (with_reducible exact laws_eqMsg.mono _ _ _ _ _)
   | (with_reducible exact laws_heldMsg.mono _ _ _ _)
   | (with_reducible exact laws_markByteS.mono _ _ _)
   | (with_reducible exact laws_markMsg.mono _ _ _ _)
   | (with_reducible exact laws_toByteS.mono _ _)
   | (with_reducible exact spec_Parse.mono _ _)
   | (with_reducible exact LeO.refl _)
   | (with_reducible exact LeO.none _)
   | (with_reducible refine LeO.ite ?_ ?_)
   | (with_reducible refine LeO.bind ?_ (fun _ => ?_))
   | exact ih0 _ _ _ _ _ _ _ _ _
   | exact ih1 _ _ _ _ _ _ _
   | exact ih2 _ _ _ _
   | exact impl_Parse.mono _ _
   | exact laws_eqByteS.mono _ _ _
   | exact laws_eqMsg.mono _ _ _ _ _
   | exact laws_heldMsg.mono _ _ _ _
   | exact laws_markByteS.mono _ _ _
   | exact laws_markMsg.mono _ _ _ _
   | exact laws_toByteS.mono _ _
   | exact spec_Parse.mono _ _
   | exact LeO.none _
   | refine LeO.ite ?_ ?_
   | refine LeO.bind ?_ (fun _ => ?_)
theorem laws_FnExactParse.mono : ∀ a0 k, LeO (laws_FnExactParse.f k a0) (laws_FnExactParse.f (k + 1) a0) := by
 intro a0 k
 obtain ⟨ih0, ih1, ih2⟩ := laws_FnExactParse.mono_l k
 unfold laws_FnExactParse.f
 repeat' first
   | (with_reducible exact ih0 _ _ _ _ _ _ _ _ _)
   | (with_reducible exact ih1 _ _ _ _ _ _ _)
   | (with_reducible exact ih2 _ _ _ _)
   | (with_reducible exact impl_Parse.mono _ _)
   | (with_reducible exact laws_eqByteS.mono _ _ _)
   | (with_reducible exact laws_eqMsg.mono _ _ _ _ _)
   | (with_reducible exact laws_heldMsg.mono _ _ _ _)
   | (with_reducible exact laws_markByteS.mono _ _ _)
   | (with_reducible exact laws_markMsg.mono _ _ _ _)
   | (with_reducible exact laws_toByteS.mono _ _)
   | (with_reducible exact spec_Parse.mono _ _)
   | (with_reducible exact LeO.refl _)
   | (with_reducible exact LeO.none _)
   | (with_reducible refine LeO.ite ?_ ?_)
   | (with_reducible refine LeO.bind ?_ (fun _ => ?_))
   | exact ih0 _ _ _ _ _ _ _ _ _
   | exact ih1 _ _ _ _ _ _ _
   | exact ih2 _ _ _ _
   | exact impl_Parse.mono _ _
   | exact laws_eqByteS.mono _ _ _
   | exact laws_eqMsg.mono _ _ _ _ _
   | exact laws_heldMsg.mono _ _ _ _
   | exact laws_markByteS.mono _ _ _
   | exact laws_markMsg.mono _ _ _ _
   | exact laws_toByteS.mono _ _
   | exact spec_Parse.mono _ _
   | exact LeO.none _
   | refine LeO.ite ?_ ?_
   | refine LeO.bind ?_ (fun _ => ?_)
set_option maxHeartbeats 8000000 in
set_option maxRecDepth 100000 in
theorem laws_FnExactParse.calls (k : Nat) (A0 : Option Addr) (c0 : Nat) (l0 : List Int) (r : Bool) (w : World) (hr0 : Kd.C (Kd.int .u8) w A0 l0.length l0) (hc0 : l0.length ≤ c0) (hG : GLW w) (hr_ : r = true) (h : laws_FnExactParse.f k l0 = some r) :
  Calls Tryd.prog 12 #[.slice A0 l0.length c0] w fun e w' => e = .returned (.bool r) ∧ Below w.heap.size w w' := by
 have hu49 := Tryd.underlying49
 have HR0 := Aside0.mk hr0
 have HC0 := Aside0.mk hc0
 clear hr0 hc0
 have HB := Aside0.mk (Below.refl w.heap.size w)
 have HG := Aside0.mk hG
 clear hG
 have H : (if (l0.length : Int) > 1048576 then (some true) else ((laws_toByteS.f k l0).bind fun t567 => ((spec_Parse.f k t567).bind fun bt570 => ((laws_toByteS.f k l0).bind fun t576 => ((impl_Parse.f k t576).bind fun bt579 => ((laws_eqMsg.f k bt579.1 bt579.2.1 bt570.1 bt570.2.1).bind fun t585 => (if t585 = true then (laws_FnExactParse.j0 k l0 bt570.2.2 t576 bt579.2.2 (bt579.2.2 != bt570.2.2) bt570.1 bt570.2.1 bt579.1 bt579.2.1) else (laws_FnExactParse.j0 k l0 bt570.2.2 t576 bt579.2.2 true bt570.1 bt570.2.1 bt579.1 bt579.2.1)))))))) = some r := h
 clear h
 by_cases c2 : (l0.length : Int) > 1048576
 ·rw [if_pos c2] at H
  have c2b0 : decide (1048576 < (l0.length : Int)) = true := decide_eq_true c2
  have c2b1 : decide (1048576 < l0.length) = true := decide_eq_true (by omega)
  clear c2
  obtain rfl := Option.some.inj H
  go_enter Tryd.func12, Tryd.ntmps12
  go_wp2
  go_ret
  exact ⟨by first | rfl | (simp [errW_none, errW_some] <;> rfl) | (simp [*, errW_none, errW_some] <;> rfl), by repeat (first | (with_reducible first | exact HB.out | apply below_alloc | apply pw_below_drewN | apply below_drew1) | exact HB.out)⟩
 ·rw [if_neg c2] at H
  have c2b0 : decide (1048576 < (l0.length : Int)) = false := decide_eq_false c2
  have c2b1 : decide (1048576 < l0.length) = false := decide_eq_false (by omega)
  clear c2
  replace H := Option.bind_eq_some_iff.mp H
  obtain ⟨t567, A30, H⟩ := H
  replace H : ((spec_Parse.f k t567).bind fun bt570 => ((laws_toByteS.f k l0).bind fun t576 => ((impl_Parse.f k t576).bind fun bt579 => ((laws_eqMsg.f k bt579.1 bt579.2.1 bt570.1 bt570.2.1).bind fun t585 => (if t585 = true then (laws_FnExactParse.j0 k l0 bt570.2.2 t576 bt579.2.2 (bt579.2.2 != bt570.2.2) bt570.1 bt570.2.1 bt579.1 bt579.2.1) else (laws_FnExactParse.j0 k l0 bt570.2.2 t576 bt579.2.2 true bt570.1 bt570.2.1 bt579.1 bt579.2.1)))))) = some r := H
  have A3 := Aside0.mk A30
  clear A30
  replace H := Option.bind_eq_some_iff.mp H
  obtain ⟨⟨t570, t571, t574⟩, A40, H⟩ := H
  replace H : ((laws_toByteS.f k l0).bind fun t576 => ((impl_Parse.f k t576).bind fun bt579 => ((laws_eqMsg.f k bt579.1 bt579.2.1 t570 t571).bind fun t585 => (if t585 = true then (laws_FnExactParse.j0 k l0 t574 t576 bt579.2.2 (bt579.2.2 != t574) t570 t571 bt579.1 bt579.2.1) else (laws_FnExactParse.j0 k l0 t574 t576 bt579.2.2 true t570 t571 bt579.1 bt579.2.1))))) = some r := H
  have A4 := Aside0.mk A40
  clear A40
  replace H := Option.bind_eq_some_iff.mp H
  obtain ⟨t576, A50, H⟩ := H
  replace H : ((impl_Parse.f k t576).bind fun bt579 => ((laws_eqMsg.f k bt579.1 bt579.2.1 t570 t571).bind fun t585 => (if t585 = true then (laws_FnExactParse.j0 k l0 t574 t576 bt579.2.2 (bt579.2.2 != t574) t570 t571 bt579.1 bt579.2.1) else (laws_FnExactParse.j0 k l0 t574 t576 bt579.2.2 true t570 t571 bt579.1 bt579.2.1)))) = some r := H
  have A5 := Aside0.mk A50
  clear A50
  replace H := Option.bind_eq_some_iff.mp H
  obtain ⟨⟨t579, t580, t583⟩, A60, H⟩ := H
  replace H : ((laws_eqMsg.f k t579 t580 t570 t571).bind fun t585 => (if t585 = true then (laws_FnExactParse.j0 k l0 t574 t576 t583 (t583 != t574) t570 t571 t579 t580) else (laws_FnExactParse.j0 k l0 t574 t576 t583 true t570 t571 t579 t580))) = some r := H
  have A6 := Aside0.mk A60
  clear A60
  have HC7 := Aside0.mk H
  clear H
  go_enter Tryd.func12, Tryd.ntmps12
  go_upto_region 6 with (first | ((with_reducible refine gate_callee (f := 31) rfl ?_); refine goesL_ (some 18) rfl rfl Tryd.func31 (by kernel_rfl) rfl #[.slice A0 l0.length c0] rfl (by (try simp only [List.map_toArray, List.map_cons, List.map_nil]); first | done | rfl | (simp only [List.length_drop, List.length_take]; rfl)) ?_; (with_reducible refine (laws_toByteS.calls k _ _ l0 t567 _ ?side1 ?side2 A3.out).mono ?_); (case side1 => repeat (first | exact HR0.out | (with_reducible refine Kd.C_alloc ?_ _) | (with_reducible refine Kd.C_drewN ?_ _) | (with_reducible refine Kd.C_drew ?_))); (case side2 => exact HC0.out); rintro e w8 ⟨v568, rfl, ho0, hb⟩; refine ⟨_, rfl, ?_⟩; have n0_ := Aside0.mk (Kd.R_lower ho0 (below_size (by repeat (first | (with_reducible first | exact HB.out | apply below_alloc | apply pw_below_drewN | apply below_drew1) | exact HB.out)))); have n1_ := Aside0.mk (below_step (by repeat (first | (with_reducible first | exact HB.out | apply below_alloc | apply pw_below_drewN | apply below_drew1) | exact HB.out)) hb); clear HB; have HO569 := n0_; have HB := n1_; clear n0_ n1_; (try clear hb); (try clear hb2); (try clear hk); (try clear hi); (try clear ho0); obtain ⟨Ao9, co9, eo9⟩ := Kd.R_slice HO569.out; subst eo9) | ((with_reducible refine gate_callee (f := 43) rfl ?_); refine goesL_ (some 19) rfl rfl Tryd.func43 (by kernel_rfl) rfl #[.slice Ao9 t567.length co9] rfl (by (try simp only [List.map_toArray, List.map_cons, List.map_nil]); first | done | rfl | (simp only [List.length_drop, List.length_take]; rfl)) ?_; (with_reducible refine (spec_Parse.calls k _ _ t567 t570 t571 t574 _ ?side1 ?side2 A4.out).mono ?_); (case side1 => repeat (first | exact (Kd.R_reads' HO569.out).2.2 | (with_reducible refine Kd.C_alloc ?_ _) | (with_reducible refine Kd.C_drewN ?_ _) | (with_reducible refine Kd.C_drew ?_))); (case side2 => exact (Kd.R_reads' HO569.out).2.1); rintro e w10 ⟨v572, rfl, ho0, hb⟩; refine ⟨_, rfl, ?_⟩; have n0_ := Aside0.mk (Kd.R_below (by (with_reducible repeat (first | apply Kd.R_alloc | apply Kd.R_drewN | apply Kd.R_drew)); exact HO569.out) hb); have n1_ := Aside0.mk (Kd.R_lower ho0 (below_size (by repeat (first | (with_reducible first | exact HB.out | apply below_alloc | apply pw_below_drewN | apply below_drew1) | exact HB.out)))); have n2_ := Aside0.mk (below_step (by repeat (first | (with_reducible first | exact HB.out | apply below_alloc | apply pw_below_drewN | apply below_drew1) | exact HB.out)) hb); clear HO569; clear HB; have HO569 := n0_; have HO573 := n1_; have HB := n2_; clear n0_ n1_ n2_; (try clear hb); (try clear hb2); (try clear hk); (try clear hi); (try clear ho0)) | ((with_reducible refine gate_dst (N := 3) rfl ?_); refine box_event ?hg (N := 3) ?hd (cs := #[.string (⟨#[]⟩ : ByteArray), .slice none 0 0]) (t := 49) ?hr ?_; (case hd => rfl); (case hg => rfl); (case hr => first | (go_simp; done) | (go_simp; rfl)); intro gb575 hg w11 hbox hb; have n0_ := Aside0.mk (Kd.R_below (by (with_reducible repeat (first | apply Kd.R_alloc | apply Kd.R_drewN | apply Kd.R_drew)); exact HO569.out) hb); have n1_ := Aside0.mk (Kd.R_below (by (with_reducible repeat (first | apply Kd.R_alloc | apply Kd.R_drewN | apply Kd.R_drew)); exact HO573.out) hb); have n2_ := Aside0.mk (below_step (by repeat (first | (with_reducible first | exact HB.out | apply below_alloc | apply pw_below_drewN | apply below_drew1) | exact HB.out)) hb); have n3_ := Aside0.mk (hbox); have n4_ := Aside0.mk ((by rw [hg]; exact (below_size (by repeat (first | (with_reducible first | exact HB.out | apply below_alloc | apply pw_below_drewN | apply below_drew1) | exact HB.out))) : w.heap.size ≤ gb575)); have n5_ := Aside0.mk ((by rw [hg]; exact (below_size (by repeat (first | (with_reducible first | exact HB.out | apply below_alloc | apply pw_below_drewN | apply below_drew1) | exact HB.out))) : w.heap.size ≤ gb575)); clear HO569; clear HO573; clear HB; have HO569 := n0_; have HO573 := n1_; have HB := n2_; have BK575 := n3_; have GW575 := n4_; have GE575 := n5_; clear n0_ n1_ n2_ n3_ n4_ n5_; clear hb hbox hg; have hcz12_0 : w11.cell? ⟨gb575, 0, none⟩ = some (.string (⟨#[]⟩ : ByteArray)) := (blk_cell BK575.out 0).trans rfl; have hcz12_1 : w11.cell? ⟨gb575, 1, none⟩ = some (.slice none 0 0) := (blk_cell BK575.out 1).trans rfl; have hfz12_0 := blk_frozen BK575.out 0; have hfz12_1 := blk_frozen BK575.out 1; obtain ⟨Ao13, co13, eo13⟩ := Kd.R_slice HO573.out; subst eo13) | ((with_reducible refine gate_callee (f := 31) rfl ?_); refine goesL_ (some 23) rfl rfl Tryd.func31 (by kernel_rfl) rfl #[.slice A0 l0.length c0] rfl (by (try simp only [List.map_toArray, List.map_cons, List.map_nil]); first | done | rfl | (simp only [List.length_drop, List.length_take]; rfl)) ?_; (with_reducible refine (laws_toByteS.calls k _ _ l0 t576 _ ?side1 ?side2 A5.out).mono ?_); (case side1 => exact Kd.C_below HR0.out (by repeat (first | (with_reducible first | exact HB.out | apply below_alloc | apply pw_below_drewN | apply below_drew1 | refine below_set ?_ GE575.out) | exact HB.out))); (case side2 => exact HC0.out); rintro e w14 ⟨v577, rfl, ho0, hb⟩; refine ⟨_, rfl, ?_⟩; have n0_ := Aside0.mk (Kd.R_elder' (by (with_reducible repeat (first | apply Kd.R_alloc | apply Kd.R_drewN | apply Kd.R_drew)); exact (Kd.R_mono (Kd.R_far (p := ⟨gb575, 1, none⟩) (Kd.R_far (p := ⟨gb575, 0, none⟩) (Kd.R_types HO569.out BK575.out (by decide)) (fun _ hk => hk.2) (.string t570)) (fun _ hk => hk.2) (.slice Ao13 t571.length co13)) (fun _ h_ => h_.1))) (Kd.R_base ho0) hb); have n1_ := Aside0.mk (Kd.R_below (by (with_reducible repeat (first | apply Kd.R_alloc | apply Kd.R_drewN | apply Kd.R_drew)); exact (Kd.R_mono (Kd.R_far (p := ⟨gb575, 1, none⟩) (Kd.R_far (p := ⟨gb575, 0, none⟩) (Kd.R_types HO573.out BK575.out (by decide)) (fun _ hk => hk.2) (.string t570)) (fun _ hk => hk.2) (.slice Ao13 t571.length co13)) (fun _ h_ => h_.1))) hb); have n2_ := Aside0.mk (Kd.R_lower (Kd.R_new' ho0 (Kd.R_lt (by (with_reducible repeat (first | apply Kd.R_alloc | apply Kd.R_drewN | apply Kd.R_drew)); exact (Kd.R_mono (Kd.R_far (p := ⟨gb575, 1, none⟩) (Kd.R_far (p := ⟨gb575, 0, none⟩) (Kd.R_types HO569.out BK575.out (by decide)) (fun _ hk => hk.2) (.string t570)) (fun _ hk => hk.2) (.slice Ao13 t571.length co13)) (fun _ h_ => h_.1))))) (below_size (by repeat (first | (with_reducible first | exact HB.out | apply below_alloc | apply pw_below_drewN | apply below_drew1 | refine below_set ?_ GE575.out) | exact HB.out)))); have n3_ := Aside0.mk (blk_below (g := gb575) (o := .cells #[.string t570, .slice Ao13 t571.length co13] 49 (0, 0)) (by (with_reducible repeat (first | refine blk_drewN ?_ _ | refine blk_drew ?_ | refine blk_alloc ?_ _)); refine blk_put (cs := #[.string t570, .slice none 0 0]) ?_ 1 _ rfl; (with_reducible repeat (first | refine blk_drewN ?_ _ | refine blk_drew ?_ | refine blk_alloc ?_ _)); refine blk_put (cs := #[.string (⟨#[]⟩ : ByteArray), .slice none 0 0]) ?_ 0 _ rfl; (with_reducible repeat (first | refine blk_drewN ?_ _ | refine blk_drew ?_ | refine blk_alloc ?_ _)); exact BK575.out) hb); have n4_ := Aside0.mk (below_step (by repeat (first | (with_reducible first | exact HB.out | apply below_alloc | apply pw_below_drewN | apply below_drew1 | refine below_set ?_ GE575.out) | exact HB.out)) hb); clear HO569; clear HO573; clear BK575; clear HB; have HO569 := n0_; have HO573 := n1_; have HO578 := n2_; have BK575 := n3_; have HB := n4_; clear n0_ n1_ n2_ n3_ n4_; (try clear hb); (try clear hb2); (try clear hk); (try clear hi); (try clear ho0); obtain ⟨Ao15, co15, eo15⟩ := Kd.R_slice HO578.out; subst eo15) | ((with_reducible refine gate_callee (f := 44) rfl ?_); refine goesL_ (some 26) rfl rfl Tryd.func44 (by kernel_rfl) rfl #[.slice Ao15 t576.length co15] rfl (by (try simp only [List.map_toArray, List.map_cons, List.map_nil]); first | done | rfl | (simp only [List.length_drop, List.length_take]; rfl)) ?_; (with_reducible refine (impl_Parse.calls k _ _ t576 t579 t580 t583 _ ?side1 ?side2 ?side3 A6.out).mono ?_); (case side1 => repeat (first | exact (Kd.R_reads' HO578.out).2.2 | (with_reducible refine Kd.C_alloc ?_ _) | (with_reducible refine Kd.C_drewN ?_ _) | (with_reducible refine Kd.C_drew ?_))); (case side2 => exact (Kd.R_reads' HO578.out).2.1); (case side3 => exact GLW_below HG.out (by repeat (first | (with_reducible first | exact HB.out | apply below_alloc | apply pw_below_drewN | apply below_drew1 | refine below_set ?_ GE575.out) | exact HB.out))); rintro e w16 ⟨v581, rfl, ho0, hb⟩; refine ⟨_, rfl, ?_⟩; have n0_ := Aside0.mk (Kd.R_below (by (with_reducible repeat (first | apply Kd.R_alloc | apply Kd.R_drewN | apply Kd.R_drew)); exact HO569.out) hb); have n1_ := Aside0.mk (Kd.R_elder' (by (with_reducible repeat (first | apply Kd.R_alloc | apply Kd.R_drewN | apply Kd.R_drew)); exact HO573.out) (Kd.R_base ho0) hb); have n2_ := Aside0.mk (Kd.R_below (by (with_reducible repeat (first | apply Kd.R_alloc | apply Kd.R_drewN | apply Kd.R_drew)); exact HO578.out) hb); have n3_ := Aside0.mk (Kd.R_lower (Kd.R_new' ho0 (Kd.R_lt (by (with_reducible repeat (first | apply Kd.R_alloc | apply Kd.R_drewN | apply Kd.R_drew)); exact HO573.out))) (below_size (by repeat (first | (with_reducible first | exact HB.out | apply below_alloc | apply pw_below_drewN | apply below_drew1 | refine below_set ?_ GE575.out) | exact HB.out)))); have n4_ := Aside0.mk (blk_below (g := gb575) (o := .cells #[.string t570, .slice Ao13 t571.length co13] 49 (0, 0)) (by (with_reducible repeat (first | refine blk_drewN ?_ _ | refine blk_drew ?_ | refine blk_alloc ?_ _)); exact BK575.out) hb); have n5_ := Aside0.mk (below_step (by repeat (first | (with_reducible first | exact HB.out | apply below_alloc | apply pw_below_drewN | apply below_drew1 | refine below_set ?_ GE575.out) | exact HB.out)) hb); clear HO569; clear HO573; clear HO578; clear BK575; clear HB; have HO569 := n0_; have HO573 := n1_; have HO578 := n2_; have HO582 := n3_; have BK575 := n4_; have HB := n5_; clear n0_ n1_ n2_ n3_ n4_ n5_; (try clear hb); (try clear hb2); (try clear hk); (try clear hi); (try clear ho0)) | ((with_reducible refine gate_dst (N := 6) rfl ?_); refine box_event ?hg (N := 6) ?hd (cs := #[.string (⟨#[]⟩ : ByteArray), .slice none 0 0]) (t := 49) ?hr ?_; (case hd => rfl); (case hg => rfl); (case hr => first | (go_simp; done) | (go_simp; rfl)); intro gb584 hg w17 hbox hb; have n0_ := Aside0.mk (Kd.R_below (by (with_reducible repeat (first | apply Kd.R_alloc | apply Kd.R_drewN | apply Kd.R_drew)); exact HO569.out) hb); have n1_ := Aside0.mk (Kd.R_below (by (with_reducible repeat (first | apply Kd.R_alloc | apply Kd.R_drewN | apply Kd.R_drew)); exact HO573.out) hb); have n2_ := Aside0.mk (Kd.R_below (by (with_reducible repeat (first | apply Kd.R_alloc | apply Kd.R_drewN | apply Kd.R_drew)); exact HO578.out) hb); have n3_ := Aside0.mk (Kd.R_below (by (with_reducible repeat (first | apply Kd.R_alloc | apply Kd.R_drewN | apply Kd.R_drew)); exact HO582.out) hb); have n4_ := Aside0.mk (blk_below (g := gb575) (o := .cells #[.string t570, .slice Ao13 t571.length co13] 49 (0, 0)) (by (with_reducible repeat (first | refine blk_drewN ?_ _ | refine blk_drew ?_ | refine blk_alloc ?_ _)); exact BK575.out) hb); have n5_ := Aside0.mk (below_step (by repeat (first | (with_reducible first | exact HB.out | apply below_alloc | apply pw_below_drewN | apply below_drew1 | refine below_set ?_ GE575.out) | exact HB.out)) hb); have n6_ := Aside0.mk (hbox); have n7_ := Aside0.mk ((by rw [hg]; exact (below_size (by repeat (first | (with_reducible first | exact HB.out | apply below_alloc | apply pw_below_drewN | apply below_drew1 | refine below_set ?_ GE575.out) | exact HB.out))) : w.heap.size ≤ gb584)); have n8_ := Aside0.mk ((by rw [hg]; exact (below_size (by repeat (first | (with_reducible first | exact HB.out | apply below_alloc | apply pw_below_drewN | apply below_drew1 | refine below_set ?_ GE575.out) | exact HB.out))) : w.heap.size ≤ gb584)); have n9_ := Aside0.mk ((by rw [hg]; exact Nat.ne_of_lt (blk_lt (g := gb575) (o := .cells #[.string t570, .slice Ao13 t571.length co13] 49 (0, 0)) (by (with_reducible repeat (first | refine blk_drewN ?_ _ | refine blk_drew ?_ | refine blk_alloc ?_ _)); exact BK575.out)) : gb575 ≠ gb584)); have n10_ := Aside0.mk ((by rw [hg]; exact Nat.ne_of_gt (blk_lt (g := gb575) (o := .cells #[.string t570, .slice Ao13 t571.length co13] 49 (0, 0)) (by (with_reducible repeat (first | refine blk_drewN ?_ _ | refine blk_drew ?_ | refine blk_alloc ?_ _)); exact BK575.out)) : gb584 ≠ gb575)); clear HO569; clear HO573; clear HO578; clear HO582; clear BK575; clear HB; have HO569 := n0_; have HO573 := n1_; have HO578 := n2_; have HO582 := n3_; have BK575 := n4_; have HB := n5_; have BK584 := n6_; have GW584 := n7_; have GE584 := n8_; have NB575_584 := n9_; have NB584_575 := n10_; clear n0_ n1_ n2_ n3_ n4_ n5_ n6_ n7_ n8_ n9_ n10_; clear hb hbox hg; have hnb18 := NB584_575.out; have hnc18 := NB575_584.out; have hcz19_0 : w17.cell? ⟨gb584, 0, none⟩ = some (.string (⟨#[]⟩ : ByteArray)) := (blk_cell BK584.out 0).trans rfl; have hcz19_1 : w17.cell? ⟨gb584, 1, none⟩ = some (.slice none 0 0) := (blk_cell BK584.out 1).trans rfl; have hfz19_0 := blk_frozen BK584.out 0; have hfz19_1 := blk_frozen BK584.out 1; obtain ⟨Ao20, co20, eo20⟩ := Kd.R_slice HO582.out; subst eo20))
  (try simp only [Act.put, List.setIfInBounds_toArray, List.set_cons_zero, List.set_cons_succ])
  go_cut [37] (fun v37 wc => ∃ (kq : Nat) (x37_6 : Bool), v37 = .bool x37_6 ∧ Aside0 (laws_FnExactParse.j0 kq l0 t574 t576 t583 x37_6 t570 t571 t579 t580 = some r) ∧ Aside0 (kq ≤ k) ∧ Aside0 (Kd.R (Kd.int .u8) 5 wc w.heap.size (fun _ => True) (.slice Ao15 t576.length co15) t576) ∧ Aside0 (Kd.R k81 81 wc w.heap.size (fun k_ => some k_ ≠ ((.slice Ao20 t580.length co20) : Value).ownBlock) (.slice Ao13 t571.length co13) t571) ∧ Aside0 (Kd.R k81 81 wc w.heap.size (fun k_ => some k_ ≠ ((.slice Ao13 t571.length co13) : Value).ownBlock) (.slice Ao20 t580.length co20) t580) ∧ Aside0 (wc.heap[gb575]? = some (.cells #[.string t570, (.slice Ao13 t571.length co13)] 49 (0, 0))) ∧ Aside0 (wc.heap[gb584]? = some (.cells #[.string t579, (.slice Ao20 t580.length co20)] 49 (0, 0))) ∧ Aside0 (Below w.heap.size w wc))
  case first =>
   have H := HC7.out
   clear HC7
   replace H := Option.bind_eq_some_iff.mp H
   obtain ⟨t585, A210, H⟩ := H
   replace H : (if t585 = true then (laws_FnExactParse.j0 k l0 t574 t576 t583 (t583 != t574) t570 t571 t579 t580) else (laws_FnExactParse.j0 k l0 t574 t576 t583 true t570 t571 t579 t580)) = some r := H
   have A21 := Aside0.mk A210
   clear A210
   by_cases c22 : t585 = true
   ·subst c22
    have H1 : (laws_FnExactParse.j0 k l0 t574 t576 t583 (t583 != t574) t570 t571 t579 t580) = some r := by rw [if_pos rfl] at H; exact H
    clear H
    have H := H1
    clear H1
    have H' := Aside0.mk H
    clear H
    have hnb23 := NB584_575.out
    have hnc23 := NB575_584.out
    have hcz24_0 : w17.cell? ⟨gb584, 0, none⟩ = some (.string (⟨#[]⟩ : ByteArray)) := (blk_cell BK584.out 0).trans rfl
    have hcz24_1 : w17.cell? ⟨gb584, 1, none⟩ = some (.slice none 0 0) := (blk_cell BK584.out 1).trans rfl
    have hfz24_0 := blk_frozen BK584.out 0
    have hfz24_1 := blk_frozen BK584.out 1
    have hcz25_0 : w17.cell? ⟨gb575, 0, none⟩ = some (.string t570) := (blk_cell BK575.out 0).trans rfl
    have hcz25_1 : w17.cell? ⟨gb575, 1, none⟩ = some (.slice Ao13 t571.length co13) := (blk_cell BK575.out 1).trans rfl
    have hfz25_0 := blk_frozen BK575.out 0
    have hfz25_1 := blk_frozen BK575.out 1
    go_wp2_with (first | ((with_reducible refine gate_callee (f := 41) rfl ?_); refine goesL_ (some 31) rfl rfl Tryd.func41 (by kernel_rfl) rfl #[.agg #[.string t579, .slice Ao20 t580.length co20], .agg #[.string t570, .slice Ao13 t571.length co13]] rfl (by (try simp only [List.map_toArray, List.map_cons, List.map_nil]); first | done | rfl | (simp only [List.length_drop, List.length_take]; rfl)) ?_; (with_reducible refine (laws_eqMsg.calls k t579 _ _ t580 t570 _ _ t571 true _ ?side1 ?side2 ?side3 ?side4 A21.out).mono ?_); (case side1 => refine (Kd.R_reads' (e := 81) (base := w.heap.size) (ok := fun k_ => (True ∧ some k_ ≠ (.slice Ao13 t571.length co13 : Value).ownBlock)) (n := t580.length) (c := co20) ?_).2.2; exact (by (with_reducible repeat (first | apply Kd.R_alloc | apply Kd.R_drewN | apply Kd.R_drew)); exact (Kd.R_mono (Kd.R_far (p := ⟨gb584, 1, none⟩) (Kd.R_far (p := ⟨gb584, 0, none⟩) (Kd.R_types HO582.out BK584.out (by decide)) (fun _ hk => hk.2) (.string t579)) (fun _ hk => hk.2) (.slice Ao20 t580.length co20)) (fun _ h_ => h_.1)))); (case side2 => exact (Kd.R_reads' HO582.out).2.1); (case side3 => refine (Kd.R_reads' (e := 81) (base := w.heap.size) (ok := fun k_ => (True ∧ some k_ ≠ (.slice Ao20 t580.length co20 : Value).ownBlock)) (n := t571.length) (c := co13) ?_).2.2; exact (by (with_reducible repeat (first | apply Kd.R_alloc | apply Kd.R_drewN | apply Kd.R_drew)); exact (Kd.R_mono (Kd.R_far (p := ⟨gb584, 1, none⟩) (Kd.R_far (p := ⟨gb584, 0, none⟩) (Kd.R_types HO573.out BK584.out (by decide)) (fun _ hk => hk.2) (.string t579)) (fun _ hk => hk.2) (.slice Ao20 t580.length co20)) (fun _ h_ => h_.1)))); (case side4 => exact (Kd.R_reads' HO573.out).2.1); rintro e w26 ⟨rfl, hb⟩; refine ⟨_, rfl, ?_⟩; have n0_ := Aside0.mk (Kd.R_below (by (with_reducible repeat (first | apply Kd.R_alloc | apply Kd.R_drewN | apply Kd.R_drew)); exact (Kd.R_mono (Kd.R_far (p := ⟨gb584, 1, none⟩) (Kd.R_far (p := ⟨gb584, 0, none⟩) (Kd.R_types HO569.out BK584.out (by decide)) (fun _ hk => hk.2) (.string t579)) (fun _ hk => hk.2) (.slice Ao20 t580.length co20)) (fun _ h_ => h_.1))) hb); have n1_ := Aside0.mk (Kd.R_below (by (with_reducible repeat (first | apply Kd.R_alloc | apply Kd.R_drewN | apply Kd.R_drew)); exact (Kd.R_mono (Kd.R_far (p := ⟨gb584, 1, none⟩) (Kd.R_far (p := ⟨gb584, 0, none⟩) (Kd.R_types HO573.out BK584.out (by decide)) (fun _ hk => hk.2) (.string t579)) (fun _ hk => hk.2) (.slice Ao20 t580.length co20)) (fun _ h_ => h_.1))) hb); have n2_ := Aside0.mk (Kd.R_below (by (with_reducible repeat (first | apply Kd.R_alloc | apply Kd.R_drewN | apply Kd.R_drew)); exact (Kd.R_mono (Kd.R_far (p := ⟨gb584, 1, none⟩) (Kd.R_far (p := ⟨gb584, 0, none⟩) (Kd.R_types HO578.out BK584.out (by decide)) (fun _ hk => hk.2) (.string t579)) (fun _ hk => hk.2) (.slice Ao20 t580.length co20)) (fun _ h_ => h_.1))) hb); have n3_ := Aside0.mk (Kd.R_below (by (with_reducible repeat (first | apply Kd.R_alloc | apply Kd.R_drewN | apply Kd.R_drew)); exact (Kd.R_mono (Kd.R_far (p := ⟨gb584, 1, none⟩) (Kd.R_far (p := ⟨gb584, 0, none⟩) (Kd.R_types HO582.out BK584.out (by decide)) (fun _ hk => hk.2) (.string t579)) (fun _ hk => hk.2) (.slice Ao20 t580.length co20)) (fun _ h_ => h_.1))) hb); have n4_ := Aside0.mk (blk_below (g := gb575) (o := .cells #[.string t570, .slice Ao13 t571.length co13] 49 (0, 0)) (by (with_reducible repeat (first | refine blk_drewN ?_ _ | refine blk_drew ?_ | refine blk_alloc ?_ _)); refine blk_far ?_ NB575_584.out _; (with_reducible repeat (first | refine blk_drewN ?_ _ | refine blk_drew ?_ | refine blk_alloc ?_ _)); refine blk_far ?_ NB575_584.out _; (with_reducible repeat (first | refine blk_drewN ?_ _ | refine blk_drew ?_ | refine blk_alloc ?_ _)); exact BK575.out) hb); have n5_ := Aside0.mk (blk_below (g := gb584) (o := .cells #[.string t579, .slice Ao20 t580.length co20] 49 (0, 0)) (by (with_reducible repeat (first | refine blk_drewN ?_ _ | refine blk_drew ?_ | refine blk_alloc ?_ _)); refine blk_put (cs := #[.string t579, .slice none 0 0]) ?_ 1 _ rfl; (with_reducible repeat (first | refine blk_drewN ?_ _ | refine blk_drew ?_ | refine blk_alloc ?_ _)); refine blk_put (cs := #[.string (⟨#[]⟩ : ByteArray), .slice none 0 0]) ?_ 0 _ rfl; (with_reducible repeat (first | refine blk_drewN ?_ _ | refine blk_drew ?_ | refine blk_alloc ?_ _)); exact BK584.out) hb); have n6_ := Aside0.mk (below_step (by repeat (first | (with_reducible first | exact HB.out | apply below_alloc | apply pw_below_drewN | apply below_drew1 | refine below_set ?_ GE575.out | refine below_set ?_ GE584.out) | exact HB.out)) hb); clear HO569; clear HO573; clear HO578; clear HO582; clear BK575; clear BK584; clear HB; have HO569 := n0_; have HO573 := n1_; have HO578 := n2_; have HO582 := n3_; have BK575 := n4_; have BK584 := n5_; have HB := n6_; clear n0_ n1_ n2_ n3_ n4_ n5_ n6_; (try clear hb); (try clear hb2); (try clear hk); (try clear hi)))
    go_meet
    case rel => exact ⟨_, ((t583 != t574)), (by first | rfl | (simp; done) | (simp [*]; done) | (simp [i64_w, IntKind.wrap_u8, e256_]; done) | (simp; generalize ByteArray.toList _ = zz_; cases zz_ <;> rfl)), H', ⟨by first | omega | exact Nat.le_refl _⟩, ⟨by (with_reducible repeat (first | apply Kd.R_alloc | apply Kd.R_drewN | apply Kd.R_drew)); exact Kd.R_mono HO578.out (fun _ hk => trivial)⟩, ⟨by (with_reducible repeat (first | apply Kd.R_alloc | apply Kd.R_drewN | apply Kd.R_drew)); exact Kd.R_mono HO573.out (fun _ hk => hk.2)⟩, ⟨by (with_reducible repeat (first | apply Kd.R_alloc | apply Kd.R_drewN | apply Kd.R_drew)); exact Kd.R_mono HO582.out (fun _ hk => hk.2)⟩, ⟨by (with_reducible repeat (first | refine blk_drewN ?_ _ | refine blk_drew ?_ | refine blk_alloc ?_ _)); exact BK575.out⟩, ⟨by (with_reducible repeat (first | refine blk_drewN ?_ _ | refine blk_drew ?_ | refine blk_alloc ?_ _)); exact BK584.out⟩, ⟨by repeat (first | (with_reducible first | exact HB.out | apply below_alloc | apply pw_below_drewN | apply below_drew1 | refine below_set ?_ GE575.out | refine below_set ?_ GE584.out) | exact HB.out)⟩⟩
   ·replace c22 := Bool.eq_false_iff.mpr c22
    subst c22
    have H1 : (laws_FnExactParse.j0 k l0 t574 t576 t583 true t570 t571 t579 t580) = some r := by rw [if_neg (show ¬ (false = true) by decide)] at H; exact H
    clear H
    have H := H1
    clear H1
    have H' := Aside0.mk H
    clear H
    have hnb27 := NB584_575.out
    have hnc27 := NB575_584.out
    have hcz28_0 : w17.cell? ⟨gb584, 0, none⟩ = some (.string (⟨#[]⟩ : ByteArray)) := (blk_cell BK584.out 0).trans rfl
    have hcz28_1 : w17.cell? ⟨gb584, 1, none⟩ = some (.slice none 0 0) := (blk_cell BK584.out 1).trans rfl
    have hfz28_0 := blk_frozen BK584.out 0
    have hfz28_1 := blk_frozen BK584.out 1
    have hcz29_0 : w17.cell? ⟨gb575, 0, none⟩ = some (.string t570) := (blk_cell BK575.out 0).trans rfl
    have hcz29_1 : w17.cell? ⟨gb575, 1, none⟩ = some (.slice Ao13 t571.length co13) := (blk_cell BK575.out 1).trans rfl
    have hfz29_0 := blk_frozen BK575.out 0
    have hfz29_1 := blk_frozen BK575.out 1
    go_wp2_with (first | ((with_reducible refine gate_callee (f := 41) rfl ?_); refine goesL_ (some 31) rfl rfl Tryd.func41 (by kernel_rfl) rfl #[.agg #[.string t579, .slice Ao20 t580.length co20], .agg #[.string t570, .slice Ao13 t571.length co13]] rfl (by (try simp only [List.map_toArray, List.map_cons, List.map_nil]); first | done | rfl | (simp only [List.length_drop, List.length_take]; rfl)) ?_; (with_reducible refine (laws_eqMsg.calls k t579 _ _ t580 t570 _ _ t571 false _ ?side1 ?side2 ?side3 ?side4 A21.out).mono ?_); (case side1 => refine (Kd.R_reads' (e := 81) (base := w.heap.size) (ok := fun k_ => (True ∧ some k_ ≠ (.slice Ao13 t571.length co13 : Value).ownBlock)) (n := t580.length) (c := co20) ?_).2.2; exact (by (with_reducible repeat (first | apply Kd.R_alloc | apply Kd.R_drewN | apply Kd.R_drew)); exact (Kd.R_mono (Kd.R_far (p := ⟨gb584, 1, none⟩) (Kd.R_far (p := ⟨gb584, 0, none⟩) (Kd.R_types HO582.out BK584.out (by decide)) (fun _ hk => hk.2) (.string t579)) (fun _ hk => hk.2) (.slice Ao20 t580.length co20)) (fun _ h_ => h_.1)))); (case side2 => exact (Kd.R_reads' HO582.out).2.1); (case side3 => refine (Kd.R_reads' (e := 81) (base := w.heap.size) (ok := fun k_ => (True ∧ some k_ ≠ (.slice Ao20 t580.length co20 : Value).ownBlock)) (n := t571.length) (c := co13) ?_).2.2; exact (by (with_reducible repeat (first | apply Kd.R_alloc | apply Kd.R_drewN | apply Kd.R_drew)); exact (Kd.R_mono (Kd.R_far (p := ⟨gb584, 1, none⟩) (Kd.R_far (p := ⟨gb584, 0, none⟩) (Kd.R_types HO573.out BK584.out (by decide)) (fun _ hk => hk.2) (.string t579)) (fun _ hk => hk.2) (.slice Ao20 t580.length co20)) (fun _ h_ => h_.1)))); (case side4 => exact (Kd.R_reads' HO573.out).2.1); rintro e w30 ⟨rfl, hb⟩; refine ⟨_, rfl, ?_⟩; have n0_ := Aside0.mk (Kd.R_below (by (with_reducible repeat (first | apply Kd.R_alloc | apply Kd.R_drewN | apply Kd.R_drew)); exact (Kd.R_mono (Kd.R_far (p := ⟨gb584, 1, none⟩) (Kd.R_far (p := ⟨gb584, 0, none⟩) (Kd.R_types HO569.out BK584.out (by decide)) (fun _ hk => hk.2) (.string t579)) (fun _ hk => hk.2) (.slice Ao20 t580.length co20)) (fun _ h_ => h_.1))) hb); have n1_ := Aside0.mk (Kd.R_below (by (with_reducible repeat (first | apply Kd.R_alloc | apply Kd.R_drewN | apply Kd.R_drew)); exact (Kd.R_mono (Kd.R_far (p := ⟨gb584, 1, none⟩) (Kd.R_far (p := ⟨gb584, 0, none⟩) (Kd.R_types HO573.out BK584.out (by decide)) (fun _ hk => hk.2) (.string t579)) (fun _ hk => hk.2) (.slice Ao20 t580.length co20)) (fun _ h_ => h_.1))) hb); have n2_ := Aside0.mk (Kd.R_below (by (with_reducible repeat (first | apply Kd.R_alloc | apply Kd.R_drewN | apply Kd.R_drew)); exact (Kd.R_mono (Kd.R_far (p := ⟨gb584, 1, none⟩) (Kd.R_far (p := ⟨gb584, 0, none⟩) (Kd.R_types HO578.out BK584.out (by decide)) (fun _ hk => hk.2) (.string t579)) (fun _ hk => hk.2) (.slice Ao20 t580.length co20)) (fun _ h_ => h_.1))) hb); have n3_ := Aside0.mk (Kd.R_below (by (with_reducible repeat (first | apply Kd.R_alloc | apply Kd.R_drewN | apply Kd.R_drew)); exact (Kd.R_mono (Kd.R_far (p := ⟨gb584, 1, none⟩) (Kd.R_far (p := ⟨gb584, 0, none⟩) (Kd.R_types HO582.out BK584.out (by decide)) (fun _ hk => hk.2) (.string t579)) (fun _ hk => hk.2) (.slice Ao20 t580.length co20)) (fun _ h_ => h_.1))) hb); have n4_ := Aside0.mk (blk_below (g := gb575) (o := .cells #[.string t570, .slice Ao13 t571.length co13] 49 (0, 0)) (by (with_reducible repeat (first | refine blk_drewN ?_ _ | refine blk_drew ?_ | refine blk_alloc ?_ _)); refine blk_far ?_ NB575_584.out _; (with_reducible repeat (first | refine blk_drewN ?_ _ | refine blk_drew ?_ | refine blk_alloc ?_ _)); refine blk_far ?_ NB575_584.out _; (with_reducible repeat (first | refine blk_drewN ?_ _ | refine blk_drew ?_ | refine blk_alloc ?_ _)); exact BK575.out) hb); have n5_ := Aside0.mk (blk_below (g := gb584) (o := .cells #[.string t579, .slice Ao20 t580.length co20] 49 (0, 0)) (by (with_reducible repeat (first | refine blk_drewN ?_ _ | refine blk_drew ?_ | refine blk_alloc ?_ _)); refine blk_put (cs := #[.string t579, .slice none 0 0]) ?_ 1 _ rfl; (with_reducible repeat (first | refine blk_drewN ?_ _ | refine blk_drew ?_ | refine blk_alloc ?_ _)); refine blk_put (cs := #[.string (⟨#[]⟩ : ByteArray), .slice none 0 0]) ?_ 0 _ rfl; (with_reducible repeat (first | refine blk_drewN ?_ _ | refine blk_drew ?_ | refine blk_alloc ?_ _)); exact BK584.out) hb); have n6_ := Aside0.mk (below_step (by repeat (first | (with_reducible first | exact HB.out | apply below_alloc | apply pw_below_drewN | apply below_drew1 | refine below_set ?_ GE575.out | refine below_set ?_ GE584.out) | exact HB.out)) hb); clear HO569; clear HO573; clear HO578; clear HO582; clear BK575; clear BK584; clear HB; have HO569 := n0_; have HO573 := n1_; have HO578 := n2_; have HO582 := n3_; have BK575 := n4_; have BK584 := n5_; have HB := n6_; clear n0_ n1_ n2_ n3_ n4_ n5_ n6_; (try clear hb); (try clear hb2); (try clear hk); (try clear hi)))
    go_meet
    case rel => exact ⟨_, (true), (by first | rfl | (simp; done) | (simp [*]; done) | (simp [i64_w, IntKind.wrap_u8, e256_]; done) | (simp; generalize ByteArray.toList _ = zz_; cases zz_ <;> rfl)), H', ⟨by first | omega | exact Nat.le_refl _⟩, ⟨by (with_reducible repeat (first | apply Kd.R_alloc | apply Kd.R_drewN | apply Kd.R_drew)); exact Kd.R_mono HO578.out (fun _ hk => trivial)⟩, ⟨by (with_reducible repeat (first | apply Kd.R_alloc | apply Kd.R_drewN | apply Kd.R_drew)); exact Kd.R_mono HO573.out (fun _ hk => hk.2)⟩, ⟨by (with_reducible repeat (first | apply Kd.R_alloc | apply Kd.R_drewN | apply Kd.R_drew)); exact Kd.R_mono HO582.out (fun _ hk => hk.2)⟩, ⟨by (with_reducible repeat (first | refine blk_drewN ?_ _ | refine blk_drew ?_ | refine blk_alloc ?_ _)); exact BK575.out⟩, ⟨by (with_reducible repeat (first | refine blk_drewN ?_ _ | refine blk_drew ?_ | refine blk_alloc ?_ _)); exact BK584.out⟩, ⟨by repeat (first | (with_reducible first | exact HB.out | apply below_alloc | apply pw_below_drewN | apply below_drew1 | refine below_set ?_ GE575.out | refine below_set ?_ GE584.out) | exact HB.out)⟩⟩
  case rest =>
   clear HC7
   try clear c1
   try clear c2
   try clear c2b0
   try clear c2b1
   try clear p2
   try clear c3
   try clear c4
   try clear p6
   try clear c12
   try clear c18
   try clear c22
   try clear c23
   try clear c27
   try clear hcz12_0
   try clear hcz12_1
   try clear hcz19_0
   try clear hcz19_1
   try clear hcz24_0
   try clear hcz24_1
   try clear hcz25_0
   try clear hcz25_1
   try clear hcz28_0
   try clear hcz28_1
   try clear hcz29_0
   try clear hcz29_1
   try clear hfz12_0
   try clear hfz12_1
   try clear hfz19_0
   try clear hfz19_1
   try clear hfz24_0
   try clear hfz24_1
   try clear hfz25_0
   try clear hfz25_1
   try clear hfz28_0
   try clear hfz28_1
   try clear hfz29_0
   try clear hfz29_1
   obtain ⟨kq, x37_6, rfl, HA, HJ6, HO_5, HO_576001, HO_585001, BK575, BK584, HB⟩ := hcut
   cases kq with
   | zero => exact absurd HA.out (by simp [laws_FnExactParse.j0])
   | succ kj6 =>
    have H := HA.out
    clear HA
    simp only [laws_FnExactParse.j0] at H
    by_cases c31 : x37_6 = true
    ·subst c31
     have H1 : (some false) = some r := by rw [if_pos rfl] at H; exact H
     clear H
     have H := H1
     clear H1
     obtain rfl := Option.some.inj H
     exact absurd hr_ (by simp)
    ·replace c31 := Bool.eq_false_iff.mpr c31
     subst c31
     have H1 : ((laws_toByteS.f kj6 l0).bind fun t586 => ((laws_eqByteS.f kj6 t576 t586).bind fun t589 => (if t589 = true then ((laws_markByteS.f kj6 t576 1).bind fun bt590 => (if bt590.1 < 0 then (laws_FnExactParse.j1 kj6 l0 t574 true t570 t571 t579 t580) else ((laws_eqMsg.f kj6 t579 t580 t570 t571).bind fun t592 => (if t592 = true then (laws_FnExactParse.j1 kj6 l0 t574 (t583 != t574) t570 t571 t579 t580) else (laws_FnExactParse.j1 kj6 l0 t574 true t570 t571 t579 t580))))) else (some false)))) = some r := by rw [if_neg (show ¬ (false = true) by decide)] at H; exact H
     clear H
     have H := H1
     clear H1
     replace H := Option.bind_eq_some_iff.mp H
     obtain ⟨t586, A320, H⟩ := H
     replace H : ((laws_eqByteS.f kj6 t576 t586).bind fun t589 => (if t589 = true then ((laws_markByteS.f kj6 t576 1).bind fun bt590 => (if bt590.1 < 0 then (laws_FnExactParse.j1 kj6 l0 t574 true t570 t571 t579 t580) else ((laws_eqMsg.f kj6 t579 t580 t570 t571).bind fun t592 => (if t592 = true then (laws_FnExactParse.j1 kj6 l0 t574 (t583 != t574) t570 t571 t579 t580) else (laws_FnExactParse.j1 kj6 l0 t574 true t570 t571 t579 t580))))) else (some false))) = some r := H
     have A32 := Aside0.mk A320
     clear A320
     replace H := Option.bind_eq_some_iff.mp H
     obtain ⟨t589, A330, H⟩ := H
     replace H : (if t589 = true then ((laws_markByteS.f kj6 t576 1).bind fun bt590 => (if bt590.1 < 0 then (laws_FnExactParse.j1 kj6 l0 t574 true t570 t571 t579 t580) else ((laws_eqMsg.f kj6 t579 t580 t570 t571).bind fun t592 => (if t592 = true then (laws_FnExactParse.j1 kj6 l0 t574 (t583 != t574) t570 t571 t579 t580) else (laws_FnExactParse.j1 kj6 l0 t574 true t570 t571 t579 t580))))) else (some false)) = some r := H
     have A33 := Aside0.mk A330
     clear A330
     by_cases c34 : t589 = true
     ·subst c34
      have H1 : ((laws_markByteS.f kj6 t576 1).bind fun bt590 => (if bt590.1 < 0 then (laws_FnExactParse.j1 kj6 l0 t574 true t570 t571 t579 t580) else ((laws_eqMsg.f kj6 t579 t580 t570 t571).bind fun t592 => (if t592 = true then (laws_FnExactParse.j1 kj6 l0 t574 (t583 != t574) t570 t571 t579 t580) else (laws_FnExactParse.j1 kj6 l0 t574 true t570 t571 t579 t580))))) = some r := by rw [if_pos rfl] at H; exact H
      clear H
      have H := H1
      clear H1
      replace H := Option.bind_eq_some_iff.mp H
      obtain ⟨⟨t590, t591⟩, A350, H⟩ := H
      replace H : (if t590 < 0 then (laws_FnExactParse.j1 kj6 l0 t574 true t570 t571 t579 t580) else ((laws_eqMsg.f kj6 t579 t580 t570 t571).bind fun t592 => (if t592 = true then (laws_FnExactParse.j1 kj6 l0 t574 (t583 != t574) t570 t571 t579 t580) else (laws_FnExactParse.j1 kj6 l0 t574 true t570 t571 t579 t580)))) = some r := H
      have A35 := Aside0.mk A350
      clear A350
      have HC36 := Aside0.mk H
      clear H
      go_upto_region 12 with (first | ((with_reducible refine gate_callee (f := 31) rfl ?_); refine goesL_ (some 40) rfl rfl Tryd.func31 (by kernel_rfl) rfl #[.slice A0 l0.length c0] rfl (by (try simp only [List.map_toArray, List.map_cons, List.map_nil]); first | done | rfl | (simp only [List.length_drop, List.length_take]; rfl)) ?_; (with_reducible refine (laws_toByteS.calls kj6 _ _ l0 t586 _ ?side1 ?side2 A32.out).mono ?_); (case side1 => repeat (first | exact (Kd.C_below HR0.out HB.out) | (with_reducible refine Kd.C_alloc ?_ _) | (with_reducible refine Kd.C_drewN ?_ _) | (with_reducible refine Kd.C_drew ?_))); (case side2 => exact HC0.out); rintro e w37 ⟨v587, rfl, ho0, hb⟩; refine ⟨_, rfl, ?_⟩; have n0_ := Aside0.mk (Kd.R_elder' (by (with_reducible repeat (first | apply Kd.R_alloc | apply Kd.R_drewN | apply Kd.R_drew)); exact HO_5.out) (Kd.R_base ho0) hb); have n1_ := Aside0.mk (Kd.R_below (by (with_reducible repeat (first | apply Kd.R_alloc | apply Kd.R_drewN | apply Kd.R_drew)); exact HO_576001.out) hb); have n2_ := Aside0.mk (Kd.R_below (by (with_reducible repeat (first | apply Kd.R_alloc | apply Kd.R_drewN | apply Kd.R_drew)); exact HO_585001.out) hb); have n3_ := Aside0.mk (Kd.R_lower (Kd.R_new' ho0 (Kd.R_lt (by (with_reducible repeat (first | apply Kd.R_alloc | apply Kd.R_drewN | apply Kd.R_drew)); exact HO_5.out))) (below_size (by repeat (first | (with_reducible first | exact HB.out | apply below_alloc | apply pw_below_drewN | apply below_drew1 | refine below_set ?_ GE575.out | refine below_set ?_ GE584.out) | exact HB.out)))); have n4_ := Aside0.mk (blk_below (g := gb575) (o := .cells #[.string t570, .slice Ao13 t571.length co13] 49 (0, 0)) (by (with_reducible repeat (first | refine blk_drewN ?_ _ | refine blk_drew ?_ | refine blk_alloc ?_ _)); exact BK575.out) hb); have n5_ := Aside0.mk (blk_below (g := gb584) (o := .cells #[.string t579, .slice Ao20 t580.length co20] 49 (0, 0)) (by (with_reducible repeat (first | refine blk_drewN ?_ _ | refine blk_drew ?_ | refine blk_alloc ?_ _)); exact BK584.out) hb); have n6_ := Aside0.mk (below_step (by repeat (first | (with_reducible first | exact HB.out | apply below_alloc | apply pw_below_drewN | apply below_drew1 | refine below_set ?_ GE575.out | refine below_set ?_ GE584.out) | exact HB.out)) hb); clear HO_5; clear HO_576001; clear HO_585001; clear BK575; clear BK584; clear HB; have HO_5 := n0_; have HO_576001 := n1_; have HO_585001 := n2_; have HO588 := n3_; have BK575 := n4_; have BK584 := n5_; have HB := n6_; clear n0_ n1_ n2_ n3_ n4_ n5_ n6_; (try clear hb); (try clear hb2); (try clear hk); (try clear hi); (try clear ho0); obtain ⟨Ao38, co38, eo38⟩ := Kd.R_slice HO588.out; subst eo38) | ((with_reducible refine gate_callee (f := 27) rfl ?_); refine goesL_ (some 41) rfl rfl Tryd.func27 (by kernel_rfl) rfl #[.slice Ao15 t576.length co15, .slice Ao38 t586.length co38] rfl (by (try simp only [List.map_toArray, List.map_cons, List.map_nil]); first | done | rfl | (simp only [List.length_drop, List.length_take]; rfl)) ?_; (with_reducible refine (laws_eqByteS.calls kj6 _ _ t576 _ _ t586 true _ ?side1 ?side2 ?side3 ?side4 A33.out).mono ?_); (case side1 => repeat (first | exact (Kd.R_reads' HO_5.out).2.2 | (with_reducible refine Kd.C_alloc ?_ _) | (with_reducible refine Kd.C_drewN ?_ _) | (with_reducible refine Kd.C_drew ?_))); (case side2 => exact (Kd.R_reads' HO_5.out).2.1); (case side3 => repeat (first | exact (Kd.R_reads' HO588.out).2.2 | (with_reducible refine Kd.C_alloc ?_ _) | (with_reducible refine Kd.C_drewN ?_ _) | (with_reducible refine Kd.C_drew ?_))); (case side4 => exact (Kd.R_reads' HO588.out).2.1); rintro e w' ⟨rfl, ⟨nd, rfl⟩⟩; refine ⟨_, rfl, ?_⟩) | ((with_reducible refine gate_callee (f := 28) rfl ?_); refine goesL_ (some 45) rfl rfl Tryd.func28 (by kernel_rfl) rfl #[.slice Ao15 t576.length co15, .int .i64 1] rfl (by (try simp only [List.map_toArray, List.map_cons, List.map_nil]); first | done | rfl | (simp only [List.length_drop, List.length_take]; rfl)) ?_; (with_reducible refine (laws_markByteS.calls kj6 (fun k_ => some k_ = (.slice Ao15 t576.length co15 : Value).ownBlock) (.slice Ao15 t576.length co15) t576 1 t590 t591 w _ ?side1 ?side2 A35.out).mono ?_); (case side1 => repeat (first | (with_reducible first | exact HB.out | apply below_alloc | apply pw_below_drewN | apply below_drew1 | refine below_set ?_ GE575.out | refine below_set ?_ GE584.out) | exact HB.out)); (case side2 => exact Kd.R_tight rfl HO_5.out); rintro e w39 ⟨rfl, hy0, hb, hkp⟩; refine ⟨_, rfl, ?_⟩; have n0_ := Aside0.mk (Kd.R_reok rfl hy0 (fun k_ e_ => HO_5.out.1 k_ e_)); have n1_ := Aside0.mk (Kd.R_mono (ok' := fun k_ => some k_ ≠ (.slice Ao20 t580.length co20 : Value).ownBlock) (Kd.R_keptB ((Kd.R_apart' HO_576001.out (Kd.R_typed HO_5.out) (by decide))) hkp (fun k_ hk_ hs_ => (hk_.2) hs_)) (fun k_ hk_ => hk_.1.1)); have n2_ := Aside0.mk (Kd.R_mono (ok' := fun k_ => some k_ ≠ (.slice Ao13 t571.length co13 : Value).ownBlock) (Kd.R_keptB ((Kd.R_apart' HO_585001.out (Kd.R_typed HO_5.out) (by decide))) hkp (fun k_ hk_ hs_ => (hk_.2) hs_)) (fun k_ hk_ => hk_.1.1)); have n3_ := Aside0.mk (blk_kept (by (with_reducible repeat (first | refine blk_drewN ?_ _ | refine blk_drew ?_ | refine blk_alloc ?_ _)); exact BK575.out) hkp (fun hs_ => (fun e_ => (Kd.R_ne HO_5.out BK575.out (by decide)) e_) hs_)); have n4_ := Aside0.mk (blk_kept (by (with_reducible repeat (first | refine blk_drewN ?_ _ | refine blk_drew ?_ | refine blk_alloc ?_ _)); exact BK584.out) hkp (fun hs_ => (fun e_ => (Kd.R_ne HO_5.out BK584.out (by decide)) e_) hs_)); have n5_ := Aside0.mk (Kd.R_mono (ok' := fun k_ => some k_ ≠ (.slice Ao15 t576.length co15 : Value).ownBlock) (Kd.R_keptB (HO588.out) hkp (fun k_ hk_ hs_ => (hk_.2) hs_)) (fun k_ hk_ => hk_.1.2)); have n6_ := Aside0.mk (hb); clear HO_5; clear HO_576001; clear HO_585001; clear BK575; clear BK584; clear HO588; clear HB; have HO_5 := n0_; have HO_576001 := n1_; have HO_585001 := n2_; have BK575 := n3_; have BK584 := n4_; have HO588 := n5_; have HB := n6_; clear n0_ n1_ n2_ n3_ n4_ n5_ n6_; (try clear hb); (try clear hkp); (try clear hy0)))
      (try simp only [Act.put, List.setIfInBounds_toArray, List.set_cons_zero, List.set_cons_succ])
      go_cut [58] (fun v58 wc => ∃ (kq : Nat) (x58_35 : Bool), v58 = .bool x58_35 ∧ Aside0 (laws_FnExactParse.j1 kq l0 t574 x58_35 t570 t571 t579 t580 = some r) ∧ Aside0 (kq ≤ kj6) ∧ Aside0 (Kd.R k81 81 wc w.heap.size (fun k_ => some k_ ≠ ((.slice Ao20 t580.length co20) : Value).ownBlock) (.slice Ao13 t571.length co13) t571) ∧ Aside0 (Kd.R k81 81 wc w.heap.size (fun k_ => some k_ ≠ ((.slice Ao13 t571.length co13) : Value).ownBlock) (.slice Ao20 t580.length co20) t580) ∧ Aside0 (wc.heap[gb575]? = some (.cells #[.string t570, (.slice Ao13 t571.length co13)] 49 (0, 0))) ∧ Aside0 (wc.heap[gb584]? = some (.cells #[.string t579, (.slice Ao20 t580.length co20)] 49 (0, 0))) ∧ Aside0 (Below w.heap.size w wc))
      case first =>
       have H := HC36.out
       clear HC36
       by_cases c40 : t590 < 0
       ·rw [if_pos c40] at H
        have c40b0 : decide (t590 < 0) = true := decide_eq_true c40
        clear c40
        (first | rw [c40b0] | (simp only [i64_w, i32_w]; rw [c40b0]) | skip)
        have H' := Aside0.mk H
        clear H
        go_wp2
        go_meet
        case rel => exact ⟨_, (true), (by first | rfl | (simp; done) | (simp [*]; done) | (simp [i64_w, IntKind.wrap_u8, e256_]; done) | (simp; generalize ByteArray.toList _ = zz_; cases zz_ <;> rfl)), H', ⟨by have := HJ6.out; first | omega | exact Nat.le_refl _⟩, ⟨by (with_reducible repeat (first | apply Kd.R_alloc | apply Kd.R_drewN | apply Kd.R_drew)); exact HO_576001.out⟩, ⟨by (with_reducible repeat (first | apply Kd.R_alloc | apply Kd.R_drewN | apply Kd.R_drew)); exact HO_585001.out⟩, ⟨by (with_reducible repeat (first | refine blk_drewN ?_ _ | refine blk_drew ?_ | refine blk_alloc ?_ _)); exact BK575.out⟩, ⟨by (with_reducible repeat (first | refine blk_drewN ?_ _ | refine blk_drew ?_ | refine blk_alloc ?_ _)); exact BK584.out⟩, ⟨by repeat (first | (with_reducible first | exact HB.out | apply below_alloc | apply pw_below_drewN | apply below_drew1 | refine below_set ?_ GE575.out | refine below_set ?_ GE584.out) | exact HB.out)⟩⟩
       ·rw [if_neg c40] at H
        have c40b0 : decide (t590 < 0) = false := decide_eq_false c40
        clear c40
        (first | rw [c40b0] | (simp only [i64_w, i32_w]; rw [c40b0]) | skip)
        replace H := Option.bind_eq_some_iff.mp H
        obtain ⟨t592, A410, H⟩ := H
        replace H : (if t592 = true then (laws_FnExactParse.j1 kj6 l0 t574 (t583 != t574) t570 t571 t579 t580) else (laws_FnExactParse.j1 kj6 l0 t574 true t570 t571 t579 t580)) = some r := H
        have A41 := Aside0.mk A410
        clear A410
        by_cases c42 : t592 = true
        ·subst c42
         have H1 : (laws_FnExactParse.j1 kj6 l0 t574 (t583 != t574) t570 t571 t579 t580) = some r := by rw [if_pos rfl] at H; exact H
         clear H
         have H := H1
         clear H1
         have H' := Aside0.mk H
         clear H
         have hnb43 := NB584_575.out
         have hnc43 := NB575_584.out
         have hcz44_0 : w39.cell? ⟨gb584, 0, none⟩ = some (.string t579) := (blk_cell BK584.out 0).trans rfl
         have hcz44_1 : w39.cell? ⟨gb584, 1, none⟩ = some (.slice Ao20 t580.length co20) := (blk_cell BK584.out 1).trans rfl
         have hfz44_0 := blk_frozen BK584.out 0
         have hfz44_1 := blk_frozen BK584.out 1
         have hcz45_0 : w39.cell? ⟨gb575, 0, none⟩ = some (.string t570) := (blk_cell BK575.out 0).trans rfl
         have hcz45_1 : w39.cell? ⟨gb575, 1, none⟩ = some (.slice Ao13 t571.length co13) := (blk_cell BK575.out 1).trans rfl
         have hfz45_0 := blk_frozen BK575.out 0
         have hfz45_1 := blk_frozen BK575.out 1
         go_wp2_with (first | (go_at_call 41; (with_reducible refine (laws_eqMsg.calls kj6 t579 _ _ t580 t570 _ _ t571 true _ ?side1 ?side2 ?side3 ?side4 A41.out).mono ?_); (case side1 => repeat (first | exact (Kd.R_reads' HO_585001.out).2.2 | (with_reducible refine Kd.C_alloc ?_ _) | (with_reducible refine Kd.C_drewN ?_ _) | (with_reducible refine Kd.C_drew ?_))); (case side2 => exact (Kd.R_reads' HO_585001.out).2.1); (case side3 => repeat (first | exact (Kd.R_reads' HO_576001.out).2.2 | (with_reducible refine Kd.C_alloc ?_ _) | (with_reducible refine Kd.C_drewN ?_ _) | (with_reducible refine Kd.C_drew ?_))); (case side4 => exact (Kd.R_reads' HO_576001.out).2.1); rintro e w46 ⟨rfl, hb⟩; have n0_ := Aside0.mk (Kd.R_below (by (with_reducible repeat (first | apply Kd.R_alloc | apply Kd.R_drewN | apply Kd.R_drew)); exact HO_5.out) hb); have n1_ := Aside0.mk (Kd.R_below (by (with_reducible repeat (first | apply Kd.R_alloc | apply Kd.R_drewN | apply Kd.R_drew)); exact HO_576001.out) hb); have n2_ := Aside0.mk (Kd.R_below (by (with_reducible repeat (first | apply Kd.R_alloc | apply Kd.R_drewN | apply Kd.R_drew)); exact HO_585001.out) hb); have n3_ := Aside0.mk (Kd.R_below (by (with_reducible repeat (first | apply Kd.R_alloc | apply Kd.R_drewN | apply Kd.R_drew)); exact HO588.out) hb); have n4_ := Aside0.mk (blk_below (g := gb575) (o := .cells #[.string t570, .slice Ao13 t571.length co13] 49 (0, 0)) (by (with_reducible repeat (first | refine blk_drewN ?_ _ | refine blk_drew ?_ | refine blk_alloc ?_ _)); exact BK575.out) hb); have n5_ := Aside0.mk (blk_below (g := gb584) (o := .cells #[.string t579, .slice Ao20 t580.length co20] 49 (0, 0)) (by (with_reducible repeat (first | refine blk_drewN ?_ _ | refine blk_drew ?_ | refine blk_alloc ?_ _)); exact BK584.out) hb); have n6_ := Aside0.mk (below_step (by repeat (first | (with_reducible first | exact HB.out | apply below_alloc | apply pw_below_drewN | apply below_drew1 | refine below_set ?_ GE575.out | refine below_set ?_ GE584.out) | exact HB.out)) hb); clear HO_5; clear HO_576001; clear HO_585001; clear HO588; clear BK575; clear BK584; clear HB; have HO_5 := n0_; have HO_576001 := n1_; have HO_585001 := n2_; have HO588 := n3_; have BK575 := n4_; have BK584 := n5_; have HB := n6_; clear n0_ n1_ n2_ n3_ n4_ n5_ n6_; (try clear hb); (try clear hb2); (try clear hk); (try clear hi)))
         go_meet
         case rel => exact ⟨_, ((t583 != t574)), (by first | rfl | (simp; done) | (simp [*]; done) | (simp [i64_w, IntKind.wrap_u8, e256_]; done) | (simp; generalize ByteArray.toList _ = zz_; cases zz_ <;> rfl)), H', ⟨by have := HJ6.out; first | omega | exact Nat.le_refl _⟩, ⟨by (with_reducible repeat (first | apply Kd.R_alloc | apply Kd.R_drewN | apply Kd.R_drew)); exact HO_576001.out⟩, ⟨by (with_reducible repeat (first | apply Kd.R_alloc | apply Kd.R_drewN | apply Kd.R_drew)); exact HO_585001.out⟩, ⟨by (with_reducible repeat (first | refine blk_drewN ?_ _ | refine blk_drew ?_ | refine blk_alloc ?_ _)); exact BK575.out⟩, ⟨by (with_reducible repeat (first | refine blk_drewN ?_ _ | refine blk_drew ?_ | refine blk_alloc ?_ _)); exact BK584.out⟩, ⟨by repeat (first | (with_reducible first | exact HB.out | apply below_alloc | apply pw_below_drewN | apply below_drew1 | refine below_set ?_ GE575.out | refine below_set ?_ GE584.out) | exact HB.out)⟩⟩
        ·replace c42 := Bool.eq_false_iff.mpr c42
         subst c42
         have H1 : (laws_FnExactParse.j1 kj6 l0 t574 true t570 t571 t579 t580) = some r := by rw [if_neg (show ¬ (false = true) by decide)] at H; exact H
         clear H
         have H := H1
         clear H1
         have H' := Aside0.mk H
         clear H
         have hnb47 := NB584_575.out
         have hnc47 := NB575_584.out
         have hcz48_0 : w39.cell? ⟨gb584, 0, none⟩ = some (.string t579) := (blk_cell BK584.out 0).trans rfl
         have hcz48_1 : w39.cell? ⟨gb584, 1, none⟩ = some (.slice Ao20 t580.length co20) := (blk_cell BK584.out 1).trans rfl
         have hfz48_0 := blk_frozen BK584.out 0
         have hfz48_1 := blk_frozen BK584.out 1
         have hcz49_0 : w39.cell? ⟨gb575, 0, none⟩ = some (.string t570) := (blk_cell BK575.out 0).trans rfl
         have hcz49_1 : w39.cell? ⟨gb575, 1, none⟩ = some (.slice Ao13 t571.length co13) := (blk_cell BK575.out 1).trans rfl
         have hfz49_0 := blk_frozen BK575.out 0
         have hfz49_1 := blk_frozen BK575.out 1
         go_wp2_with (first | (go_at_call 41; (with_reducible refine (laws_eqMsg.calls kj6 t579 _ _ t580 t570 _ _ t571 false _ ?side1 ?side2 ?side3 ?side4 A41.out).mono ?_); (case side1 => repeat (first | exact (Kd.R_reads' HO_585001.out).2.2 | (with_reducible refine Kd.C_alloc ?_ _) | (with_reducible refine Kd.C_drewN ?_ _) | (with_reducible refine Kd.C_drew ?_))); (case side2 => exact (Kd.R_reads' HO_585001.out).2.1); (case side3 => repeat (first | exact (Kd.R_reads' HO_576001.out).2.2 | (with_reducible refine Kd.C_alloc ?_ _) | (with_reducible refine Kd.C_drewN ?_ _) | (with_reducible refine Kd.C_drew ?_))); (case side4 => exact (Kd.R_reads' HO_576001.out).2.1); rintro e w50 ⟨rfl, hb⟩; have n0_ := Aside0.mk (Kd.R_below (by (with_reducible repeat (first | apply Kd.R_alloc | apply Kd.R_drewN | apply Kd.R_drew)); exact HO_5.out) hb); have n1_ := Aside0.mk (Kd.R_below (by (with_reducible repeat (first | apply Kd.R_alloc | apply Kd.R_drewN | apply Kd.R_drew)); exact HO_576001.out) hb); have n2_ := Aside0.mk (Kd.R_below (by (with_reducible repeat (first | apply Kd.R_alloc | apply Kd.R_drewN | apply Kd.R_drew)); exact HO_585001.out) hb); have n3_ := Aside0.mk (Kd.R_below (by (with_reducible repeat (first | apply Kd.R_alloc | apply Kd.R_drewN | apply Kd.R_drew)); exact HO588.out) hb); have n4_ := Aside0.mk (blk_below (g := gb575) (o := .cells #[.string t570, .slice Ao13 t571.length co13] 49 (0, 0)) (by (with_reducible repeat (first | refine blk_drewN ?_ _ | refine blk_drew ?_ | refine blk_alloc ?_ _)); exact BK575.out) hb); have n5_ := Aside0.mk (blk_below (g := gb584) (o := .cells #[.string t579, .slice Ao20 t580.length co20] 49 (0, 0)) (by (with_reducible repeat (first | refine blk_drewN ?_ _ | refine blk_drew ?_ | refine blk_alloc ?_ _)); exact BK584.out) hb); have n6_ := Aside0.mk (below_step (by repeat (first | (with_reducible first | exact HB.out | apply below_alloc | apply pw_below_drewN | apply below_drew1 | refine below_set ?_ GE575.out | refine below_set ?_ GE584.out) | exact HB.out)) hb); clear HO_5; clear HO_576001; clear HO_585001; clear HO588; clear BK575; clear BK584; clear HB; have HO_5 := n0_; have HO_576001 := n1_; have HO_585001 := n2_; have HO588 := n3_; have BK575 := n4_; have BK584 := n5_; have HB := n6_; clear n0_ n1_ n2_ n3_ n4_ n5_ n6_; (try clear hb); (try clear hb2); (try clear hk); (try clear hi)))
         go_meet
         case rel => exact ⟨_, (true), (by first | rfl | (simp; done) | (simp [*]; done) | (simp [i64_w, IntKind.wrap_u8, e256_]; done) | (simp; generalize ByteArray.toList _ = zz_; cases zz_ <;> rfl)), H', ⟨by have := HJ6.out; first | omega | exact Nat.le_refl _⟩, ⟨by (with_reducible repeat (first | apply Kd.R_alloc | apply Kd.R_drewN | apply Kd.R_drew)); exact HO_576001.out⟩, ⟨by (with_reducible repeat (first | apply Kd.R_alloc | apply Kd.R_drewN | apply Kd.R_drew)); exact HO_585001.out⟩, ⟨by (with_reducible repeat (first | refine blk_drewN ?_ _ | refine blk_drew ?_ | refine blk_alloc ?_ _)); exact BK575.out⟩, ⟨by (with_reducible repeat (first | refine blk_drewN ?_ _ | refine blk_drew ?_ | refine blk_alloc ?_ _)); exact BK584.out⟩, ⟨by repeat (first | (with_reducible first | exact HB.out | apply below_alloc | apply pw_below_drewN | apply below_drew1 | refine below_set ?_ GE575.out | refine below_set ?_ GE584.out) | exact HB.out)⟩⟩
      case rest =>
       clear HC36
       try clear c1
       try clear c2
       try clear c2b0
       try clear c2b1
       try clear p2
       try clear c3
       try clear c4
       try clear p6
       try clear c12
       try clear c18
       try clear c22
       try clear c23
       try clear c27
       try clear c28
       try clear c31
       try clear c34
       try clear c40
       try clear c40b0
       try clear c41
       try clear c42
       try clear c43
       try clear c44
       try clear c47
       try clear hcz12_0
       try clear hcz12_1
       try clear hcz19_0
       try clear hcz19_1
       try clear hcz24_0
       try clear hcz24_1
       try clear hcz25_0
       try clear hcz25_1
       try clear hcz28_0
       try clear hcz28_1
       try clear hcz29_0
       try clear hcz29_1
       try clear hcz44_0
       try clear hcz44_1
       try clear hcz45_0
       try clear hcz45_1
       try clear hcz48_0
       try clear hcz48_1
       try clear hcz49_0
       try clear hcz49_1
       try clear hfz12_0
       try clear hfz12_1
       try clear hfz19_0
       try clear hfz19_1
       try clear hfz24_0
       try clear hfz24_1
       try clear hfz25_0
       try clear hfz25_1
       try clear hfz28_0
       try clear hfz28_1
       try clear hfz29_0
       try clear hfz29_1
       try clear hfz44_0
       try clear hfz44_1
       try clear hfz45_0
       try clear hfz45_1
       try clear hfz48_0
       try clear hfz48_1
       try clear hfz49_0
       try clear hfz49_1
       try clear p2
       try clear p6
       obtain ⟨kq, x58_35, rfl, HA, HJ35, HO_576001, HO_585001, BK575, BK584, HB⟩ := hcut
       cases kq with
       | zero => exact absurd HA.out (by simp [laws_FnExactParse.j1])
       | succ kj35 =>
        have H := HA.out
        clear HA
        simp only [laws_FnExactParse.j1] at H
        by_cases c51 : x58_35 = true
        ·subst c51
         have H1 : (some false) = some r := by rw [if_pos rfl] at H; exact H
         clear H
         have H := H1
         clear H1
         obtain rfl := Option.some.inj H
         exact absurd hr_ (by simp)
        ·replace c51 := Bool.eq_false_iff.mpr c51
         subst c51
         have H1 : ((laws_markMsg.f kj35 t579 t580 1).bind fun bt593 => ((laws_heldMsg.f kj35 t579 bt593.2 1).bind fun t595 => (if t595 < 0 then (some false) else (if t595 = bt593.1 then ((laws_toByteS.f kj35 l0).bind fun t596 => ((impl_Parse.f kj35 t596).bind fun bt599 => ((laws_eqMsg.f kj35 bt599.1 bt599.2.1 t570 t571).bind fun t605 => (if t605 = true then (laws_FnExactParse.j2 kj35 bt593.1 (bt599.2.2 != t574) t579 bt593.2) else (laws_FnExactParse.j2 kj35 bt593.1 true t579 bt593.2))))) else (some false))))) = some r := by rw [if_neg (show ¬ (false = true) by decide)] at H; exact H
         clear H
         have H := H1
         clear H1
         replace H := Option.bind_eq_some_iff.mp H
         obtain ⟨⟨t593, t594⟩, A520, H⟩ := H
         replace H : ((laws_heldMsg.f kj35 t579 t594 1).bind fun t595 => (if t595 < 0 then (some false) else (if t595 = t593 then ((laws_toByteS.f kj35 l0).bind fun t596 => ((impl_Parse.f kj35 t596).bind fun bt599 => ((laws_eqMsg.f kj35 bt599.1 bt599.2.1 t570 t571).bind fun t605 => (if t605 = true then (laws_FnExactParse.j2 kj35 t593 (bt599.2.2 != t574) t579 t594) else (laws_FnExactParse.j2 kj35 t593 true t579 t594))))) else (some false)))) = some r := H
         have A52 := Aside0.mk A520
         clear A520
         replace H := Option.bind_eq_some_iff.mp H
         obtain ⟨t595, A530, H⟩ := H
         replace H : (if t595 < 0 then (some false) else (if t595 = t593 then ((laws_toByteS.f kj35 l0).bind fun t596 => ((impl_Parse.f kj35 t596).bind fun bt599 => ((laws_eqMsg.f kj35 bt599.1 bt599.2.1 t570 t571).bind fun t605 => (if t605 = true then (laws_FnExactParse.j2 kj35 t593 (bt599.2.2 != t574) t579 t594) else (laws_FnExactParse.j2 kj35 t593 true t579 t594))))) else (some false))) = some r := H
         have A53 := Aside0.mk A530
         clear A530
         by_cases c54 : t595 < 0
         ·rw [if_pos c54] at H
          have c54b0 : decide (t595 < 0) = true := decide_eq_true c54
          clear c54
          obtain rfl := Option.some.inj H
          exact absurd hr_ (by simp)
         ·rw [if_neg c54] at H
          have c54b0 : decide (t595 < 0) = false := decide_eq_false c54
          clear c54
          by_cases c55 : t595 = t593
          ·rw [if_pos c55] at H
           have c55b0 : (t595 == t593) = true := beq_iff_eq.mpr c55
           have c55b1 : (t595 != t593) = false := bne_eq_false_iff_eq.mpr c55
           clear c55
           replace H := Option.bind_eq_some_iff.mp H
           obtain ⟨t596, A560, H⟩ := H
           replace H : ((impl_Parse.f kj35 t596).bind fun bt599 => ((laws_eqMsg.f kj35 bt599.1 bt599.2.1 t570 t571).bind fun t605 => (if t605 = true then (laws_FnExactParse.j2 kj35 t593 (bt599.2.2 != t574) t579 t594) else (laws_FnExactParse.j2 kj35 t593 true t579 t594)))) = some r := H
           have A56 := Aside0.mk A560
           clear A560
           replace H := Option.bind_eq_some_iff.mp H
           obtain ⟨⟨t599, t600, t603⟩, A570, H⟩ := H
           replace H : ((laws_eqMsg.f kj35 t599 t600 t570 t571).bind fun t605 => (if t605 = true then (laws_FnExactParse.j2 kj35 t593 (t603 != t574) t579 t594) else (laws_FnExactParse.j2 kj35 t593 true t579 t594))) = some r := H
           have A57 := Aside0.mk A570
           clear A570
           have HC58 := Aside0.mk H
           clear H
           have hnb59 := NB584_575.out
           have hnc59 := NB575_584.out
           have hcz60_0 : wc.cell? ⟨gb584, 0, none⟩ = some (.string t579) := (blk_cell BK584.out 0).trans rfl
           have hcz60_1 : wc.cell? ⟨gb584, 1, none⟩ = some (.slice Ao20 t580.length co20) := (blk_cell BK584.out 1).trans rfl
           have hfz60_0 := blk_frozen BK584.out 0
           have hfz60_1 := blk_frozen BK584.out 1
           go_upto_region 23 with (first | ((with_reducible refine gate_callee (f := 42) rfl ?_); refine goesL_ (some 61) rfl rfl Tryd.func42 (by kernel_rfl) rfl #[.agg #[.string t579, .slice Ao20 t580.length co20], .int .i64 1] rfl (by (try simp only [List.map_toArray, List.map_cons, List.map_nil]); first | done | rfl | (simp only [List.length_drop, List.length_take]; rfl)) ?_; (with_reducible refine (laws_markMsg.calls kj35 t579 (fun k_ => some k_ = (.slice Ao20 t580.length co20 : Value).ownBlock) (.slice Ao20 t580.length co20) t580 1 t593 t594 w _ ?side1 ?side2 A52.out).mono ?_); (case side1 => repeat (first | (with_reducible first | exact HB.out | apply below_alloc | apply pw_below_drewN | apply below_drew1 | refine below_set ?_ GE575.out | refine below_set ?_ GE584.out) | exact HB.out)); (case side2 => exact Kd.R_tight rfl HO_585001.out); rintro e w61 ⟨rfl, hy0, hb, hkp⟩; refine ⟨_, rfl, ?_⟩; have n0_ := Aside0.mk (Kd.R_mono (ok' := fun k_ => some k_ ≠ (.slice Ao20 t580.length co20 : Value).ownBlock) (Kd.R_keptB (HO_576001.out) hkp (fun k_ hk_ hs_ => (hk_) hs_)) (fun k_ hk_ => hk_.1)); have n1_ := Aside0.mk (Kd.R_reok rfl hy0 (fun k_ e_ => HO_585001.out.1 k_ e_)); have n2_ := Aside0.mk (blk_kept (by (with_reducible repeat (first | refine blk_drewN ?_ _ | refine blk_drew ?_ | refine blk_alloc ?_ _)); exact BK575.out) hkp (fun hs_ => (fun e_ => (Kd.R_ne HO_585001.out BK575.out (by decide)) e_) hs_)); have n3_ := Aside0.mk (blk_kept (by (with_reducible repeat (first | refine blk_drewN ?_ _ | refine blk_drew ?_ | refine blk_alloc ?_ _)); exact BK584.out) hkp (fun hs_ => (fun e_ => (Kd.R_ne HO_585001.out BK584.out (by decide)) e_) hs_)); have n4_ := Aside0.mk (hb); clear HO_576001; clear HO_585001; clear BK575; clear BK584; clear HB; have HO_576001 := n0_; have HO_585001 := n1_; have BK575 := n2_; have BK584 := n3_; have HB := n4_; clear n0_ n1_ n2_ n3_ n4_; (try clear hb); (try clear hkp); (try clear hy0); have hcz62_0 : w61.cell? ⟨gb584, 0, none⟩ = some (.string t579) := (blk_cell BK584.out 0).trans rfl; have hcz62_1 : w61.cell? ⟨gb584, 1, none⟩ = some (.slice Ao20 t580.length co20) := (blk_cell BK584.out 1).trans rfl; have hfz62_0 := blk_frozen BK584.out 0; have hfz62_1 := blk_frozen BK584.out 1) | ((with_reducible refine gate_callee (f := 45) rfl ?_); refine goesL_ (some 64) rfl rfl Tryd.func45 (by kernel_rfl) rfl #[.agg #[.string t579, .slice Ao20 t594.length co20], .int .i64 1] rfl (by (try simp only [List.map_toArray, List.map_cons, List.map_nil]); first | done | (rw [show t594.length = t580.length from (Kd.R_reads' HO_585001.out).1.symm] <;> rfl) | rfl | (simp only [List.length_drop, List.length_take]; rfl)) ?_; (with_reducible refine (laws_heldMsg.calls kj35 t579 _ _ t594 1 t595 _ ?side1 ?side2 A53.out).mono ?_); (case side1 => repeat (first | exact (Kd.R_reads' HO_585001.out).2.2 | (with_reducible refine Kd.C_alloc ?_ _) | (with_reducible refine Kd.C_drewN ?_ _) | (with_reducible refine Kd.C_drew ?_))); (case side2 => rw [show t594.length = t580.length from (Kd.R_reads' HO_585001.out).1.symm]; exact (Kd.R_reads' HO_585001.out).2.1); rintro e w63 ⟨rfl, hb⟩; refine ⟨_, rfl, ?_⟩; have n0_ := Aside0.mk (Kd.R_below (by (with_reducible repeat (first | apply Kd.R_alloc | apply Kd.R_drewN | apply Kd.R_drew)); exact HO_576001.out) hb); have n1_ := Aside0.mk (Kd.R_below (by (with_reducible repeat (first | apply Kd.R_alloc | apply Kd.R_drewN | apply Kd.R_drew)); exact HO_585001.out) hb); have n2_ := Aside0.mk (blk_below (g := gb575) (o := .cells #[.string t570, .slice Ao13 t571.length co13] 49 (0, 0)) (by (with_reducible repeat (first | refine blk_drewN ?_ _ | refine blk_drew ?_ | refine blk_alloc ?_ _)); exact BK575.out) hb); have n3_ := Aside0.mk (blk_below (g := gb584) (o := .cells #[.string t579, .slice Ao20 t580.length co20] 49 (0, 0)) (by (with_reducible repeat (first | refine blk_drewN ?_ _ | refine blk_drew ?_ | refine blk_alloc ?_ _)); exact BK584.out) hb); have n4_ := Aside0.mk (below_step (by repeat (first | (with_reducible first | exact HB.out | apply below_alloc | apply pw_below_drewN | apply below_drew1 | refine below_set ?_ GE575.out | refine below_set ?_ GE584.out) | exact HB.out)) hb); clear HO_576001; clear HO_585001; clear BK575; clear BK584; clear HB; have HO_576001 := n0_; have HO_585001 := n1_; have BK575 := n2_; have BK584 := n3_; have HB := n4_; clear n0_ n1_ n2_ n3_ n4_; (try clear hb); (try clear hb2); (try clear hk); (try clear hi)) | ((with_reducible refine gate_callee (f := 31) rfl ?_); refine goesL_ (some 72) rfl rfl Tryd.func31 (by kernel_rfl) rfl #[.slice A0 l0.length c0] rfl (by (try simp only [List.map_toArray, List.map_cons, List.map_nil]); first | done | rfl | (simp only [List.length_drop, List.length_take]; rfl)) ?_; (with_reducible refine (laws_toByteS.calls kj35 _ _ l0 t596 _ ?side1 ?side2 A56.out).mono ?_); (case side1 => repeat (first | exact (Kd.C_below HR0.out HB.out) | (with_reducible refine Kd.C_alloc ?_ _) | (with_reducible refine Kd.C_drewN ?_ _) | (with_reducible refine Kd.C_drew ?_))); (case side2 => exact HC0.out); rintro e w64 ⟨v597, rfl, ho0, hb⟩; refine ⟨_, rfl, ?_⟩; have n0_ := Aside0.mk (Kd.R_below (by (with_reducible repeat (first | apply Kd.R_alloc | apply Kd.R_drewN | apply Kd.R_drew)); exact HO_576001.out) hb); have n1_ := Aside0.mk (Kd.R_below (by (with_reducible repeat (first | apply Kd.R_alloc | apply Kd.R_drewN | apply Kd.R_drew)); exact HO_585001.out) hb); have n2_ := Aside0.mk (Kd.R_lower ho0 (below_size (by repeat (first | (with_reducible first | exact HB.out | apply below_alloc | apply pw_below_drewN | apply below_drew1 | refine below_set ?_ GE575.out | refine below_set ?_ GE584.out) | exact HB.out)))); have n3_ := Aside0.mk (blk_below (g := gb575) (o := .cells #[.string t570, .slice Ao13 t571.length co13] 49 (0, 0)) (by (with_reducible repeat (first | refine blk_drewN ?_ _ | refine blk_drew ?_ | refine blk_alloc ?_ _)); exact BK575.out) hb); have n4_ := Aside0.mk (blk_below (g := gb584) (o := .cells #[.string t579, .slice Ao20 t580.length co20] 49 (0, 0)) (by (with_reducible repeat (first | refine blk_drewN ?_ _ | refine blk_drew ?_ | refine blk_alloc ?_ _)); exact BK584.out) hb); have n5_ := Aside0.mk (below_step (by repeat (first | (with_reducible first | exact HB.out | apply below_alloc | apply pw_below_drewN | apply below_drew1 | refine below_set ?_ GE575.out | refine below_set ?_ GE584.out) | exact HB.out)) hb); clear HO_576001; clear HO_585001; clear BK575; clear BK584; clear HB; have HO_576001 := n0_; have HO_585001 := n1_; have HO598 := n2_; have BK575 := n3_; have BK584 := n4_; have HB := n5_; clear n0_ n1_ n2_ n3_ n4_ n5_; (try clear hb); (try clear hb2); (try clear hk); (try clear hi); (try clear ho0); obtain ⟨Ao65, co65, eo65⟩ := Kd.R_slice HO598.out; subst eo65) | ((with_reducible refine gate_callee (f := 44) rfl ?_); refine goesL_ (some 73) rfl rfl Tryd.func44 (by kernel_rfl) rfl #[.slice Ao65 t596.length co65] rfl (by (try simp only [List.map_toArray, List.map_cons, List.map_nil]); first | done | rfl | (simp only [List.length_drop, List.length_take]; rfl)) ?_; (with_reducible refine (impl_Parse.calls kj35 _ _ t596 t599 t600 t603 _ ?side1 ?side2 ?side3 A57.out).mono ?_); (case side1 => repeat (first | exact (Kd.R_reads' HO598.out).2.2 | (with_reducible refine Kd.C_alloc ?_ _) | (with_reducible refine Kd.C_drewN ?_ _) | (with_reducible refine Kd.C_drew ?_))); (case side2 => exact (Kd.R_reads' HO598.out).2.1); (case side3 => exact GLW_below HG.out (by repeat (first | (with_reducible first | exact HB.out | apply below_alloc | apply pw_below_drewN | apply below_drew1 | refine below_set ?_ GE575.out | refine below_set ?_ GE584.out) | exact HB.out))); rintro e w66 ⟨v601, rfl, ho0, hb⟩; refine ⟨_, rfl, ?_⟩; have n0_ := Aside0.mk (Kd.R_elder' (by (with_reducible repeat (first | apply Kd.R_alloc | apply Kd.R_drewN | apply Kd.R_drew)); exact HO_576001.out) (Kd.R_base ho0) hb); have n1_ := Aside0.mk (Kd.R_elder' (by (with_reducible repeat (first | apply Kd.R_alloc | apply Kd.R_drewN | apply Kd.R_drew)); exact HO_585001.out) (Kd.R_base ho0) hb); have n2_ := Aside0.mk (Kd.R_below (by (with_reducible repeat (first | apply Kd.R_alloc | apply Kd.R_drewN | apply Kd.R_drew)); exact HO598.out) hb); have n3_ := Aside0.mk (Kd.R_lower (Kd.R_new' (Kd.R_new' ho0 (Kd.R_lt (by (with_reducible repeat (first | apply Kd.R_alloc | apply Kd.R_drewN | apply Kd.R_drew)); exact HO_576001.out))) (Kd.R_lt (by (with_reducible repeat (first | apply Kd.R_alloc | apply Kd.R_drewN | apply Kd.R_drew)); exact HO_585001.out))) (below_size (by repeat (first | (with_reducible first | exact HB.out | apply below_alloc | apply pw_below_drewN | apply below_drew1 | refine below_set ?_ GE575.out | refine below_set ?_ GE584.out) | exact HB.out)))); have n4_ := Aside0.mk (blk_below (g := gb575) (o := .cells #[.string t570, .slice Ao13 t571.length co13] 49 (0, 0)) (by (with_reducible repeat (first | refine blk_drewN ?_ _ | refine blk_drew ?_ | refine blk_alloc ?_ _)); exact BK575.out) hb); have n5_ := Aside0.mk (blk_below (g := gb584) (o := .cells #[.string t579, .slice Ao20 t580.length co20] 49 (0, 0)) (by (with_reducible repeat (first | refine blk_drewN ?_ _ | refine blk_drew ?_ | refine blk_alloc ?_ _)); exact BK584.out) hb); have n6_ := Aside0.mk (below_step (by repeat (first | (with_reducible first | exact HB.out | apply below_alloc | apply pw_below_drewN | apply below_drew1 | refine below_set ?_ GE575.out | refine below_set ?_ GE584.out) | exact HB.out)) hb); clear HO_576001; clear HO_585001; clear HO598; clear BK575; clear BK584; clear HB; have HO_576001 := n0_; have HO_585001 := n1_; have HO598 := n2_; have HO602 := n3_; have BK575 := n4_; have BK584 := n5_; have HB := n6_; clear n0_ n1_ n2_ n3_ n4_ n5_ n6_; (try clear hb); (try clear hb2); (try clear hk); (try clear hi); (try clear ho0)) | ((with_reducible refine gate_dst (N := 11) rfl ?_); refine box_event ?hg (N := 11) ?hd (cs := #[.string (⟨#[]⟩ : ByteArray), .slice none 0 0]) (t := 49) ?hr ?_; (case hd => rfl); (case hg => rfl); (case hr => first | (go_simp; done) | (go_simp; rfl)); intro gb604 hg w67 hbox hb; have n0_ := Aside0.mk (Kd.R_below (by (with_reducible repeat (first | apply Kd.R_alloc | apply Kd.R_drewN | apply Kd.R_drew)); exact HO_576001.out) hb); have n1_ := Aside0.mk (Kd.R_below (by (with_reducible repeat (first | apply Kd.R_alloc | apply Kd.R_drewN | apply Kd.R_drew)); exact HO_585001.out) hb); have n2_ := Aside0.mk (Kd.R_below (by (with_reducible repeat (first | apply Kd.R_alloc | apply Kd.R_drewN | apply Kd.R_drew)); exact HO598.out) hb); have n3_ := Aside0.mk (Kd.R_below (by (with_reducible repeat (first | apply Kd.R_alloc | apply Kd.R_drewN | apply Kd.R_drew)); exact HO602.out) hb); have n4_ := Aside0.mk (blk_below (g := gb575) (o := .cells #[.string t570, .slice Ao13 t571.length co13] 49 (0, 0)) (by (with_reducible repeat (first | refine blk_drewN ?_ _ | refine blk_drew ?_ | refine blk_alloc ?_ _)); exact BK575.out) hb); have n5_ := Aside0.mk (blk_below (g := gb584) (o := .cells #[.string t579, .slice Ao20 t580.length co20] 49 (0, 0)) (by (with_reducible repeat (first | refine blk_drewN ?_ _ | refine blk_drew ?_ | refine blk_alloc ?_ _)); exact BK584.out) hb); have n6_ := Aside0.mk (below_step (by repeat (first | (with_reducible first | exact HB.out | apply below_alloc | apply pw_below_drewN | apply below_drew1 | refine below_set ?_ GE575.out | refine below_set ?_ GE584.out) | exact HB.out)) hb); have n7_ := Aside0.mk (hbox); have n8_ := Aside0.mk ((by rw [hg]; exact (below_size (by repeat (first | (with_reducible first | exact HB.out | apply below_alloc | apply pw_below_drewN | apply below_drew1 | refine below_set ?_ GE575.out | refine below_set ?_ GE584.out) | exact HB.out))) : w.heap.size ≤ gb604)); have n9_ := Aside0.mk ((by rw [hg]; exact (below_size (by repeat (first | (with_reducible first | exact HB.out | apply below_alloc | apply pw_below_drewN | apply below_drew1 | refine below_set ?_ GE575.out | refine below_set ?_ GE584.out) | exact HB.out))) : w.heap.size ≤ gb604)); have n10_ := Aside0.mk ((by rw [hg]; exact Nat.ne_of_lt (blk_lt (g := gb575) (o := .cells #[.string t570, .slice Ao13 t571.length co13] 49 (0, 0)) (by (with_reducible repeat (first | refine blk_drewN ?_ _ | refine blk_drew ?_ | refine blk_alloc ?_ _)); exact BK575.out)) : gb575 ≠ gb604)); have n11_ := Aside0.mk ((by rw [hg]; exact Nat.ne_of_gt (blk_lt (g := gb575) (o := .cells #[.string t570, .slice Ao13 t571.length co13] 49 (0, 0)) (by (with_reducible repeat (first | refine blk_drewN ?_ _ | refine blk_drew ?_ | refine blk_alloc ?_ _)); exact BK575.out)) : gb604 ≠ gb575)); have n12_ := Aside0.mk ((by rw [hg]; exact Nat.ne_of_lt (blk_lt (g := gb584) (o := .cells #[.string t579, .slice Ao20 t580.length co20] 49 (0, 0)) (by (with_reducible repeat (first | refine blk_drewN ?_ _ | refine blk_drew ?_ | refine blk_alloc ?_ _)); exact BK584.out)) : gb584 ≠ gb604)); have n13_ := Aside0.mk ((by rw [hg]; exact Nat.ne_of_gt (blk_lt (g := gb584) (o := .cells #[.string t579, .slice Ao20 t580.length co20] 49 (0, 0)) (by (with_reducible repeat (first | refine blk_drewN ?_ _ | refine blk_drew ?_ | refine blk_alloc ?_ _)); exact BK584.out)) : gb604 ≠ gb584)); clear HO_576001; clear HO_585001; clear HO598; clear HO602; clear BK575; clear BK584; clear HB; have HO_576001 := n0_; have HO_585001 := n1_; have HO598 := n2_; have HO602 := n3_; have BK575 := n4_; have BK584 := n5_; have HB := n6_; have BK604 := n7_; have GW604 := n8_; have GE604 := n9_; have NB575_604 := n10_; have NB604_575 := n11_; have NB584_604 := n12_; have NB604_584 := n13_; clear n0_ n1_ n2_ n3_ n4_ n5_ n6_ n7_ n8_ n9_ n10_ n11_ n12_ n13_; clear hb hbox hg; have hnb68 := NB604_575.out; have hnc68 := NB575_604.out; have hnb69 := NB604_584.out; have hnc69 := NB584_604.out; have hcz70_0 : w67.cell? ⟨gb604, 0, none⟩ = some (.string (⟨#[]⟩ : ByteArray)) := (blk_cell BK604.out 0).trans rfl; have hcz70_1 : w67.cell? ⟨gb604, 1, none⟩ = some (.slice none 0 0) := (blk_cell BK604.out 1).trans rfl; have hfz70_0 := blk_frozen BK604.out 0; have hfz70_1 := blk_frozen BK604.out 1; obtain ⟨Ao71, co71, eo71⟩ := Kd.R_slice HO602.out; subst eo71))
           (try simp only [Act.put, List.setIfInBounds_toArray, List.set_cons_zero, List.set_cons_succ])
           go_cut [84] (fun v84 wc => ∃ (kq : Nat) (x84_57 : Bool), v84 = .bool x84_57 ∧ Aside0 (laws_FnExactParse.j2 kq t593 x84_57 t579 t594 = some r) ∧ Aside0 (kq ≤ kj35) ∧ Aside0 (Kd.R k81 81 wc w.heap.size (fun k_ => some k_ ≠ ((.slice Ao20 t580.length co20) : Value).ownBlock ∧ some k_ ≠ ((.slice Ao71 t600.length co71) : Value).ownBlock) (.slice Ao13 t571.length co13) t571) ∧ Aside0 (Kd.R k81 81 wc w.heap.size (fun k_ => some k_ ≠ ((.slice Ao13 t571.length co13) : Value).ownBlock ∧ some k_ ≠ ((.slice Ao71 t600.length co71) : Value).ownBlock) (.slice Ao20 t580.length co20) t594) ∧ Aside0 (Kd.R k81 81 wc w.heap.size (fun k_ => some k_ ≠ ((.slice Ao13 t571.length co13) : Value).ownBlock ∧ some k_ ≠ ((.slice Ao20 t580.length co20) : Value).ownBlock) (.slice Ao71 t600.length co71) t600) ∧ Aside0 (wc.heap[gb575]? = some (.cells #[.string t570, (.slice Ao13 t571.length co13)] 49 (0, 0))) ∧ Aside0 (wc.heap[gb584]? = some (.cells #[.string t579, (.slice Ao20 t580.length co20)] 49 (0, 0))) ∧ Aside0 (wc.heap[gb604]? = some (.cells #[.string t599, (.slice Ao71 t600.length co71)] 49 (0, 0))) ∧ Aside0 (Below w.heap.size w wc))
           case first =>
            have H := HC58.out
            clear HC58
            replace H := Option.bind_eq_some_iff.mp H
            obtain ⟨t605, A720, H⟩ := H
            replace H : (if t605 = true then (laws_FnExactParse.j2 kj35 t593 (t603 != t574) t579 t594) else (laws_FnExactParse.j2 kj35 t593 true t579 t594)) = some r := H
            have A72 := Aside0.mk A720
            clear A720
            by_cases c73 : t605 = true
            ·subst c73
             have H1 : (laws_FnExactParse.j2 kj35 t593 (t603 != t574) t579 t594) = some r := by rw [if_pos rfl] at H; exact H
             clear H
             have H := H1
             clear H1
             have H' := Aside0.mk H
             clear H
             have hnb74 := NB604_575.out
             have hnc74 := NB575_604.out
             have hnb75 := NB604_584.out
             have hnc75 := NB584_604.out
             have hcz76_0 : w67.cell? ⟨gb604, 0, none⟩ = some (.string (⟨#[]⟩ : ByteArray)) := (blk_cell BK604.out 0).trans rfl
             have hcz76_1 : w67.cell? ⟨gb604, 1, none⟩ = some (.slice none 0 0) := (blk_cell BK604.out 1).trans rfl
             have hfz76_0 := blk_frozen BK604.out 0
             have hfz76_1 := blk_frozen BK604.out 1
             have hnb77 := NB575_584.out
             have hnc77 := NB584_575.out
             have hcz78_0 : w67.cell? ⟨gb575, 0, none⟩ = some (.string t570) := (blk_cell BK575.out 0).trans rfl
             have hcz78_1 : w67.cell? ⟨gb575, 1, none⟩ = some (.slice Ao13 t571.length co13) := (blk_cell BK575.out 1).trans rfl
             have hfz78_0 := blk_frozen BK575.out 0
             have hfz78_1 := blk_frozen BK575.out 1
             go_wp2_with (first | ((with_reducible refine gate_callee (f := 41) rfl ?_); refine goesL_ (some 78) rfl rfl Tryd.func41 (by kernel_rfl) rfl #[.agg #[.string t599, .slice Ao71 t600.length co71], .agg #[.string t570, .slice Ao13 t571.length co13]] rfl (by (try simp only [List.map_toArray, List.map_cons, List.map_nil]); first | done | rfl | (simp only [List.length_drop, List.length_take]; rfl)) ?_; (with_reducible refine (laws_eqMsg.calls kj35 t599 _ _ t600 t570 _ _ t571 true _ ?side1 ?side2 ?side3 ?side4 A72.out).mono ?_); (case side1 => refine (Kd.R_reads' (e := 81) (base := w.heap.size) (ok := fun k_ => ((True ∧ some k_ ≠ (.slice Ao13 t571.length co13 : Value).ownBlock) ∧ some k_ ≠ (.slice Ao20 t580.length co20 : Value).ownBlock)) (n := t600.length) (c := co71) ?_).2.2; exact (by (with_reducible repeat (first | apply Kd.R_alloc | apply Kd.R_drewN | apply Kd.R_drew)); exact (Kd.R_mono (Kd.R_far (p := ⟨gb604, 1, none⟩) (Kd.R_far (p := ⟨gb604, 0, none⟩) (Kd.R_types HO602.out BK604.out (by decide)) (fun _ hk => hk.2) (.string t599)) (fun _ hk => hk.2) (.slice Ao71 t600.length co71)) (fun _ h_ => h_.1)))); (case side2 => exact (Kd.R_reads' HO602.out).2.1); (case side3 => refine (Kd.R_reads' (e := 81) (base := w.heap.size) (ok := fun k_ => (some k_ ≠ (.slice Ao20 t580.length co20 : Value).ownBlock ∧ some k_ ≠ (.slice Ao71 t600.length co71 : Value).ownBlock)) (n := t571.length) (c := co13) ?_).2.2; exact (by (with_reducible repeat (first | apply Kd.R_alloc | apply Kd.R_drewN | apply Kd.R_drew)); exact (Kd.R_mono (Kd.R_far (p := ⟨gb604, 1, none⟩) (Kd.R_far (p := ⟨gb604, 0, none⟩) (Kd.R_types HO_576001.out BK604.out (by decide)) (fun _ hk => hk.2) (.string t599)) (fun _ hk => hk.2) (.slice Ao71 t600.length co71)) (fun _ h_ => h_.1)))); (case side4 => exact (Kd.R_reads' HO_576001.out).2.1); rintro e w79 ⟨rfl, hb⟩; refine ⟨_, rfl, ?_⟩; have n0_ := Aside0.mk (Kd.R_below (by (with_reducible repeat (first | apply Kd.R_alloc | apply Kd.R_drewN | apply Kd.R_drew)); exact (Kd.R_mono (Kd.R_far (p := ⟨gb604, 1, none⟩) (Kd.R_far (p := ⟨gb604, 0, none⟩) (Kd.R_types HO_576001.out BK604.out (by decide)) (fun _ hk => hk.2) (.string t599)) (fun _ hk => hk.2) (.slice Ao71 t600.length co71)) (fun _ h_ => h_.1))) hb); have n1_ := Aside0.mk (Kd.R_below (by (with_reducible repeat (first | apply Kd.R_alloc | apply Kd.R_drewN | apply Kd.R_drew)); exact (Kd.R_mono (Kd.R_far (p := ⟨gb604, 1, none⟩) (Kd.R_far (p := ⟨gb604, 0, none⟩) (Kd.R_types HO_585001.out BK604.out (by decide)) (fun _ hk => hk.2) (.string t599)) (fun _ hk => hk.2) (.slice Ao71 t600.length co71)) (fun _ h_ => h_.1))) hb); have n2_ := Aside0.mk (Kd.R_below (by (with_reducible repeat (first | apply Kd.R_alloc | apply Kd.R_drewN | apply Kd.R_drew)); exact (Kd.R_mono (Kd.R_far (p := ⟨gb604, 1, none⟩) (Kd.R_far (p := ⟨gb604, 0, none⟩) (Kd.R_types HO598.out BK604.out (by decide)) (fun _ hk => hk.2) (.string t599)) (fun _ hk => hk.2) (.slice Ao71 t600.length co71)) (fun _ h_ => h_.1))) hb); have n3_ := Aside0.mk (Kd.R_below (by (with_reducible repeat (first | apply Kd.R_alloc | apply Kd.R_drewN | apply Kd.R_drew)); exact (Kd.R_mono (Kd.R_far (p := ⟨gb604, 1, none⟩) (Kd.R_far (p := ⟨gb604, 0, none⟩) (Kd.R_types HO602.out BK604.out (by decide)) (fun _ hk => hk.2) (.string t599)) (fun _ hk => hk.2) (.slice Ao71 t600.length co71)) (fun _ h_ => h_.1))) hb); have n4_ := Aside0.mk (blk_below (g := gb575) (o := .cells #[.string t570, .slice Ao13 t571.length co13] 49 (0, 0)) (by (with_reducible repeat (first | refine blk_drewN ?_ _ | refine blk_drew ?_ | refine blk_alloc ?_ _)); refine blk_far ?_ NB575_604.out _; (with_reducible repeat (first | refine blk_drewN ?_ _ | refine blk_drew ?_ | refine blk_alloc ?_ _)); refine blk_far ?_ NB575_604.out _; (with_reducible repeat (first | refine blk_drewN ?_ _ | refine blk_drew ?_ | refine blk_alloc ?_ _)); exact BK575.out) hb); have n5_ := Aside0.mk (blk_below (g := gb584) (o := .cells #[.string t579, .slice Ao20 t580.length co20] 49 (0, 0)) (by (with_reducible repeat (first | refine blk_drewN ?_ _ | refine blk_drew ?_ | refine blk_alloc ?_ _)); refine blk_far ?_ NB584_604.out _; (with_reducible repeat (first | refine blk_drewN ?_ _ | refine blk_drew ?_ | refine blk_alloc ?_ _)); refine blk_far ?_ NB584_604.out _; (with_reducible repeat (first | refine blk_drewN ?_ _ | refine blk_drew ?_ | refine blk_alloc ?_ _)); exact BK584.out) hb); have n6_ := Aside0.mk (blk_below (g := gb604) (o := .cells #[.string t599, .slice Ao71 t600.length co71] 49 (0, 0)) (by (with_reducible repeat (first | refine blk_drewN ?_ _ | refine blk_drew ?_ | refine blk_alloc ?_ _)); refine blk_put (cs := #[.string t599, .slice none 0 0]) ?_ 1 _ rfl; (with_reducible repeat (first | refine blk_drewN ?_ _ | refine blk_drew ?_ | refine blk_alloc ?_ _)); refine blk_put (cs := #[.string (⟨#[]⟩ : ByteArray), .slice none 0 0]) ?_ 0 _ rfl; (with_reducible repeat (first | refine blk_drewN ?_ _ | refine blk_drew ?_ | refine blk_alloc ?_ _)); exact BK604.out) hb); have n7_ := Aside0.mk (below_step (by repeat (first | (with_reducible first | exact HB.out | apply below_alloc | apply pw_below_drewN | apply below_drew1 | refine below_set ?_ GE575.out | refine below_set ?_ GE584.out | refine below_set ?_ GE604.out) | exact HB.out)) hb); clear HO_576001; clear HO_585001; clear HO598; clear HO602; clear BK575; clear BK584; clear BK604; clear HB; have HO_576001 := n0_; have HO_585001 := n1_; have HO598 := n2_; have HO602 := n3_; have BK575 := n4_; have BK584 := n5_; have BK604 := n6_; have HB := n7_; clear n0_ n1_ n2_ n3_ n4_ n5_ n6_ n7_; (try clear hb); (try clear hb2); (try clear hk); (try clear hi)))
             go_meet
             case rel => exact ⟨_, ((t603 != t574)), (by first | rfl | (simp; done) | (simp [*]; done) | (simp [i64_w, IntKind.wrap_u8, e256_]; done) | (simp; generalize ByteArray.toList _ = zz_; cases zz_ <;> rfl)), H', ⟨by have := HJ6.out; have := HJ35.out; first | omega | exact Nat.le_refl _⟩, ⟨by (with_reducible repeat (first | apply Kd.R_alloc | apply Kd.R_drewN | apply Kd.R_drew)); exact HO_576001.out⟩, ⟨by (with_reducible repeat (first | apply Kd.R_alloc | apply Kd.R_drewN | apply Kd.R_drew)); exact HO_585001.out⟩, ⟨by (with_reducible repeat (first | apply Kd.R_alloc | apply Kd.R_drewN | apply Kd.R_drew)); exact Kd.R_mono HO602.out (fun _ hk => ⟨hk.1.2, hk.2⟩)⟩, ⟨by (with_reducible repeat (first | refine blk_drewN ?_ _ | refine blk_drew ?_ | refine blk_alloc ?_ _)); exact BK575.out⟩, ⟨by (with_reducible repeat (first | refine blk_drewN ?_ _ | refine blk_drew ?_ | refine blk_alloc ?_ _)); exact BK584.out⟩, ⟨by (with_reducible repeat (first | refine blk_drewN ?_ _ | refine blk_drew ?_ | refine blk_alloc ?_ _)); exact BK604.out⟩, ⟨by repeat (first | (with_reducible first | exact HB.out | apply below_alloc | apply pw_below_drewN | apply below_drew1 | refine below_set ?_ GE575.out | refine below_set ?_ GE584.out | refine below_set ?_ GE604.out) | exact HB.out)⟩⟩
            ·replace c73 := Bool.eq_false_iff.mpr c73
             subst c73
             have H1 : (laws_FnExactParse.j2 kj35 t593 true t579 t594) = some r := by rw [if_neg (show ¬ (false = true) by decide)] at H; exact H
             clear H
             have H := H1
             clear H1
             have H' := Aside0.mk H
             clear H
             have hnb80 := NB604_575.out
             have hnc80 := NB575_604.out
             have hnb81 := NB604_584.out
             have hnc81 := NB584_604.out
             have hcz82_0 : w67.cell? ⟨gb604, 0, none⟩ = some (.string (⟨#[]⟩ : ByteArray)) := (blk_cell BK604.out 0).trans rfl
             have hcz82_1 : w67.cell? ⟨gb604, 1, none⟩ = some (.slice none 0 0) := (blk_cell BK604.out 1).trans rfl
             have hfz82_0 := blk_frozen BK604.out 0
             have hfz82_1 := blk_frozen BK604.out 1
             have hnb83 := NB575_584.out
             have hnc83 := NB584_575.out
             have hcz84_0 : w67.cell? ⟨gb575, 0, none⟩ = some (.string t570) := (blk_cell BK575.out 0).trans rfl
             have hcz84_1 : w67.cell? ⟨gb575, 1, none⟩ = some (.slice Ao13 t571.length co13) := (blk_cell BK575.out 1).trans rfl
             have hfz84_0 := blk_frozen BK575.out 0
             have hfz84_1 := blk_frozen BK575.out 1
             go_wp2_with (first | ((with_reducible refine gate_callee (f := 41) rfl ?_); refine goesL_ (some 78) rfl rfl Tryd.func41 (by kernel_rfl) rfl #[.agg #[.string t599, .slice Ao71 t600.length co71], .agg #[.string t570, .slice Ao13 t571.length co13]] rfl (by (try simp only [List.map_toArray, List.map_cons, List.map_nil]); first | done | rfl | (simp only [List.length_drop, List.length_take]; rfl)) ?_; (with_reducible refine (laws_eqMsg.calls kj35 t599 _ _ t600 t570 _ _ t571 false _ ?side1 ?side2 ?side3 ?side4 A72.out).mono ?_); (case side1 => refine (Kd.R_reads' (e := 81) (base := w.heap.size) (ok := fun k_ => ((True ∧ some k_ ≠ (.slice Ao13 t571.length co13 : Value).ownBlock) ∧ some k_ ≠ (.slice Ao20 t580.length co20 : Value).ownBlock)) (n := t600.length) (c := co71) ?_).2.2; exact (by (with_reducible repeat (first | apply Kd.R_alloc | apply Kd.R_drewN | apply Kd.R_drew)); exact (Kd.R_mono (Kd.R_far (p := ⟨gb604, 1, none⟩) (Kd.R_far (p := ⟨gb604, 0, none⟩) (Kd.R_types HO602.out BK604.out (by decide)) (fun _ hk => hk.2) (.string t599)) (fun _ hk => hk.2) (.slice Ao71 t600.length co71)) (fun _ h_ => h_.1)))); (case side2 => exact (Kd.R_reads' HO602.out).2.1); (case side3 => refine (Kd.R_reads' (e := 81) (base := w.heap.size) (ok := fun k_ => (some k_ ≠ (.slice Ao20 t580.length co20 : Value).ownBlock ∧ some k_ ≠ (.slice Ao71 t600.length co71 : Value).ownBlock)) (n := t571.length) (c := co13) ?_).2.2; exact (by (with_reducible repeat (first | apply Kd.R_alloc | apply Kd.R_drewN | apply Kd.R_drew)); exact (Kd.R_mono (Kd.R_far (p := ⟨gb604, 1, none⟩) (Kd.R_far (p := ⟨gb604, 0, none⟩) (Kd.R_types HO_576001.out BK604.out (by decide)) (fun _ hk => hk.2) (.string t599)) (fun _ hk => hk.2) (.slice Ao71 t600.length co71)) (fun _ h_ => h_.1)))); (case side4 => exact (Kd.R_reads' HO_576001.out).2.1); rintro e w85 ⟨rfl, hb⟩; refine ⟨_, rfl, ?_⟩; have n0_ := Aside0.mk (Kd.R_below (by (with_reducible repeat (first | apply Kd.R_alloc | apply Kd.R_drewN | apply Kd.R_drew)); exact (Kd.R_mono (Kd.R_far (p := ⟨gb604, 1, none⟩) (Kd.R_far (p := ⟨gb604, 0, none⟩) (Kd.R_types HO_576001.out BK604.out (by decide)) (fun _ hk => hk.2) (.string t599)) (fun _ hk => hk.2) (.slice Ao71 t600.length co71)) (fun _ h_ => h_.1))) hb); have n1_ := Aside0.mk (Kd.R_below (by (with_reducible repeat (first | apply Kd.R_alloc | apply Kd.R_drewN | apply Kd.R_drew)); exact (Kd.R_mono (Kd.R_far (p := ⟨gb604, 1, none⟩) (Kd.R_far (p := ⟨gb604, 0, none⟩) (Kd.R_types HO_585001.out BK604.out (by decide)) (fun _ hk => hk.2) (.string t599)) (fun _ hk => hk.2) (.slice Ao71 t600.length co71)) (fun _ h_ => h_.1))) hb); have n2_ := Aside0.mk (Kd.R_below (by (with_reducible repeat (first | apply Kd.R_alloc | apply Kd.R_drewN | apply Kd.R_drew)); exact (Kd.R_mono (Kd.R_far (p := ⟨gb604, 1, none⟩) (Kd.R_far (p := ⟨gb604, 0, none⟩) (Kd.R_types HO598.out BK604.out (by decide)) (fun _ hk => hk.2) (.string t599)) (fun _ hk => hk.2) (.slice Ao71 t600.length co71)) (fun _ h_ => h_.1))) hb); have n3_ := Aside0.mk (Kd.R_below (by (with_reducible repeat (first | apply Kd.R_alloc | apply Kd.R_drewN | apply Kd.R_drew)); exact (Kd.R_mono (Kd.R_far (p := ⟨gb604, 1, none⟩) (Kd.R_far (p := ⟨gb604, 0, none⟩) (Kd.R_types HO602.out BK604.out (by decide)) (fun _ hk => hk.2) (.string t599)) (fun _ hk => hk.2) (.slice Ao71 t600.length co71)) (fun _ h_ => h_.1))) hb); have n4_ := Aside0.mk (blk_below (g := gb575) (o := .cells #[.string t570, .slice Ao13 t571.length co13] 49 (0, 0)) (by (with_reducible repeat (first | refine blk_drewN ?_ _ | refine blk_drew ?_ | refine blk_alloc ?_ _)); refine blk_far ?_ NB575_604.out _; (with_reducible repeat (first | refine blk_drewN ?_ _ | refine blk_drew ?_ | refine blk_alloc ?_ _)); refine blk_far ?_ NB575_604.out _; (with_reducible repeat (first | refine blk_drewN ?_ _ | refine blk_drew ?_ | refine blk_alloc ?_ _)); exact BK575.out) hb); have n5_ := Aside0.mk (blk_below (g := gb584) (o := .cells #[.string t579, .slice Ao20 t580.length co20] 49 (0, 0)) (by (with_reducible repeat (first | refine blk_drewN ?_ _ | refine blk_drew ?_ | refine blk_alloc ?_ _)); refine blk_far ?_ NB584_604.out _; (with_reducible repeat (first | refine blk_drewN ?_ _ | refine blk_drew ?_ | refine blk_alloc ?_ _)); refine blk_far ?_ NB584_604.out _; (with_reducible repeat (first | refine blk_drewN ?_ _ | refine blk_drew ?_ | refine blk_alloc ?_ _)); exact BK584.out) hb); have n6_ := Aside0.mk (blk_below (g := gb604) (o := .cells #[.string t599, .slice Ao71 t600.length co71] 49 (0, 0)) (by (with_reducible repeat (first | refine blk_drewN ?_ _ | refine blk_drew ?_ | refine blk_alloc ?_ _)); refine blk_put (cs := #[.string t599, .slice none 0 0]) ?_ 1 _ rfl; (with_reducible repeat (first | refine blk_drewN ?_ _ | refine blk_drew ?_ | refine blk_alloc ?_ _)); refine blk_put (cs := #[.string (⟨#[]⟩ : ByteArray), .slice none 0 0]) ?_ 0 _ rfl; (with_reducible repeat (first | refine blk_drewN ?_ _ | refine blk_drew ?_ | refine blk_alloc ?_ _)); exact BK604.out) hb); have n7_ := Aside0.mk (below_step (by repeat (first | (with_reducible first | exact HB.out | apply below_alloc | apply pw_below_drewN | apply below_drew1 | refine below_set ?_ GE575.out | refine below_set ?_ GE584.out | refine below_set ?_ GE604.out) | exact HB.out)) hb); clear HO_576001; clear HO_585001; clear HO598; clear HO602; clear BK575; clear BK584; clear BK604; clear HB; have HO_576001 := n0_; have HO_585001 := n1_; have HO598 := n2_; have HO602 := n3_; have BK575 := n4_; have BK584 := n5_; have BK604 := n6_; have HB := n7_; clear n0_ n1_ n2_ n3_ n4_ n5_ n6_ n7_; (try clear hb); (try clear hb2); (try clear hk); (try clear hi)))
             go_meet
             case rel => exact ⟨_, (true), (by first | rfl | (simp; done) | (simp [*]; done) | (simp [i64_w, IntKind.wrap_u8, e256_]; done) | (simp; generalize ByteArray.toList _ = zz_; cases zz_ <;> rfl)), H', ⟨by have := HJ6.out; have := HJ35.out; first | omega | exact Nat.le_refl _⟩, ⟨by (with_reducible repeat (first | apply Kd.R_alloc | apply Kd.R_drewN | apply Kd.R_drew)); exact HO_576001.out⟩, ⟨by (with_reducible repeat (first | apply Kd.R_alloc | apply Kd.R_drewN | apply Kd.R_drew)); exact HO_585001.out⟩, ⟨by (with_reducible repeat (first | apply Kd.R_alloc | apply Kd.R_drewN | apply Kd.R_drew)); exact Kd.R_mono HO602.out (fun _ hk => ⟨hk.1.2, hk.2⟩)⟩, ⟨by (with_reducible repeat (first | refine blk_drewN ?_ _ | refine blk_drew ?_ | refine blk_alloc ?_ _)); exact BK575.out⟩, ⟨by (with_reducible repeat (first | refine blk_drewN ?_ _ | refine blk_drew ?_ | refine blk_alloc ?_ _)); exact BK584.out⟩, ⟨by (with_reducible repeat (first | refine blk_drewN ?_ _ | refine blk_drew ?_ | refine blk_alloc ?_ _)); exact BK604.out⟩, ⟨by repeat (first | (with_reducible first | exact HB.out | apply below_alloc | apply pw_below_drewN | apply below_drew1 | refine below_set ?_ GE575.out | refine below_set ?_ GE584.out | refine below_set ?_ GE604.out) | exact HB.out)⟩⟩
           case rest =>
            clear HC58
            try clear c1
            try clear c2
            try clear c2b0
            try clear c2b1
            try clear p2
            try clear c3
            try clear c4
            try clear c5
            try clear c6
            try clear p6
            try clear c7
            try clear c8
            try clear c12
            try clear c18
            try clear c22
            try clear c23
            try clear c27
            try clear c28
            try clear c31
            try clear c34
            try clear c40
            try clear c40b0
            try clear c41
            try clear c42
            try clear c43
            try clear c44
            try clear c45
            try clear c47
            try clear c51
            try clear c54
            try clear c54b0
            try clear c55
            try clear c55b0
            try clear c55b1
            try clear c59
            try clear p64
            try clear c68
            try clear c69
            try clear c73
            try clear c74
            try clear c75
            try clear c77
            try clear c80
            try clear c81
            try clear c83
            try clear hcz12_0
            try clear hcz12_1
            try clear hcz19_0
            try clear hcz19_1
            try clear hcz24_0
            try clear hcz24_1
            try clear hcz25_0
            try clear hcz25_1
            try clear hcz28_0
            try clear hcz28_1
            try clear hcz29_0
            try clear hcz29_1
            try clear hcz44_0
            try clear hcz44_1
            try clear hcz45_0
            try clear hcz45_1
            try clear hcz48_0
            try clear hcz48_1
            try clear hcz49_0
            try clear hcz49_1
            try clear hcz60_0
            try clear hcz60_1
            try clear hcz62_0
            try clear hcz62_1
            try clear hcz70_0
            try clear hcz70_1
            try clear hcz76_0
            try clear hcz76_1
            try clear hcz78_0
            try clear hcz78_1
            try clear hcz82_0
            try clear hcz82_1
            try clear hcz84_0
            try clear hcz84_1
            try clear hfz12_0
            try clear hfz12_1
            try clear hfz19_0
            try clear hfz19_1
            try clear hfz24_0
            try clear hfz24_1
            try clear hfz25_0
            try clear hfz25_1
            try clear hfz28_0
            try clear hfz28_1
            try clear hfz29_0
            try clear hfz29_1
            try clear hfz44_0
            try clear hfz44_1
            try clear hfz45_0
            try clear hfz45_1
            try clear hfz48_0
            try clear hfz48_1
            try clear hfz49_0
            try clear hfz49_1
            try clear hfz60_0
            try clear hfz60_1
            try clear hfz62_0
            try clear hfz62_1
            try clear hfz70_0
            try clear hfz70_1
            try clear hfz76_0
            try clear hfz76_1
            try clear hfz78_0
            try clear hfz78_1
            try clear hfz82_0
            try clear hfz82_1
            try clear hfz84_0
            try clear hfz84_1
            try clear p2
            try clear p6
            obtain ⟨kq, x84_57, rfl, HA, HJ57, HO_576001, HO_585001, HO_605001, BK575, BK584, BK604, HB⟩ := hcut
            have hl585001_57 := (Kd.R_reads' HO_585001.out).1
            rw [hl585001_57] at HO_585001
            (try simp only [hl585001_57])
            (try simp only [hl585001_57] at BK575)
            (try simp only [hl585001_57] at BK584)
            (try simp only [hl585001_57] at BK604)
            (try simp only [hl585001_57] at HO_576001)
            (try simp only [hl585001_57] at HO_605001)
            cases kq with
            | zero => exact absurd HA.out (by simp [laws_FnExactParse.j2])
            | succ kj57 =>
             have H := HA.out
             clear HA
             simp only [laws_FnExactParse.j2] at H
             by_cases c86 : x84_57 = true
             ·subst c86
              have H1 : (some false) = some r := by rw [if_pos rfl] at H; exact H
              clear H
              have H := H1
              clear H1
              obtain rfl := Option.some.inj H
              exact absurd hr_ (by simp)
             ·replace c86 := Bool.eq_false_iff.mpr c86
              subst c86
              have H1 : ((laws_heldMsg.f kj57 t579 t594 1).bind fun t606 => (if t606 < 0 then (some false) else (if t606 = t593 then (some true) else (some false)))) = some r := by rw [if_neg (show ¬ (false = true) by decide)] at H; exact H
              clear H
              have H := H1
              clear H1
              replace H := Option.bind_eq_some_iff.mp H
              obtain ⟨t606, A870, H⟩ := H
              replace H : (if t606 < 0 then (some false) else (if t606 = t593 then (some true) else (some false))) = some r := H
              have A87 := Aside0.mk A870
              clear A870
              by_cases c88 : t606 < 0
              ·rw [if_pos c88] at H
               have c88b0 : decide (t606 < 0) = true := decide_eq_true c88
               clear c88
               obtain rfl := Option.some.inj H
               exact absurd hr_ (by simp)
              ·rw [if_neg c88] at H
               have c88b0 : decide (t606 < 0) = false := decide_eq_false c88
               clear c88
               by_cases c89 : t606 = t593
               ·rw [if_pos c89] at H
                have c89b0 : (t606 == t593) = true := beq_iff_eq.mpr c89
                have c89b1 : (t606 != t593) = false := bne_eq_false_iff_eq.mpr c89
                clear c89
                obtain rfl := Option.some.inj H
                have hnb90 := NB584_575.out
                have hnc90 := NB575_584.out
                have hnb91 := NB584_604.out
                have hnc91 := NB604_584.out
                have hcz92_0 : wc.cell? ⟨gb584, 0, none⟩ = some (.string t579) := (blk_cell BK584.out 0).trans rfl
                have hcz92_1 : wc.cell? ⟨gb584, 1, none⟩ = some (.slice Ao20 t594.length co20) := (blk_cell BK584.out 1).trans rfl
                have hfz92_0 := blk_frozen BK584.out 0
                have hfz92_1 := blk_frozen BK584.out 1
                go_wp2_with (first | ((with_reducible refine gate_callee (f := 45) rfl ?_); refine goesL_ (some 87) rfl rfl Tryd.func45 (by kernel_rfl) rfl #[.agg #[.string t579, .slice Ao20 t594.length co20], .int .i64 1] rfl (by (try simp only [List.map_toArray, List.map_cons, List.map_nil]); first | done | rfl | (simp only [List.length_drop, List.length_take]; rfl)) ?_; (with_reducible refine (laws_heldMsg.calls kj57 t579 _ _ t594 1 t606 _ ?side1 ?side2 A87.out).mono ?_); (case side1 => repeat (first | exact (Kd.R_reads' HO_585001.out).2.2 | (with_reducible refine Kd.C_alloc ?_ _) | (with_reducible refine Kd.C_drewN ?_ _) | (with_reducible refine Kd.C_drew ?_))); (case side2 => exact (Kd.R_reads' HO_585001.out).2.1); rintro e w93 ⟨rfl, hb⟩; refine ⟨_, rfl, ?_⟩; have n0_ := Aside0.mk (Kd.R_below (by (with_reducible repeat (first | apply Kd.R_alloc | apply Kd.R_drewN | apply Kd.R_drew)); exact HO_576001.out) hb); have n1_ := Aside0.mk (Kd.R_below (by (with_reducible repeat (first | apply Kd.R_alloc | apply Kd.R_drewN | apply Kd.R_drew)); exact HO_585001.out) hb); have n2_ := Aside0.mk (Kd.R_below (by (with_reducible repeat (first | apply Kd.R_alloc | apply Kd.R_drewN | apply Kd.R_drew)); exact HO_605001.out) hb); have n3_ := Aside0.mk (blk_below (g := gb575) (o := .cells #[.string t570, .slice Ao13 t571.length co13] 49 (0, 0)) (by (with_reducible repeat (first | refine blk_drewN ?_ _ | refine blk_drew ?_ | refine blk_alloc ?_ _)); exact BK575.out) hb); have n4_ := Aside0.mk (blk_below (g := gb584) (o := .cells #[.string t579, .slice Ao20 t594.length co20] 49 (0, 0)) (by (with_reducible repeat (first | refine blk_drewN ?_ _ | refine blk_drew ?_ | refine blk_alloc ?_ _)); exact BK584.out) hb); have n5_ := Aside0.mk (blk_below (g := gb604) (o := .cells #[.string t599, .slice Ao71 t600.length co71] 49 (0, 0)) (by (with_reducible repeat (first | refine blk_drewN ?_ _ | refine blk_drew ?_ | refine blk_alloc ?_ _)); exact BK604.out) hb); have n6_ := Aside0.mk (below_step (by repeat (first | (with_reducible first | exact HB.out | apply below_alloc | apply pw_below_drewN | apply below_drew1 | refine below_set ?_ GE575.out | refine below_set ?_ GE584.out | refine below_set ?_ GE604.out) | exact HB.out)) hb); clear HO_576001; clear HO_585001; clear HO_605001; clear BK575; clear BK584; clear BK604; clear HB; have HO_576001 := n0_; have HO_585001 := n1_; have HO_605001 := n2_; have BK575 := n3_; have BK584 := n4_; have BK604 := n5_; have HB := n6_; clear n0_ n1_ n2_ n3_ n4_ n5_ n6_; (try clear hb); (try clear hb2); (try clear hk); (try clear hi)))
                go_ret
                exact ⟨by first | rfl | (simp [errW_none, errW_some] <;> rfl) | (simp [*, errW_none, errW_some] <;> rfl), by repeat (first | (with_reducible first | exact HB.out | apply below_alloc | apply pw_below_drewN | apply below_drew1 | refine below_set ?_ GE575.out | refine below_set ?_ GE584.out | refine below_set ?_ GE604.out) | exact HB.out)⟩
               ·rw [if_neg c89] at H
                have c89b0 : (t606 == t593) = false := beq_eq_false_iff_ne.mpr c89
                have c89b1 : (t606 != t593) = true := bne_iff_ne.mpr c89
                obtain rfl := Option.some.inj H
                exact absurd hr_ (by simp)
          ·rw [if_neg c55] at H
           have c55b0 : (t595 == t593) = false := beq_eq_false_iff_ne.mpr c55
           have c55b1 : (t595 != t593) = true := bne_iff_ne.mpr c55
           obtain rfl := Option.some.inj H
           exact absurd hr_ (by simp)
     ·replace c34 := Bool.eq_false_iff.mpr c34
      subst c34
      have H1 : (some false) = some r := by rw [if_neg (show ¬ (false = true) by decide)] at H; exact H
      clear H
      have H := H1
      clear H1
      obtain rfl := Option.some.inj H
      exact absurd hr_ (by simp)
end Go.Proofs.YtiglmmofapcefaaDoor.Q
end
section
/- Lemmas on what the printed functions compute (rdset); no condition. -/
namespace Go.Proofs.YtiglmmofapcefaaDoor.Q
open Go.RowKit Go.Proofs.YtiglmmofapcefaaDoorW.PrintWords Go.Proofs.YtiglmmofapcefaaDoorW.PrintLast Go.Proofs.YtiglmmofapcefaaDoorW.PrintMore
set_option linter.unusedVariables false
set_option linter.unusedSimpArgs false

theorem rd_set_same (y : List Int) (n : Nat) (v : Int) (h : n < y.length) : rd (y.set n v) (n : Int) = v := by
  rw [rd_nat _ _ (by simpa using h)]
  simp

theorem rd_set_other (y : List Int) (n j : Nat) (v : Int) (h : j ≠ n) : rd (y.set n v) (j : Int) = rd y (j : Int) := by
  unfold rd
  simp [List.getD, List.getElem?_set, Ne.symm h]

theorem toNat_cast (n : Nat) : ((n : Int) : Int).toNat = n := by simp

theorem take_set_succ (y l : List Int) (n : Nat) (hn : n < l.length) (hy : y.length = l.length) (h : y.take n = l.take n) :
    (y.set n (rd l (n : Int))).take (n + 1) = l.take (n + 1) := by
  rw [List.take_succ_eq_append_getElem (by simpa [hy] using hn), List.take_succ_eq_append_getElem hn, rd_nat l n hn]
  simp [List.take_set_of_le, h]
end Go.Proofs.YtiglmmofapcefaaDoor.Q
end
section
/- Lemmas on what the printed functions compute (strs); no condition. -/
namespace Go.Proofs.YtiglmmofapcefaaDoor.Q
open Go.RowKit Go.Proofs.YtiglmmofapcefaaDoorW.PrintWords Go.Proofs.YtiglmmofapcefaaDoorW.PrintLast Go.Proofs.YtiglmmofapcefaaDoorW.PrintMore
set_option linter.unusedVariables false
set_option linter.unusedSimpArgs false

def isByte (c : Int) : Prop := 0 ≤ c ∧ c ≤ 255

theorem bytesOf_range (s : ByteArray) : ∀ c ∈ bytesOf s, isByte c := by
  intro c hc
  unfold bytesOf at hc
  obtain ⟨b, _, rfl⟩ := List.mem_map.1 hc
  have := b.toNat_lt
  exact ⟨by omega, by omega⟩

theorem bytesOf_inj {s t : ByteArray} (h : bytesOf s = bytesOf t) : s = t := by
  have e : s.data.toList = t.data.toList := by
    unfold bytesOf at h
    have := congrArg (List.map fun n : Int => UInt8.ofNat n.toNat) h
    simpa [List.map_map, Function.comp_def] using this
  cases s; cases t
  congr 1
  exact Array.toList_inj.1 e

theorem bytesOf_append (s t : ByteArray) : bytesOf (s ++ t) = bytesOf s ++ bytesOf t := by
  unfold bytesOf
  simp

theorem bytesOf_strOfNums (l : List Int) (h : ∀ c ∈ l, isByte c) : bytesOf (strOfNums l) = l := by
  unfold bytesOf
  rw [strOfNums_data, List.map_map]
  have : ∀ c ∈ l, ((fun b : UInt8 => (b.toNat : Int)) ∘ fun n : Int => UInt8.ofNat n.toNat) c = c := by
    intro c hc
    obtain ⟨h0, h1⟩ := h c hc
    have e : (UInt8.ofNat c.toNat).toNat = c.toNat := by simp [UInt8.toNat_ofNat']; omega
    simp only [Function.comp, e]
    omega
  rw [List.map_congr_left this]
  simp

theorem strOfNums_bytesOf (s : ByteArray) : strOfNums (bytesOf s) = s := bytesOf_inj (bytesOf_strOfNums _ (bytesOf_range s))

theorem strOfNums_append (a b : List Int) : strOfNums (a ++ b) = strOfNums a ++ strOfNums b := by
  have e : (strOfNums (a ++ b)).data.toList = (strOfNums a ++ strOfNums b).data.toList := by
    rw [strOfNums_data, ByteArray.toList_data_append, strOfNums_data, strOfNums_data, List.map_append]
  revert e
  generalize strOfNums (a ++ b) = x
  generalize strOfNums a ++ strOfNums b = y
  intro e
  cases x; cases y
  congr 1
  exact Array.toList_inj.1 e

theorem size_eq (s : ByteArray) : s.size = (bytesOf s).length := (bytesOf_length s).symm

theorem bytesOf_extract (s : ByteArray) (a b : Nat) : bytesOf (s.extract a b) = ((bytesOf s).take b).drop a := by
  unfold bytesOf
  rw [ByteArray.data_extract, Array.toList_extract, List.extract_eq_take_drop, List.map_take, List.map_drop, List.drop_take]

theorem toList_of_eq {s t : ByteArray} (h : bytesOf s = bytesOf t) : s.toList = t.toList := by rw [bytesOf_inj h]

theorem bt_eq (s : ByteArray) (i : Int) : bt s i = rd (bytesOf s) i := (rd_bytesOf s i).symm
end Go.Proofs.YtiglmmofapcefaaDoor.Q
end
section
/- Lemmas on what the printed functions compute (bcdPure); no condition. -/
namespace Go.Proofs.YtiglmmofapcefaaDoor.Q
open Go.RowKit Go.Proofs.YtiglmmofapcefaaDoorW.PrintWords Go.Proofs.YtiglmmofapcefaaDoorW.PrintLast Go.Proofs.YtiglmmofapcefaaDoorW.PrintMore
set_option linter.unusedVariables false
set_option linter.unusedSimpArgs false

/-- Two and two digits in one byte. -/
def bcd : List Int → List Int
  | a :: b :: t => ((a - 48) * 16 + (b - 48)) :: bcd t
  | _ => []
def evened (l : List Int) : List Int := if l.length % 2 = 1 then 48 :: l else l
def putBcd (l : List Int) : List Int × Bool := if digs l && decide (l.length ≤ 38) then (bcd (evened l), true) else ([], false)

theorem bcd_length : ∀ (n : Nat) (l : List Int), l.length = 2 * n → (bcd l).length = n
  | 0, l, h => by
    have : l = [] := List.length_eq_zero_iff.1 (by omega)
    rw [this]; rfl
  | n + 1, a :: b :: t, h => by
    simp only [bcd, List.length_cons]
    rw [bcd_length n t (by simp at h; omega)]
  | n + 1, [a], h => by simp at h; omega
  | n + 1, [], h => by simp at h

theorem evened_length (l : List Int) : (evened l).length = 2 * ((l.length + 1) / 2) := by
  unfold evened
  split
  · simp; omega
  · omega

theorem evened_all (l : List Int) (h : l.all isDig = true) : (evened l).all isDig = true := by
  unfold evened
  split
  · simp only [List.all_cons, h, Bool.and_true]; decide
  · exact h

theorem dig_range' {c : Int} (h : isDig c = true) : 48 ≤ c ∧ c ≤ 57 := by
  unfold isDig at h
  simpa using h

theorem all_rd' (l : List Int) (p : Int → Bool) (h : l.all p = true) (n : Nat) (hn : n < l.length) : p (rd l (n : Int)) = true := by
  rw [List.all_eq_true] at h
  exact h _ (rd_mem l n hn)

theorem drop_two (l : List Int) (n : Nat) (h : n + 1 < l.length) : l.drop n = rd l (n : Int) :: rd l ((n + 1 : Nat) : Int) :: l.drop (n + 2) := by
  rw [drop_rd l n (by omega), drop_rd l (n + 1) (by omega)]

theorem digs_and (l : List Int) (h : digs l = true) : l.all isDig = true ∧ 0 < l.length := by
  unfold digs at h
  cases l with
  | nil => simp at h
  | cons a t => simpa using h
end Go.Proofs.YtiglmmofapcefaaDoor.Q
end
section
/- Lemmas on what the printed functions compute (narrow); no condition. -/
namespace Go.Proofs.YtiglmmofapcefaaDoor.Q
open Go.RowKit Go.Proofs.YtiglmmofapcefaaDoorW.PrintWords Go.Proofs.YtiglmmofapcefaaDoorW.PrintLast Go.Proofs.YtiglmmofapcefaaDoorW.PrintMore
set_option linter.unusedVariables false
set_option linter.unusedSimpArgs false

/-- What Narrow answers (impl_Narrow.f). -/
def narrow (l : List Int) : Int × Bool := if digs l = true ∧ l.length ≤ 18 then ((natFrom 0 l : Nat), true) else (0, false)

theorem spec_Narrow_l (s : ByteArray) (hs : s.size ≤ 18) (hd : (bytesOf s).all isDig = true) : ∀ (d n k a : Nat), n + d = s.size → a < 10 ^ n → d < k →
    spec_Narrow.l0 k s (a : Int) (n : Int) = some (((natFrom a ((bytesOf s).drop n) : Nat) : Int), true) := by
  intro d
  induction d with
  | zero =>
    intro n k a hn ha hk
    obtain ⟨k, rfl⟩ : ∃ m, k = m + 1 := ⟨k - 1, by omega⟩
    have c1 : ¬ (n : Int) < (s.size : Int) := by omega
    simp only [spec_Narrow.l0, if_neg c1]
    rw [List.drop_of_length_le (by rw [bytesOf_length]; omega)]
    rfl
  | succ d ih =>
    intro n k a hn ha hk
    obtain ⟨k, rfl⟩ : ∃ m, k = m + 1 := ⟨k - 1, by omega⟩
    have c1 : (n : Int) < (s.size : Int) := by omega
    have c2 : 0 ≤ (n : Int) := by omega
    obtain ⟨b0, b1⟩ := dig_range' (all_rd' _ _ hd n (by rw [bytesOf_length]; omega))
    have hp : 10 ^ (n + 1) = 10 ^ n * 10 := Nat.pow_succ 10 n
    have hq : 10 ^ n ≤ 10 ^ 17 := Nat.pow_le_pow_right (by omega) (by omega)
    have hq2 : (10 : Nat) ^ 17 = 100000000000000000 := by decide
    rw [drop_bt s n (by omega), natFrom, bt_eq]
    simp only [spec_Narrow.l0, if_pos c1, if_pos c2, bt_eq]
    generalize rd (bytesOf s) (n : Int) = c at b0 b1
    have ih' := ih (n + 1) k (a * 10 + (c - 48).toNat) (by omega) (by rw [hp]; omega) (by omega)
    have e2 : wrap64 ((n : Int) + 1) = ((n + 1 : Nat) : Int) := by rw [w64 c2 (by omega)]; omega
    have e1 : wrap64 (wrap64 (wrap64 ((a : Int) * 10) + wrap64 c) - 48) = ((a * 10 + (c - 48).toNat : Nat) : Int) := by
      clear e2 ih'
      have q1 : wrap64 ((a : Int) * 10) = (a : Int) * 10 := w64id (by omega) (by omega)
      rw [q1]
      clear q1
      have q2 : wrap64 c = c := w64id (by omega) (by omega)
      rw [q2]
      clear q2
      have q3 : wrap64 ((a : Int) * 10 + c) = (a : Int) * 10 + c := w64id (by omega) (by omega)
      rw [q3]
      clear q3
      rw [w64id (by omega) (by omega)]
      omega
    rw [e1, e2]
    exact ih'

theorem spec_Narrow_at (s : ByteArray) (hs : s.size ≤ 140737488351232) (k : Nat) (hk : s.size + 30 < k) : spec_Narrow.f k s = some (narrow (bytesOf s)) := by
  obtain ⟨k, rfl⟩ : ∃ m, k = m + 1 := ⟨k - 1, by omega⟩
  unfold spec_Narrow.f narrow
  rw [spec_Digits_at s hs _ (by omega), Option.bind_some, bytesOf_length]
  by_cases h : digs (bytesOf s) = true
  · rw [if_pos h]
    by_cases h2 : s.size ≤ 18
    · have e : decide ((s.size : Int) > 18) = false := decide_eq_false (by omega)
      rw [e, if_pos ⟨h, h2⟩, spec_Narrow.j0, if_neg (by simp)]
      exact spec_Narrow_l s h2 (digs_and _ h).1 s.size 0 k 0 (by omega) (by simp) (by omega)
    · have e : decide ((s.size : Int) > 18) = true := decide_eq_true (by omega)
      rw [e, if_neg (fun q => h2 q.2), spec_Narrow.j0, if_pos rfl]
  · rw [if_neg h, if_neg (fun q => h q.1), spec_Narrow.j0, if_pos rfl]

theorem impl_Narrow_at (s : ByteArray) (hs : s.size ≤ 140737488351232) : impl_Narrow.f s = some (narrow (bytesOf s)) := by
  unfold impl_Narrow.f narrow
  rw [if_pos hs, bytesOf_length]
end Go.Proofs.YtiglmmofapcefaaDoor.Q
end
section
/- Lemmas on what the printed functions compute (ubcd); no condition. -/
namespace Go.Proofs.YtiglmmofapcefaaDoor.Q
open Go.RowKit Go.Proofs.YtiglmmofapcefaaDoorW.PrintWords Go.Proofs.YtiglmmofapcefaaDoorW.PrintLast Go.Proofs.YtiglmmofapcefaaDoorW.PrintMore
set_option linter.unusedVariables false
set_option linter.unusedSimpArgs false

/-- Each byte as two digits. -/
def ubcd : List Int → List Int
  | [] => []
  | c :: t => (48 + c / 16) :: (48 + c % 16) :: ubcd t

theorem ubcd_append (a b : List Int) : ubcd (a ++ b) = ubcd a ++ ubcd b := by
  induction a with
  | nil => rfl
  | cons c t ih => simp [ubcd, ih]

theorem ubcd_length (a : List Int) : (ubcd a).length = 2 * a.length := by
  induction a with
  | nil => rfl
  | cons c t ih => simp [ubcd, ih]; omega

theorem ubcd_range (a : List Int) (h : ∀ c ∈ a, isByte c) : ∀ c ∈ ubcd a, isByte c := by
  induction a with
  | nil => intro c hc; simp [ubcd] at hc
  | cons x t ih =>
    intro c hc
    simp only [ubcd, List.mem_cons] at hc
    have hx := h x (by simp)
    unfold isByte at hx
    rcases hc with rfl | rfl | hc
    · unfold isByte; omega
    · unfold isByte; omega
    · exact ih (fun c hc => h c (by simp [hc])) c hc

theorem take_rd (l : List Int) (n : Nat) (h : n < l.length) : l.take (n + 1) = l.take n ++ [rd l (n : Int)] := by
  rw [List.take_succ_eq_append_getElem h, rd_nat l n h]

theorem rd_drop (l : List Int) (a n : Nat) (h : a + n < l.length) : rd (l.drop a) (n : Int) = rd l ((a + n : Nat) : Int) := by
  rw [rd_nat _ _ (by simp; omega), rd_nat _ _ h]
  simp

/-- The bytes at a place. -/
def cutAt (l : List Int) (a m : Nat) : List Int := (l.drop a).take m

theorem cutAt_take (l : List Int) (a m : Nat) : (l.take (a + m)).drop a = cutAt l a m := by
  unfold cutAt
  rw [List.drop_take]
  congr 1
  omega

theorem cutAt_succ (l : List Int) (a m : Nat) (h : a + m < l.length) : cutAt l a (m + 1) = cutAt l a m ++ [rd l ((a + m : Nat) : Int)] := by
  unfold cutAt
  rw [take_rd _ _ (by simp; omega), rd_drop l a m h]

theorem cutAt_length (l : List Int) (a m : Nat) (h : a + m ≤ l.length) : (cutAt l a m).length = m := by
  unfold cutAt
  simp
  omega

theorem cutAt_mem (l : List Int) (a m : Nat) : ∀ c ∈ cutAt l a m, c ∈ l := by
  intro c hc
  unfold cutAt at hc
  exact List.mem_of_mem_drop (List.mem_of_mem_take hc)

def isBcd (n : Nat) (u : List Int) : Bool := if n % 2 = 1 then decide (rd u 0 = 48) && digs (u.drop 1) else digs u

def inAt (l : List Int) (a1 n : Int) : Bool := decide (1 ≤ n ∧ n ≤ 38 ∧ 0 ≤ a1 ∧ a1 ≤ (l.length : Int) ∧ (n + 1) / 2 ≤ (l.length : Int) - a1)

/-- What GetBcd answers. -/
def getBcd (l : List Int) (a1 n : Int) : List Int × Int × Bool :=
  if inAt l a1 n && isBcd n.toNat (ubcd (cutAt l a1.toNat ((n + 1) / 2).toNat)) then
    ((ubcd (cutAt l a1.toNat ((n + 1) / 2).toNat)).drop (n.toNat % 2), a1 + (n + 1) / 2, true)
  else ([], 0, false)

def asStr (r : List Int × Int × Bool) : ByteArray × Int × Bool := (strOfNums r.1, r.2.1, r.2.2)

theorem strOfNums_nil : strOfNums [] = (⟨#[]⟩ : ByteArray) := bytesOf_inj (by rw [bytesOf_strOfNums _ (by simp)]; rfl)

theorem asStr_none : asStr ([], 0, false) = ((⟨#[]⟩ : ByteArray), 0, false) := by unfold asStr; rw [strOfNums_nil]

theorem ubcd_digs (n m : Nat) (u : List Int) (hm : m = (n + 1) / 2) (hn : 1 ≤ n) (hu : u.length = 2 * m) : isBcd n u = (digs u && (decide (n % 2 = 0) || decide (rd u 0 = 48))) := by
  unfold isBcd
  by_cases h : n % 2 = 1
  · rw [if_pos h]
    have h0 : decide (n % 2 = 0) = false := decide_eq_false (by omega)
    rw [h0, Bool.false_or]
    have hd := drop_rd u 0 (by omega)
    simp only [List.drop_zero, Nat.zero_add] at hd
    have hp : 0 < (u.drop 1).length := by simp; omega
    by_cases h48 : rd u 0 = 48
    · have e1 : digs u = digs (u.drop 1) := by
        unfold digs
        have e2 : u.all isDig = (u.drop 1).all isDig := by
          have h7 : isDig (rd u ((0 : Nat) : Int)) = true := by simpa [h48] using (by decide : isDig 48 = true)
          have h8 : u.all isDig = (rd u ((0 : Nat) : Int) :: u.drop 1).all isDig := congrArg (fun x => List.all x isDig) hd
          rw [h8, List.all_cons, h7, Bool.true_and]
        have e3 : u.isEmpty = false := by cases u with | nil => simp at hu; omega | cons => rfl
        have e4 : (u.drop 1).isEmpty = false := by
          generalize u.drop 1 = v at hp
          cases v with | nil => simp at hp | cons => rfl
        rw [e2, e3, e4]
      simp [h48, e1]
    · simp [h48]
  · rw [if_neg h]
    have h0 : decide (n % 2 = 0) = true := decide_eq_true (by omega)
    rw [h0]
    simp
end Go.Proofs.YtiglmmofapcefaaDoor.Q
end
section
/- Lemmas on what the printed functions compute (getBcdSpec); no condition. -/
namespace Go.Proofs.YtiglmmofapcefaaDoor.Q
open Go.RowKit Go.Proofs.YtiglmmofapcefaaDoorW.PrintWords Go.Proofs.YtiglmmofapcefaaDoorW.PrintLast Go.Proofs.YtiglmmofapcefaaDoorW.PrintMore
set_option linter.unusedVariables false
set_option linter.unusedSimpArgs false

theorem getBcd_val (l : List Int) (a n m : Nat) (hm : m = (n + 1) / 2) (h1 : 1 ≤ n) (h2 : n ≤ 38) (h3 : a + m ≤ l.length) :
    getBcd l (a : Int) (n : Int) = if isBcd n (ubcd (cutAt l a m)) = true then ((ubcd (cutAt l a m)).drop (n % 2), (a : Int) + (m : Int), true) else ([], 0, false) := by
  have e0 : ((n : Int) + 1) / 2 = (m : Int) := by omega
  have e1 : inAt l (a : Int) (n : Int) = true := by
    unfold inAt
    rw [e0]
    exact decide_eq_true (by omega)
  have e2 : (n : Int).toNat = n := by omega
  have e3 : (a : Int).toNat = a := by omega
  have e4 : (m : Int).toNat = m := by omega
  unfold getBcd
  rw [e1, e0, e2, e3, e4, Bool.true_and]

theorem spec_GetBcd_l (l : List Int) (hl : l.length ≤ 140737488351232) (hb : ∀ c ∈ l, isByte c) (a n m : Nat) (hm : m = (n + 1) / 2) (h1 : 1 ≤ n) (h2 : n ≤ 38) (h3 : a + m ≤ l.length) : ∀ (d i k : Nat), i + d = m → d + 50 < k →
    spec_GetBcd.l0 k l (a : Int) (n : Int) (strOfNums (ubcd (cutAt l a i))) ((a + i : Nat) : Int) = some (asStr (getBcd l (a : Int) (n : Int))) := by
  have e2 : True → wrap64 (Int.tdiv (wrap64 ((n : Int) + 1)) 2) = (m : Int) := by
    intro _
    have q : wrap64 ((n : Int) + 1) = ((n + 1 : Nat) : Int) := by unfold wrap64; omega
    rw [q, Int.tdiv_eq_ediv_of_nonneg (by omega)]
    unfold wrap64
    omega
  have e3 : True → wrap64 ((a : Int) + (m : Int)) = ((a + m : Nat) : Int) := by intro _; unfold wrap64; omega
  intro d
  induction d with
  | zero =>
    intro i k hd hk
    obtain ⟨k, rfl⟩ : ∃ m, k = m + 1 := ⟨k - 1, by omega⟩
    have hi : i = m := by omega
    subst hi
    have c1 : ¬ ((a + i : Nat) : Int) < ((a + i : Nat) : Int) := by omega
    have hr : ∀ c ∈ ubcd (cutAt l a i), isByte c := ubcd_range _ (fun c hc => hb c (cutAt_mem l a i c hc))
    have hz : (ubcd (cutAt l a i)).length = 2 * i := by rw [ubcd_length, cutAt_length l a i h3]
    rw [getBcd_val l a n i hm h1 h2 h3]
    simp only [spec_GetBcd.l0, e2 trivial, e3 trivial, if_neg c1]
    generalize ubcd (cutAt l a i) = u at hr hz
    have hbs : bytesOf (strOfNums u) = u := bytesOf_strOfNums u hr
    have hsz : (strOfNums u).size = u.length := by rw [size_eq, hbs]
    have eend : ((a + i : Nat) : Int) = (a : Int) + (i : Int) := by omega
    by_cases ho : n % 2 = 1
    · have c2 : Int.tmod (n : Int) 2 = 1 := by rw [Int.tmod_eq_emod_of_nonneg (by omega)]; omega
      have c3 : 0 < ((strOfNums u).size : Int) := by omega
      have c4 : 1 ≤ ((strOfNums u).size : Int) := by omega
      rw [if_pos c2, if_pos c3, if_pos c4, bt_eq, hbs]
      unfold isBcd
      rw [if_pos ho, ho]
      by_cases h48 : rd u 0 = 48
      · have e5 : bytesOf ((strOfNums u).extract 1 (strOfNums u).size) = u.drop 1 := by
          rw [bytesOf_extract, hbs, hsz, List.take_length]
        have e6 : (strOfNums u).extract 1 (strOfNums u).size = strOfNums (u.drop 1) := by
          rw [← e5, strOfNums_bytesOf]
        have e7 : ((strOfNums u).extract 1 (strOfNums u).size).size ≤ 40 := by
          rw [size_eq, e5, List.length_drop]; omega
        rw [if_pos h48, spec_Digits_at _ (by omega) k (by omega), Option.bind_some, e5, e6]
        have h48' : decide (rd u 0 = 48) = true := decide_eq_true h48
        rw [h48', Bool.true_and]
        by_cases hg : digs (u.drop 1) = true
        · rw [if_pos hg, if_pos hg, eend]; rfl
        · rw [if_neg hg, if_neg hg, asStr_none]
      · have h48' : decide (rd u 0 = 48) = false := decide_eq_false h48
        rw [if_neg h48, h48', Bool.false_and, if_neg (by simp), asStr_none]
    · have c2 : ¬ Int.tmod (n : Int) 2 = 1 := by rw [Int.tmod_eq_emod_of_nonneg (by omega)]; omega
      have ho' : n % 2 = 0 := by omega
      rw [if_neg c2, spec_Digits_at _ (by omega) k (by omega), Option.bind_some, hbs]
      unfold isBcd
      rw [if_neg ho, ho']
      by_cases hg : digs u = true
      · rw [if_pos hg, if_pos hg, eend]; rfl
      · rw [if_neg hg, if_neg hg, asStr_none]
  | succ d ih =>
    intro i k hd hk
    obtain ⟨k, rfl⟩ : ∃ m, k = m + 1 := ⟨k - 1, by omega⟩
    have c1 : ((a + i : Nat) : Int) < ((a + m : Nat) : Int) := by omega
    have c2 : 0 ≤ ((a + i : Nat) : Int) := by omega
    have c3 : ((a + i : Nat) : Int) < (l.length : Int) := by omega
    have e4 : wrap64 (((a + i : Nat) : Int) + 1) = ((a + (i + 1) : Nat) : Int) := by unfold wrap64; omega
    have h4 : a + i < l.length := by omega
    have hs : strOfNums (ubcd (cutAt l a (i + 1))) = strOfNums (ubcd (cutAt l a i)) ++ strOfNums (ubcd [rd l ((a + i : Nat) : Int)]) := by
      rw [cutAt_succ l a i h4, ubcd_append, strOfNums_append]
    have ih' := ih (i + 1) k (by omega) (by omega)
    rw [hs] at ih'
    clear hs ih
    obtain ⟨b0, b1⟩ := hb _ (rd_mem l (a + i) (by omega))
    have hz : (strOfNums (ubcd (cutAt l a i))).size = 2 * i := by rw [strOfNums_size, ubcd_length, cutAt_length l a i (by omega)]
    simp only [spec_GetBcd.l0, e2 trivial, e3 trivial, e4, if_pos c1, if_pos c2, if_pos c3, Option.bind_some]
    generalize rd l ((a + i : Nat) : Int) = b at b0 b1 ih'
    have q1 : wrap64 b = b := by unfold wrap64; omega
    have q2 : Int.tdiv b 16 = b / 16 := Int.tdiv_eq_ediv_of_nonneg (by omega)
    have q3 : Int.tmod b 16 = b % 16 := Int.tmod_eq_emod_of_nonneg (by omega)
    have q4 : wrap64 (48 + wrap64 (b / 16)) % 256 = 48 + b / 16 := by unfold wrap64; omega
    have q5 : wrap64 (48 + b % 16) % 256 = 48 + b % 16 := by unfold wrap64; omega
    rw [q1, q2, q3, q4, q5]
    have q6 : (strOfNums (ubcd (cutAt l a i))).size + (strOfNums [48 + b / 16, 48 + b % 16]).size ≤ 9223372036854775807 := by
      rw [hz, strOfNums_size]
      simp
      omega
    rw [if_pos q6]
    exact ih'

theorem spec_GetBcd_at (l : List Int) (hl : l.length ≤ 140737488351232) (hb : ∀ c ∈ l, isByte c) (a1 n : Int) (w1 : -9223372036854775808 ≤ a1 ∧ a1 ≤ 9223372036854775807) (w2 : -9223372036854775808 ≤ n ∧ n ≤ 9223372036854775807) (k : Nat) (hk : 100 < k) :
    spec_GetBcd.f k l a1 n = some (asStr (getBcd l a1 n)) := by
  obtain ⟨k, rfl⟩ : ∃ m, k = m + 1 := ⟨k - 1, by omega⟩
  have hno : inAt l a1 n = false → spec_GetBcd.j0 (k + 1) l a1 n true = some (asStr (getBcd l a1 n)) := by
    intro h
    unfold getBcd
    rw [h, Bool.false_and, if_neg (by simp), asStr_none, spec_GetBcd.j0, if_pos rfl]
  unfold spec_GetBcd.f
  by_cases h1 : n < 1
  · rw [if_pos h1]; exact hno (decide_eq_false (by omega))
  by_cases h2 : n > 38
  · rw [if_neg h1, if_pos h2]; exact hno (decide_eq_false (by omega))
  by_cases h3 : a1 < 0
  · rw [if_neg h1, if_neg h2, if_pos h3]; exact hno (decide_eq_false (by omega))
  by_cases h4 : a1 > (l.length : Int)
  · rw [if_neg h1, if_neg h2, if_neg h3, if_pos h4]; exact hno (decide_eq_false (by omega))
  rw [if_neg h1, if_neg h2, if_neg h3, if_neg h4]
  have e0 : wrap64 (n + 1) = n + 1 := by unfold wrap64; omega
  have e1 : Int.tdiv (n + 1) 2 = (n + 1) / 2 := Int.tdiv_eq_ediv_of_nonneg (by omega)
  have e2 : wrap64 ((n + 1) / 2) = (n + 1) / 2 := by unfold wrap64; omega
  have e3 : wrap64 ((l.length : Int) - a1) = (l.length : Int) - a1 := by unfold wrap64; omega
  rw [e0, e1, e2, e3]
  by_cases h5 : (n + 1) / 2 > (l.length : Int) - a1
  · rw [decide_eq_true h5]; exact hno (decide_eq_false (by omega))
  rw [decide_eq_false h5, spec_GetBcd.j0, if_neg (by simp)]
  have h := spec_GetBcd_l l hl hb a1.toNat n.toNat ((n.toNat + 1) / 2) rfl (by omega) (by omega) (by omega) ((n.toNat + 1) / 2) 0 k (by omega) (by omega)
  have ea : ((a1.toNat : Nat) : Int) = a1 := by omega
  have en : ((n.toNat : Nat) : Int) = n := by omega
  have ez : cutAt l a1.toNat 0 = [] := rfl
  rw [ez, Nat.add_zero, ea, en] at h
  have eu : ubcd [] = [] := rfl
  rw [eu, strOfNums_nil] at h
  exact h
end Go.Proofs.YtiglmmofapcefaaDoor.Q
end
section
/- Lemmas on what the printed functions compute (getBcdImpl); no condition. -/
namespace Go.Proofs.YtiglmmofapcefaaDoor.Q
open Go.RowKit Go.Proofs.YtiglmmofapcefaaDoorW.PrintWords Go.Proofs.YtiglmmofapcefaaDoorW.PrintLast Go.Proofs.YtiglmmofapcefaaDoorW.PrintMore
set_option linter.unusedVariables false
set_option linter.unusedSimpArgs false

theorem impl_piece_at (l : List Int) (a1 m : Int) : impl_piece.f l a1 m = if 0 ≤ a1 ∧ a1 ≤ (l.length : Int) ∧ 0 ≤ m ∧ m ≤ (l.length : Int) - a1 then some (cutAt l a1.toNat m.toNat, true) else some ([], false) := by
  unfold impl_piece.f
  by_cases h : 0 ≤ a1 ∧ a1 ≤ (l.length : Int) ∧ 0 ≤ m ∧ m ≤ (l.length : Int) - a1
  · rw [if_pos h, if_pos h]
    have e : (a1 + m).toNat = a1.toNat + m.toNat := by omega
    rw [e, cutAt_take]
  · rw [if_neg h, if_neg h]

theorem impl_GetBcd_l (l : List Int) (hb : ∀ c ∈ l, isByte c) (hl : l.length ≤ 40) (a1 n : Int) (ok : Bool) (z : List Int) : ∀ (d i k : Nat), i + d = l.length → d < k → ∃ j, k = j + d + 1 ∧ 
    impl_GetBcd.l0 k a1 n z ok (ubcd (l.take i)) l (l.length : Int) (i : Int) = impl_GetBcd.l0 (j + 1) a1 n z ok (ubcd l) l (l.length : Int) (l.length : Int) := by
  intro d
  induction d with
  | zero =>
    intro i k hd hk
    refine ⟨k - 1, by omega, ?_⟩
    have hi : i = l.length := by omega
    subst hi
    have hk' : k - 1 + 1 = k := by omega
    rw [List.take_length, hk']
  | succ d ih =>
    intro i k hd hk
    obtain ⟨k, rfl⟩ : ∃ m, k = m + 1 := ⟨k - 1, by omega⟩
    obtain ⟨j, hj, ih'⟩ := ih (i + 1) k (by omega) (by omega)
    refine ⟨j, by omega, ?_⟩
    rw [← ih', take_rd l i (by omega), ubcd_append]
    have c1 : (i : Int) < (l.length : Int) := by omega
    have c2 : 0 ≤ (i : Int) := by omega
    have e4 : wrap64 ((i : Int) + 1) = ((i + 1 : Nat) : Int) := by unfold wrap64; omega
    obtain ⟨b0, b1⟩ := hb _ (rd_mem l i (by omega))
    have hz : (ubcd (l.take i)).length ≤ 80 := by rw [ubcd_length, List.length_take]; omega
    rw [impl_GetBcd.l0]
    simp only [e4, if_pos c1, if_pos c2, Option.bind_some]
    generalize rd l (i : Int) = b at b0 b1
    have q2 : Go.bits .and .u8 b 15 = b % 16 := u8_and15 b b0 (by omega)
    have q4 : (48 + b / 16) % 256 = 48 + b / 16 := by omega
    have q5 : (48 + b % 16) % 256 = 48 + b % 16 := by omega
    rw [q2, q4, q5]
    have q6 : (ubcd (l.take i)).length + [48 + b / 16, 48 + b % 16].length < 140737488355328 := by
      simp
      omega
    rw [if_pos q6]
    rfl

theorem impl_GetBcd_e (u : List Int) (hr : ∀ c ∈ u, isByte c) (a1 : Int) (n m : Nat) (z v : List Int) (hm : m = (n + 1) / 2) (h1 : 1 ≤ n) (h2 : n ≤ 38) (hz : z.length = m) (hu : u.length = 2 * m) (ha : 0 ≤ a1) (hb : a1 ≤ 140737488351232) (k : Nat) (hk : 50 < k) :
    impl_GetBcd.l0 (k + 1) a1 (n : Int) z true u v (v.length : Int) (v.length : Int) = some (asStr (if isBcd n u = true then (u.drop (n % 2), a1 + (m : Int), true) else ([], 0, false))) := by
  have c1 : ¬ (v.length : Int) < (v.length : Int) := by omega
  have hbs : bytesOf (strOfNums u) = u := bytesOf_strOfNums u hr
  have hsz : (strOfNums u).size = u.length := by rw [size_eq, hbs]
  simp only [impl_GetBcd.l0, if_neg c1, if_true]
  rw [impl_Digits_at _ (by omega) k (by omega), hbs, Option.bind_some, ubcd_digs n m u hm h1 hu]
  by_cases hg : digs u = true
  · have e1 : wrap64 ((u.length : Int) - (n : Int)) = ((n % 2 : Nat) : Int) := by unfold wrap64; omega
    have e2 : wrap64 (a1 + (z.length : Int)) = a1 + (m : Int) := by unfold wrap64; omega
    have e3 : (((n % 2 : Nat) : Int)).toNat = n % 2 := by omega
    have c2 : 0 ≤ ((n % 2 : Nat) : Int) := by omega
    have c3 : ((n % 2 : Nat) : Int) ≤ (u.length : Int) := by omega
    rw [if_pos hg, e1, e2, if_pos c2, if_pos c3, hg, Bool.true_and, e3]
    by_cases ho : n % 2 = 1
    · have c2 : Int.tmod (n : Int) 2 = 1 := by rw [Int.tmod_eq_emod_of_nonneg (by omega)]; omega
      have c3 : 0 < (u.length : Int) := by omega
      have h0 : decide (n % 2 = 0) = false := decide_eq_false (by omega)
      rw [if_pos c2, if_pos c3, h0, Bool.false_or]
      by_cases h48 : rd u 0 = 48
      · rw [if_pos h48, if_pos (decide_eq_true h48)]; rfl
      · rw [if_neg h48, if_neg (by simp [h48]), asStr_none]
    · have c2 : ¬ Int.tmod (n : Int) 2 = 1 := by rw [Int.tmod_eq_emod_of_nonneg (by omega)]; omega
      have h0 : decide (n % 2 = 0) = true := decide_eq_true (by omega)
      rw [if_neg c2, h0, Bool.true_or, if_pos rfl]; rfl
  · rw [if_neg hg]
    have : digs u = false := by simpa using hg
    rw [this, Bool.false_and, if_neg (by simp), asStr_none]

theorem impl_within_at (a b c : Int) : impl_within.f a b c = some (decide (b ≤ a ∧ a ≤ c)) := by
  unfold impl_within.f
  by_cases h : b ≤ a
  · rw [if_pos h]; simp [h]
  · rw [if_neg h]; simp [h]

theorem impl_GetBcd_at (l : List Int) (hl : l.length ≤ 140737488351232) (hb : ∀ c ∈ l, isByte c) (a1 n : Int) (w1 : -9223372036854775808 ≤ a1 ∧ a1 ≤ 9223372036854775807) (w2 : -9223372036854775808 ≤ n ∧ n ≤ 9223372036854775807) (k : Nat) (hk : 200 < k) :
    impl_GetBcd.f k l a1 n = some (asStr (getBcd l a1 n)) := by
  unfold impl_GetBcd.f
  rw [impl_within_at, Option.bind_some]
  by_cases h1 : 1 ≤ n ∧ n ≤ 38
  · rw [if_pos (decide_eq_true h1)]
    have e0 : wrap64 (n + 1) = n + 1 := by unfold wrap64; omega
    have e1 : Int.tdiv (n + 1) 2 = (n + 1) / 2 := Int.tdiv_eq_ediv_of_nonneg (by omega)
    have e2 : wrap64 ((n + 1) / 2) = (n + 1) / 2 := by unfold wrap64; omega
    rw [e0, e1, e2, impl_piece_at]
    by_cases h2 : 0 ≤ a1 ∧ a1 ≤ (l.length : Int) ∧ 0 ≤ (n + 1) / 2 ∧ (n + 1) / 2 ≤ (l.length : Int) - a1
    · rw [if_pos h2, Option.bind_some]
      have hz : (cutAt l a1.toNat ((n + 1) / 2).toNat).length = ((n + 1) / 2).toNat := cutAt_length _ _ _ (by omega)
      have hb' : ∀ c ∈ cutAt l a1.toNat ((n + 1) / 2).toNat, isByte c := fun c hc => hb c (cutAt_mem _ _ _ c hc)
      obtain ⟨j, hj, h⟩ := impl_GetBcd_l (cutAt l a1.toNat ((n + 1) / 2).toNat) hb' (by omega) a1 n true (cutAt l a1.toNat ((n + 1) / 2).toNat) (cutAt l a1.toNat ((n + 1) / 2).toNat).length 0 k (by omega) (by omega)
      have h' : impl_GetBcd.l0 k a1 n (cutAt l a1.toNat ((n + 1) / 2).toNat) true (([] : List Int)) (cutAt l a1.toNat ((n + 1) / 2).toNat) ((cutAt l a1.toNat ((n + 1) / 2).toNat).length : Int) 0 = _ := h
      simp only
      rw [h']
      have en : ((n.toNat : Nat) : Int) = n := by omega
      have h5 := impl_GetBcd_e (ubcd (cutAt l a1.toNat ((n + 1) / 2).toNat)) (ubcd_range _ hb') a1 n.toNat ((n + 1) / 2).toNat (cutAt l a1.toNat ((n + 1) / 2).toNat) (cutAt l a1.toNat ((n + 1) / 2).toNat) (by omega) (by omega) (by omega) hz (by rw [ubcd_length, hz]) h2.1 (by omega) j (by omega)
      rw [en] at h5
      rw [h5]
      unfold getBcd
      have e3 : inAt l a1 n = true := decide_eq_true (by omega)
      have e4 : ((((n + 1) / 2).toNat : Nat) : Int) = (n + 1) / 2 := by omega
      rw [e3, Bool.true_and, e4]
    · rw [if_neg h2, Option.bind_some]
      obtain ⟨k, rfl⟩ : ∃ m, k = m + 1 := ⟨k - 1, by omega⟩
      unfold getBcd
      have e3 : inAt l a1 n = false := decide_eq_false (by omega)
      rw [e3, Bool.false_and, if_neg (by simp), asStr_none]
      simp only
      rw [impl_GetBcd.l0]
      simp
  · rw [if_neg (by simpa using h1)]
    unfold getBcd
    have e3 : inAt l a1 n = false := decide_eq_false (by omega)
    rw [e3, Bool.false_and, if_neg (by simp), asStr_none]
end Go.Proofs.YtiglmmofapcefaaDoor.Q
end
section
/- Lemmas on what the printed functions compute (getLen); no condition. -/
namespace Go.Proofs.YtiglmmofapcefaaDoor.Q
open Go.RowKit Go.Proofs.YtiglmmofapcefaaDoorW.PrintWords Go.Proofs.YtiglmmofapcefaaDoorW.PrintLast Go.Proofs.YtiglmmofapcefaaDoorW.PrintMore
set_option linter.unusedVariables false
set_option linter.unusedSimpArgs false

theorem getBcd_ok (l : List Int) (a1 n : Int) (hb : ∀ c ∈ l, isByte c) (h : (getBcd l a1 n).2.2 = true) :
    digs (getBcd l a1 n).1 = true ∧ (getBcd l a1 n).1.length = n.toNat ∧ (∀ c ∈ (getBcd l a1 n).1, isByte c) ∧ (getBcd l a1 n).2.1 = a1 + (n + 1) / 2 ∧ 1 ≤ n ∧ n ≤ 38 ∧ 0 ≤ a1 ∧ a1 + (n + 1) / 2 ≤ (l.length : Int) := by
  unfold getBcd at h ⊢
  by_cases q : (inAt l a1 n && isBcd n.toNat (ubcd (cutAt l a1.toNat ((n + 1) / 2).toNat))) = true
  · rw [if_pos q] at h ⊢
    simp only [Bool.and_eq_true] at q
    obtain ⟨q1, q2⟩ := q
    have q3 := of_decide_eq_true q1
    have hlen : (ubcd (cutAt l a1.toNat ((n + 1) / 2).toNat)).length = 2 * ((n + 1) / 2).toNat := by rw [ubcd_length, cutAt_length _ _ _ (by omega)]
    have hr : ∀ c ∈ ubcd (cutAt l a1.toNat ((n + 1) / 2).toNat), isByte c := ubcd_range _ (fun c hc => hb c (cutAt_mem _ _ _ c hc))
    generalize ubcd (cutAt l a1.toNat ((n + 1) / 2).toNat) = u at q2 hlen hr
    refine ⟨?_, ?_, fun c hc => hr c (List.mem_of_mem_drop hc), rfl, q3.1, q3.2.1, q3.2.2.1, by omega⟩
    · unfold isBcd at q2
      by_cases o : n.toNat % 2 = 1
      · rw [if_pos o] at q2
        simp only [Bool.and_eq_true] at q2
        simp only [o]
        exact q2.2
      · rw [if_neg o] at q2
        have o' : n.toNat % 2 = 0 := by omega
        simp only [o', List.drop_zero]
        exact q2
    · simp only [List.length_drop]
      omega
  · rw [if_neg q] at h
    exact absurd h (by simp)

theorem getBcd_no (l : List Int) (a1 n : Int) (h : (getBcd l a1 n).2.2 = false) : getBcd l a1 n = ([], 0, false) := by
  unfold getBcd at h ⊢
  split
  · rename_i q
    rw [if_pos q] at h
    exact absurd h (by simp)
  · rfl

/-- What GetLen answers. -/
def getLen (l : List Int) (a1 w : Int) : Int × Int × Bool :=
  if (w = 2 ∨ w = 3) ∧ (getBcd l a1 w).2.2 = true then (((natFrom 0 (getBcd l a1 w).1 : Nat) : Int), (getBcd l a1 w).2.1, true) else (0, 0, false)

theorem spec_GetLen_at (l : List Int) (hl : l.length ≤ 140737488351232) (hb : ∀ c ∈ l, isByte c) (a1 w : Int) (w1 : -9223372036854775808 ≤ a1 ∧ a1 ≤ 9223372036854775807) (k : Nat) (hk : 300 < k) :
    spec_GetLen.f k l a1 w = some (getLen l a1 w) := by
  obtain ⟨k, rfl⟩ : ∃ m, k = m + 1 := ⟨k - 1, by omega⟩
  have hj : (w = 2 ∨ w = 3) → spec_GetLen.j0 (k + 1) l a1 w false = some (getLen l a1 w) := by
    intro h2
    rw [spec_GetLen.j0, if_neg (by simp), spec_GetBcd_at l hl hb a1 w w1 (by omega) k (by omega), Option.bind_some]
    unfold getLen
    cases hr : (getBcd l a1 w).2.2 with
    | true =>
      obtain ⟨p1, p2, p3, _⟩ := getBcd_ok l a1 w hb hr
      have hz : (strOfNums (getBcd l a1 w).1).size ≤ 18 := by rw [strOfNums_size]; omega
      rw [if_pos ⟨h2, rfl⟩]
      unfold asStr
      simp only
      rw [spec_Narrow_at _ (by omega) k (by omega), Option.bind_some, bytesOf_strOfNums _ p3]
      unfold narrow
      rw [if_pos ⟨p1, by omega⟩, hr]
    | false =>
      have e := getBcd_no l a1 w hr
      rw [if_neg (by simp), e, asStr_none]
      simp only
      rw [spec_Narrow_at _ (by decide) k (by have : (⟨#[]⟩ : ByteArray).size = 0 := rfl; omega), Option.bind_some]
      rfl
  unfold spec_GetLen.f
  by_cases h2 : w = 2
  · rw [if_pos h2]; exact hj (Or.inl h2)
  rw [if_neg h2]
  by_cases h3 : w = 3
  · have e : (w != 3) = false := by simp [h3]
    rw [e]; exact hj (Or.inr h3)
  · have e : (w != 3) = true := by simp [h3]
    rw [e, spec_GetLen.j0, if_pos rfl]
    unfold getLen
    rw [if_neg (by omega)]

theorem impl_GetLen_at (l : List Int) (hl : l.length ≤ 140737488351232) (hb : ∀ c ∈ l, isByte c) (a1 w : Int) (w1 : -9223372036854775808 ≤ a1 ∧ a1 ≤ 9223372036854775807) (k : Nat) (hk : 300 < k) :
    impl_GetLen.f k l a1 w = some (getLen l a1 w) := by
  have hin : impl_within.f w 2 3 = some (decide (w = 2 ∨ w = 3)) := by
    unfold impl_within.f
    by_cases h : 2 ≤ w
    · rw [if_pos h]; congr 1; apply decide_eq_decide.2; omega
    · rw [if_neg h]; congr 1; symm; apply decide_eq_false; omega
  unfold impl_GetLen.f getLen
  rw [hin, Option.bind_some]
  by_cases h2 : w = 2 ∨ w = 3
  · rw [if_pos (decide_eq_true h2), impl_GetBcd_at l hl hb a1 w w1 (by omega) k (by omega), Option.bind_some]
    unfold asStr
    simp only
    cases hr : (getBcd l a1 w).2.2 with
    | true =>
      obtain ⟨p1, p2, p3, _⟩ := getBcd_ok l a1 w hb hr
      have hz : (strOfNums (getBcd l a1 w).1).size ≤ 18 := by rw [strOfNums_size]; omega
      rw [if_pos rfl, if_pos ⟨h2, rfl⟩, impl_Narrow_at _ (by omega), Option.bind_some, bytesOf_strOfNums _ p3]
      unfold narrow
      rw [if_pos ⟨p1, by omega⟩]
    | false => rw [if_neg (by simp), if_neg (by simp)]
  · rw [if_neg (by simpa using h2), if_neg (fun q => h2 q.1)]
end Go.Proofs.YtiglmmofapcefaaDoor.Q
end
section
/- Lemmas on what the printed functions compute (kinds); no condition. -/
namespace Go.Proofs.YtiglmmofapcefaaDoor.Q
open Go.RowKit Go.Proofs.YtiglmmofapcefaaDoorW.PrintWords Go.Proofs.YtiglmmofapcefaaDoorW.PrintLast Go.Proofs.YtiglmmofapcefaaDoorW.PrintMore
set_option linter.unusedVariables false
set_option linter.unusedSimpArgs false

def kindOf (x : Int) : Int := if x = 2 then 3 else if x = 3 ∨ x = 4 ∨ x = 7 ∨ x = 11 ∨ x = 14 ∨ x = 49 then 1 else if x = 37 ∨ x = 38 ∨ x = 39 ∨ x = 41 ∨ x = 95 then 2 else if x = 102 ∨ x = 103 then 4 else if x = 48 ∨ x = 54 then 5 else 0
def sizeOf_ (x : Int) : Int := if x = 2 then 19 else if x = 3 ∨ x = 11 ∨ x = 38 then 6 else if x = 4 ∨ x = 37 ∨ x = 95 then 12 else if x = 7 then 10 else if x = 14 then 4 else if x = 39 then 2 else if x = 41 then 8 else if x = 49 then 3 else if x = 102 ∨ x = 103 then 20 else if x = 48 ∨ x = 54 then 60 else 0

/-- Every number is one of the sixteen, or none of them. -/
theorem nos_cases (P : Int → Prop) (h2 : P 2) (h3 : P 3) (h4 : P 4) (h7 : P 7) (h11 : P 11) (h14 : P 14) (h37 : P 37) (h38 : P 38) (h39 : P 39) (h41 : P 41) (h48 : P 48) (h49 : P 49) (h54 : P 54) (h95 : P 95) (h102 : P 102) (h103 : P 103)
    (hno : ∀ x : Int, ¬ x = 2 → ¬ x = 3 → ¬ x = 4 → ¬ x = 7 → ¬ x = 11 → ¬ x = 14 → ¬ x = 37 → ¬ x = 38 → ¬ x = 39 → ¬ x = 41 → ¬ x = 48 → ¬ x = 49 → ¬ x = 54 → ¬ x = 95 → ¬ x = 102 → ¬ x = 103 → P x) (x : Int) : P x := by
  by_cases e2 : x = 2
  · subst e2; exact h2
  by_cases e3 : x = 3
  · subst e3; exact h3
  by_cases e4 : x = 4
  · subst e4; exact h4
  by_cases e7 : x = 7
  · subst e7; exact h7
  by_cases e11 : x = 11
  · subst e11; exact h11
  by_cases e14 : x = 14
  · subst e14; exact h14
  by_cases e37 : x = 37
  · subst e37; exact h37
  by_cases e38 : x = 38
  · subst e38; exact h38
  by_cases e39 : x = 39
  · subst e39; exact h39
  by_cases e41 : x = 41
  · subst e41; exact h41
  by_cases e48 : x = 48
  · subst e48; exact h48
  by_cases e49 : x = 49
  · subst e49; exact h49
  by_cases e54 : x = 54
  · subst e54; exact h54
  by_cases e95 : x = 95
  · subst e95; exact h95
  by_cases e102 : x = 102
  · subst e102; exact h102
  by_cases e103 : x = 103
  · subst e103; exact h103
  exact hno x e2 e3 e4 e7 e11 e14 e37 e38 e39 e41 e48 e49 e54 e95 e102 e103
end Go.Proofs.YtiglmmofapcefaaDoor.Q
end
section
/- Lemmas on what the printed functions compute (rowOf); no condition. -/
namespace Go.Proofs.YtiglmmofapcefaaDoor.Q
open Go.RowKit Go.Proofs.YtiglmmofapcefaaDoorW.PrintWords Go.Proofs.YtiglmmofapcefaaDoorW.PrintLast Go.Proofs.YtiglmmofapcefaaDoorW.PrintMore
set_option linter.unusedVariables false
set_option linter.unusedSimpArgs false

theorem rowOf_none (x : Int) (l : List S100) (hl : l.length ≤ 1000) (h : ∀ r ∈ l, ¬ r.f0 = x) : ∀ (d n k : Nat), n + d = l.length → d < k →
    impl_rowOf.l0 k x l (l.length : Int) (n : Int) = some (0, 0, 0) := by
  intro d
  induction d with
  | zero =>
    intro n k hd hk
    obtain ⟨k, rfl⟩ : ∃ m, k = m + 1 := ⟨k - 1, by omega⟩
    have c1 : ¬ (n : Int) < (l.length : Int) := by omega
    simp only [impl_rowOf.l0, if_neg c1]
  | succ d ih =>
    intro n k hd hk
    obtain ⟨k, rfl⟩ : ∃ m, k = m + 1 := ⟨k - 1, by omega⟩
    have c1 : (n : Int) < (l.length : Int) := by omega
    have c2 : 0 ≤ (n : Int) := by omega
    have hn : n < l.length := by omega
    have c3 : ¬ (rd_T100 l (n : Int)).f0 = x := by
      have e : rd_T100 l (n : Int) = l[n] := by unfold rd_T100; simp [List.getD, hn]
      rw [e]
      exact h _ (List.getElem_mem hn)
    simp only [impl_rowOf.l0, if_pos c1, if_pos c2, if_neg c3, w64 c2 (by omega)]
    exact ih (n + 1) k (by omega) (by omega)

theorem rowOf_at (x : Int) (k : Nat) (hk : 20 ≤ k) : ∃ y, impl_rowOf.f k x = some (y, kindOf x, sizeOf_ x) := by
  have h : ∃ y, impl_rowOf.f 20 x = some (y, kindOf x, sizeOf_ x) := by
    refine nos_cases (fun x => ∃ y, impl_rowOf.f 20 x = some (y, kindOf x, sizeOf_ x)) ⟨2, by decide +kernel⟩ ⟨3, by decide +kernel⟩ ⟨4, by decide +kernel⟩ ⟨7, by decide +kernel⟩ ⟨11, by decide +kernel⟩ ⟨14, by decide +kernel⟩ ⟨37, by decide +kernel⟩ ⟨38, by decide +kernel⟩ ⟨39, by decide +kernel⟩ ⟨41, by decide +kernel⟩ ⟨48, by decide +kernel⟩ ⟨49, by decide +kernel⟩ ⟨54, by decide +kernel⟩ ⟨95, by decide +kernel⟩ ⟨102, by decide +kernel⟩ ⟨103, by decide +kernel⟩ ?_ x
    intro x e2 e3 e4 e7 e11 e14 e37 e38 e39 e41 e48 e49 e54 e95 e102 e103
    refine ⟨0, ?_⟩
    have hk : kindOf x = 0 := by unfold kindOf; simp [*]
    have hs : sizeOf_ x = 0 := by unfold sizeOf_; simp [*]
    rw [hk, hs]
    obtain ⟨l, hl, hn⟩ : ∃ l, impl_fieldRows.f = some l ∧ l.length = 16 ∧ ∀ r ∈ l, ¬ r.f0 = x := by
      refine ⟨_, rfl, rfl, ?_⟩
      intro r hr
      simp only [List.mem_cons, List.not_mem_nil, or_false] at hr
      rcases hr with rfl | rfl | rfl | rfl | rfl | rfl | rfl | rfl | rfl | rfl | rfl | rfl | rfl | rfl | rfl | rfl <;> (intro h; first | exact e2 h.symm | exact e3 h.symm | exact e4 h.symm | exact e7 h.symm | exact e11 h.symm | exact e14 h.symm | exact e37 h.symm | exact e38 h.symm | exact e39 h.symm | exact e41 h.symm | exact e48 h.symm | exact e49 h.symm | exact e54 h.symm | exact e95 h.symm | exact e102 h.symm | exact e103 h.symm)
    unfold impl_rowOf.f
    rw [hl]
    exact rowOf_none x l (by omega) hn.2 16 0 20 (by omega) (by omega)
  obtain ⟨y, h⟩ := h
  exact ⟨y, later (g := fun k => impl_rowOf.f k x) (fun k => impl_rowOf.mono x k) h k hk⟩
end Go.Proofs.YtiglmmofapcefaaDoor.Q
end
section
/- Lemmas on what the printed functions compute (specKind); no condition. -/
namespace Go.Proofs.YtiglmmofapcefaaDoor.Q
open Go.RowKit Go.Proofs.YtiglmmofapcefaaDoorW.PrintWords Go.Proofs.YtiglmmofapcefaaDoorW.PrintLast Go.Proofs.YtiglmmofapcefaaDoorW.PrintMore
set_option linter.unusedVariables false
set_option linter.unusedSimpArgs false

theorem spec_FieldKind_at (x : Int) (k : Nat) (hk : 20 ≤ k) : spec_FieldKind.f k x = some (kindOf x) := by
  refine later (g := fun k => spec_FieldKind.f k x) (fun k => spec_FieldKind.mono x k) ?_ k hk
  show spec_FieldKind.f 20 x = some (kindOf x)
  refine nos_cases (fun x => spec_FieldKind.f 20 x = some (kindOf x)) (by decide +kernel) (by decide +kernel) (by decide +kernel) (by decide +kernel) (by decide +kernel) (by decide +kernel) (by decide +kernel) (by decide +kernel) (by decide +kernel) (by decide +kernel) (by decide +kernel) (by decide +kernel) (by decide +kernel) (by decide +kernel) (by decide +kernel) (by decide +kernel) ?_ x
  intro x e2 e3 e4 e7 e11 e14 e37 e38 e39 e41 e48 e49 e54 e95 e102 e103
  unfold kindOf
  simp [spec_FieldKind.f, spec_FieldKind.j0, spec_FieldKind.j1, spec_FieldKind.j2, *]
end Go.Proofs.YtiglmmofapcefaaDoor.Q
end
section
/- Lemmas on what the printed functions compute (specSize); no condition. -/
namespace Go.Proofs.YtiglmmofapcefaaDoor.Q
open Go.RowKit Go.Proofs.YtiglmmofapcefaaDoorW.PrintWords Go.Proofs.YtiglmmofapcefaaDoorW.PrintLast Go.Proofs.YtiglmmofapcefaaDoorW.PrintMore
set_option linter.unusedVariables false
set_option linter.unusedSimpArgs false

theorem spec_FieldSize_at (x : Int) (k : Nat) (hk : 20 ≤ k) : spec_FieldSize.f k x = some (sizeOf_ x) := by
  refine later (g := fun k => spec_FieldSize.f k x) (fun k => spec_FieldSize.mono x k) ?_ k hk
  show spec_FieldSize.f 20 x = some (sizeOf_ x)
  refine nos_cases (fun x => spec_FieldSize.f 20 x = some (sizeOf_ x)) (by decide +kernel) (by decide +kernel) (by decide +kernel) (by decide +kernel) (by decide +kernel) (by decide +kernel) (by decide +kernel) (by decide +kernel) (by decide +kernel) (by decide +kernel) (by decide +kernel) (by decide +kernel) (by decide +kernel) (by decide +kernel) (by decide +kernel) (by decide +kernel) ?_ x
  intro x e2 e3 e4 e7 e11 e14 e37 e38 e39 e41 e48 e49 e54 e95 e102 e103
  unfold sizeOf_
  simp [spec_FieldSize.f, spec_FieldSize.j0, spec_FieldSize.j1, spec_FieldSize.j2, *]
end Go.Proofs.YtiglmmofapcefaaDoor.Q
end
section
/- Lemmas on what the printed functions compute (printable); no condition. -/
namespace Go.Proofs.YtiglmmofapcefaaDoor.Q
open Go.RowKit Go.Proofs.YtiglmmofapcefaaDoorW.PrintWords Go.Proofs.YtiglmmofapcefaaDoorW.PrintLast Go.Proofs.YtiglmmofapcefaaDoorW.PrintMore
set_option linter.unusedVariables false
set_option linter.unusedSimpArgs false

def isPri (c : Int) : Bool := decide (32 ≤ c) && decide (c ≤ 126)

theorem spec_Printable_l (s : ByteArray) (hs : s.size ≤ 140737488351232) : ∀ (d n k : Nat), n + d = s.size → d < k →
    spec_Printable.l0 k s (n : Int) = some (((bytesOf s).drop n).all isPri) := by
  intro d
  induction d with
  | zero =>
    intro n k hd hk
    obtain ⟨k, rfl⟩ : ∃ m, k = m + 1 := ⟨k - 1, by omega⟩
    simp only [spec_Printable.l0]
    rw [if_neg (by omega), List.drop_of_length_le (by rw [bytesOf_length]; omega)]
    simp
  | succ d ih =>
    intro n k hd hk
    obtain ⟨k, rfl⟩ : ∃ m, k = m + 1 := ⟨k - 1, by omega⟩
    simp only [spec_Printable.l0]
    rw [if_pos (by omega), if_pos (by omega), drop_bt s n (by omega), List.all_cons]
    by_cases h1 : bt s (n : Int) < 32
    · rw [if_pos h1]
      have e : isPri (bt s (n : Int)) = false := by unfold isPri; simp; omega
      rw [e]; simp
    · rw [if_neg h1]
      by_cases h2 : bt s (n : Int) > 126
      · rw [if_pos h2]
        have e : isPri (bt s (n : Int)) = false := by unfold isPri; simp; omega
        rw [e]; simp
      · rw [if_neg h2, w64 (by omega) (by omega)]
        have e : isPri (bt s (n : Int)) = true := by unfold isPri; simp; omega
        rw [e, Bool.true_and]
        exact ih (n + 1) k (by omega) (by omega)

theorem spec_Printable_at (s : ByteArray) (hs : s.size ≤ 140737488351232) (k : Nat) (hk : s.size < k) : spec_Printable.f k s = some ((bytesOf s).all isPri) := by
  unfold spec_Printable.f
  have h := spec_Printable_l s hs s.size 0 k (by omega) hk
  simpa using h

theorem impl_Printable_l (s : ByteArray) (hs : s.size ≤ 140737488351232) : ∀ (d n k : Nat), n + d = s.size → d < k →
    impl_Printable.l0 k s (s.size : Int) (n : Int) = some (((bytesOf s).drop n).all isPri) := by
  intro d
  induction d with
  | zero =>
    intro n k hd hk
    obtain ⟨k, rfl⟩ : ∃ m, k = m + 1 := ⟨k - 1, by omega⟩
    simp only [impl_Printable.l0]
    rw [if_neg (by omega), List.drop_of_length_le (by rw [bytesOf_length]; omega)]
    simp
  | succ d ih =>
    intro n k hd hk
    obtain ⟨k, rfl⟩ : ∃ m, k = m + 1 := ⟨k - 1, by omega⟩
    simp only [impl_Printable.l0]
    rw [if_pos (by omega), if_pos (by omega), if_pos (by omega), drop_bt s n (by omega), List.all_cons]
    by_cases h1 : bt s (n : Int) < 32
    · rw [if_pos h1]
      have e : isPri (bt s (n : Int)) = false := by unfold isPri; simp; omega
      rw [e]; simp
    · rw [if_neg h1]
      by_cases h2 : bt s (n : Int) > 126
      · rw [if_pos h2]
        have e : isPri (bt s (n : Int)) = false := by unfold isPri; simp; omega
        rw [e]; simp
      · rw [if_neg h2, w64 (by omega) (by omega)]
        have e : isPri (bt s (n : Int)) = true := by unfold isPri; simp; omega
        rw [e, Bool.true_and]
        exact ih (n + 1) k (by omega) (by omega)

theorem impl_Printable_at (s : ByteArray) (hs : s.size ≤ 140737488351232) (k : Nat) (hk : s.size < k) : impl_Printable.f k s = some ((bytesOf s).all isPri) := by
  unfold impl_Printable.f
  have h := impl_Printable_l s hs s.size 0 k (by omega) hk
  simpa using h
end Go.Proofs.YtiglmmofapcefaaDoor.Q
end
section
namespace Go.Proofs.YtiglmmofapcefaaDoor.Q
open Go.RowKit Go.Proofs.YtiglmmofapcefaaDoorW.PrintWords Go.Proofs.YtiglmmofapcefaaDoorW.PrintLast Go.Proofs.YtiglmmofapcefaaDoorW.PrintMore
attribute [local go_sem] max2_int min2_int max_two min_two max_three min_three max_four min_four
set_option linter.unusedVariables false
set_option linter.unusedSimpArgs false
def spec_FieldOk.j0 : Nat → ByteArray → Int → Bool → Option (Bool)
 | 0, _, _, _ => none
 | k + 1, x1, x5, x40 => if x40 = true then ((spec_Printable.f k x1).bind fun t246 => (if t246 = true then ((spec_l01In.f (x1.size : Int) 1 x5).bind fun t247 => (some t247)) else (some false))) else (some false)
def spec_FieldOk.f (k : Nat) (a0 : Int) (a1 : ByteArray) : Option (Bool) := (spec_FieldSize.f k a0).bind fun t241 => ((spec_FieldKind.f k a0).bind fun t242 => (if t242 = 1 then ((spec_Digits.f k a1).bind fun t243 => (if t243 = true then (some ((a1.size : Int) == t241)) else (some false))) else (if t242 = 2 then ((spec_Printable.f k a1).bind fun t244 => (if t244 = true then (some ((a1.size : Int) == t241)) else (some false))) else (if t242 = 3 then ((spec_Digits.f k a1).bind fun t245 => (if t245 = true then (some (decide ((a1.size : Int) ≤ t241))) else (some false))) else (if t242 = 4 then (spec_FieldOk.j0 k a1 t241 (t242 == 4)) else (spec_FieldOk.j0 k a1 t241 (t242 == 5)))))))
theorem spec_FieldOk.mono_l : ∀ k, (∀ y0 y1 y2, LeO (spec_FieldOk.j0 k y0 y1 y2) (spec_FieldOk.j0 (k + 1) y0 y1 y2))
 | 0 => fun _ _ _ r h => by simp [spec_FieldOk.j0] at h
 | k + 1 => by
  have ih0 := spec_FieldOk.mono_l k
  ·intro y0 y1 y2
   unfold spec_FieldOk.j0
   repeat' first
   | (with_reducible exact ih0 _ _ _)
   | (with_reducible exact spec_Digits.mono _ _)
   | (with_reducible exact spec_FieldKind.mono _ _)
   | (with_reducible exact spec_FieldSize.mono _ _)
   | (with_reducible exact spec_Printable.mono _ _)
   | (with_reducible exact LeO.refl _)
   | (with_reducible exact LeO.none _)
   | (with_reducible refine LeO.ite ?_ ?_)
   | (with_reducible refine LeO.bind ?_ (fun _ => ?_))
   | exact ih0 _ _ _
   | exact spec_Digits.mono _ _
   | exact spec_FieldKind.mono _ _
   | exact spec_FieldSize.mono _ _
   | exact spec_Printable.mono _ _
   | exact LeO.none _
   | refine LeO.ite ?_ ?_
   | refine LeO.bind ?_ (fun _ => ?_)
theorem spec_FieldOk.mono : ∀ a0 a1 k, LeO (spec_FieldOk.f k a0 a1) (spec_FieldOk.f (k + 1) a0 a1) := by
 intro a0 a1 k
 have ih0 := spec_FieldOk.mono_l k
 unfold spec_FieldOk.f
 repeat' first
   | (with_reducible exact ih0 _ _ _)
   | (with_reducible exact spec_Digits.mono _ _)
   | (with_reducible exact spec_FieldKind.mono _ _)
   | (with_reducible exact spec_FieldSize.mono _ _)
   | (with_reducible exact spec_Printable.mono _ _)
   | (with_reducible exact LeO.refl _)
   | (with_reducible exact LeO.none _)
   | (with_reducible refine LeO.ite ?_ ?_)
   | (with_reducible refine LeO.bind ?_ (fun _ => ?_))
   | exact ih0 _ _ _
   | exact spec_Digits.mono _ _
   | exact spec_FieldKind.mono _ _
   | exact spec_FieldSize.mono _ _
   | exact spec_Printable.mono _ _
   | exact LeO.none _
   | refine LeO.ite ?_ ?_
   | refine LeO.bind ?_ (fun _ => ?_)
set_option maxHeartbeats 8000000 in
set_option maxRecDepth 100000 in
theorem spec_FieldOk.calls (k : Nat) (a0 : Int) (a1 : ByteArray) (r : Bool) (w : World) (h : spec_FieldOk.f k a0 a1 = some r) :
  Calls Tryd.prog 74 #[.int .i64 a0, .string a1] w fun e w' => e = .returned (.bool r) ∧ Drawn0 w w' := by
 have H : ((spec_FieldSize.f k a0).bind fun t241 => ((spec_FieldKind.f k a0).bind fun t242 => (if t242 = 1 then ((spec_Digits.f k a1).bind fun t243 => (if t243 = true then (some ((a1.size : Int) == t241)) else (some false))) else (if t242 = 2 then ((spec_Printable.f k a1).bind fun t244 => (if t244 = true then (some ((a1.size : Int) == t241)) else (some false))) else (if t242 = 3 then ((spec_Digits.f k a1).bind fun t245 => (if t245 = true then (some (decide ((a1.size : Int) ≤ t241))) else (some false))) else (if t242 = 4 then (spec_FieldOk.j0 k a1 t241 (t242 == 4)) else (spec_FieldOk.j0 k a1 t241 (t242 == 5)))))))) = some r := h
 clear h
 replace H := Option.bind_eq_some_iff.mp H
 obtain ⟨t241, A30, H⟩ := H
 replace H : ((spec_FieldKind.f k a0).bind fun t242 => (if t242 = 1 then ((spec_Digits.f k a1).bind fun t243 => (if t243 = true then (some ((a1.size : Int) == t241)) else (some false))) else (if t242 = 2 then ((spec_Printable.f k a1).bind fun t244 => (if t244 = true then (some ((a1.size : Int) == t241)) else (some false))) else (if t242 = 3 then ((spec_Digits.f k a1).bind fun t245 => (if t245 = true then (some (decide ((a1.size : Int) ≤ t241))) else (some false))) else (if t242 = 4 then (spec_FieldOk.j0 k a1 t241 (t242 == 4)) else (spec_FieldOk.j0 k a1 t241 (t242 == 5))))))) = some r := H
 have A3 := Aside0.mk A30
 clear A30
 replace H := Option.bind_eq_some_iff.mp H
 obtain ⟨t242, A40, H⟩ := H
 replace H : (if t242 = 1 then ((spec_Digits.f k a1).bind fun t243 => (if t243 = true then (some ((a1.size : Int) == t241)) else (some false))) else (if t242 = 2 then ((spec_Printable.f k a1).bind fun t244 => (if t244 = true then (some ((a1.size : Int) == t241)) else (some false))) else (if t242 = 3 then ((spec_Digits.f k a1).bind fun t245 => (if t245 = true then (some (decide ((a1.size : Int) ≤ t241))) else (some false))) else (if t242 = 4 then (spec_FieldOk.j0 k a1 t241 (t242 == 4)) else (spec_FieldOk.j0 k a1 t241 (t242 == 5)))))) = some r := H
 have A4 := Aside0.mk A40
 clear A40
 by_cases c5 : t242 = 1
 ·rw [if_pos c5] at H
  have c5b0 : (t242 == 1) = true := beq_iff_eq.mpr c5
  have c5b1 : (t242 != 1) = false := bne_eq_false_iff_eq.mpr c5
  clear c5
  replace H := Option.bind_eq_some_iff.mp H
  obtain ⟨t243, A60, H⟩ := H
  replace H : (if t243 = true then (some ((a1.size : Int) == t241)) else (some false)) = some r := H
  have A6 := Aside0.mk A60
  clear A60
  by_cases c7 : t243 = true
  ·subst c7
   have H1 : (some ((a1.size : Int) == t241)) = some r := by rw [if_pos rfl] at H; exact H
   clear H
   have H := H1
   clear H1
   obtain rfl := Option.some.inj H
   go_enter Tryd.func74, Tryd.ntmps74
   go_wp2_with (first | ((with_reducible refine gate_callee (f := 79) rfl ?_); refine goesL_ (some 7) rfl rfl Tryd.func79 (by kernel_rfl) rfl #[.int .i64 a0] rfl (by (try simp only [List.map_toArray, List.map_cons, List.map_nil]); first | done | rfl | (simp only [List.length_drop, List.length_take]; rfl)) ?_; (with_reducible refine (spec_FieldSize.calls k a0 t241 _ A3.out).mono ?_); rintro e w' ⟨rfl, ⟨nd, rfl⟩⟩; refine ⟨_, rfl, ?_⟩) | ((with_reducible refine gate_callee (f := 75) rfl ?_); refine goesL_ (some 9) rfl rfl Tryd.func75 (by kernel_rfl) rfl #[.int .i64 a0] rfl (by (try simp only [List.map_toArray, List.map_cons, List.map_nil]); first | done | rfl | (simp only [List.length_drop, List.length_take]; rfl)) ?_; (with_reducible refine (spec_FieldKind.calls k a0 t242 _ A4.out).mono ?_); rintro e w' ⟨rfl, ⟨nd, rfl⟩⟩; refine ⟨_, rfl, ?_⟩) | ((with_reducible refine gate_callee (f := 69) rfl ?_); refine goesL_ (some 13) rfl rfl Tryd.func69 (by kernel_rfl) rfl #[.string a1] rfl (by (try simp only [List.map_toArray, List.map_cons, List.map_nil]); first | done | rfl | (simp only [List.length_drop, List.length_take]; rfl)) ?_; (with_reducible refine (spec_Digits.calls k a1 true _ A6.out).mono ?_); rintro e w' ⟨rfl, ⟨nd, rfl⟩⟩; refine ⟨_, rfl, ?_⟩))
   go_ret
   exact ⟨by first | rfl | (simp; done) | (simp [*]; done) | (simp [i64_w, IntKind.wrap_u8, e256_]; done) | (simp; generalize ByteArray.toList _ = zz_; cases zz_ <;> rfl), by repeat (first | exact Drawn0.refl _ | apply Drawn0.step)⟩
  ·replace c7 := Bool.eq_false_iff.mpr c7
   subst c7
   have H1 : (some false) = some r := by rw [if_neg (show ¬ (false = true) by decide)] at H; exact H
   clear H
   have H := H1
   clear H1
   obtain rfl := Option.some.inj H
   go_enter Tryd.func74, Tryd.ntmps74
   go_wp2_with (first | ((with_reducible refine gate_callee (f := 79) rfl ?_); refine goesL_ (some 7) rfl rfl Tryd.func79 (by kernel_rfl) rfl #[.int .i64 a0] rfl (by (try simp only [List.map_toArray, List.map_cons, List.map_nil]); first | done | rfl | (simp only [List.length_drop, List.length_take]; rfl)) ?_; (with_reducible refine (spec_FieldSize.calls k a0 t241 _ A3.out).mono ?_); rintro e w' ⟨rfl, ⟨nd, rfl⟩⟩; refine ⟨_, rfl, ?_⟩) | ((with_reducible refine gate_callee (f := 75) rfl ?_); refine goesL_ (some 9) rfl rfl Tryd.func75 (by kernel_rfl) rfl #[.int .i64 a0] rfl (by (try simp only [List.map_toArray, List.map_cons, List.map_nil]); first | done | rfl | (simp only [List.length_drop, List.length_take]; rfl)) ?_; (with_reducible refine (spec_FieldKind.calls k a0 t242 _ A4.out).mono ?_); rintro e w' ⟨rfl, ⟨nd, rfl⟩⟩; refine ⟨_, rfl, ?_⟩) | ((with_reducible refine gate_callee (f := 69) rfl ?_); refine goesL_ (some 13) rfl rfl Tryd.func69 (by kernel_rfl) rfl #[.string a1] rfl (by (try simp only [List.map_toArray, List.map_cons, List.map_nil]); first | done | rfl | (simp only [List.length_drop, List.length_take]; rfl)) ?_; (with_reducible refine (spec_Digits.calls k a1 false _ A6.out).mono ?_); rintro e w' ⟨rfl, ⟨nd, rfl⟩⟩; refine ⟨_, rfl, ?_⟩))
   go_ret
   exact ⟨by first | rfl | (simp; done) | (simp [*]; done) | (simp [i64_w, IntKind.wrap_u8, e256_]; done) | (simp; generalize ByteArray.toList _ = zz_; cases zz_ <;> rfl), by repeat (first | exact Drawn0.refl _ | apply Drawn0.step)⟩
 ·rw [if_neg c5] at H
  have c5b0 : (t242 == 1) = false := beq_eq_false_iff_ne.mpr c5
  have c5b1 : (t242 != 1) = true := bne_iff_ne.mpr c5
  by_cases c8 : t242 = 2
  ·rw [if_pos c8] at H
   have c8b0 : (t242 == 2) = true := beq_iff_eq.mpr c8
   have c8b1 : (t242 != 2) = false := bne_eq_false_iff_eq.mpr c8
   clear c8
   replace H := Option.bind_eq_some_iff.mp H
   obtain ⟨t244, A90, H⟩ := H
   replace H : (if t244 = true then (some ((a1.size : Int) == t241)) else (some false)) = some r := H
   have A9 := Aside0.mk A90
   clear A90
   by_cases c10 : t244 = true
   ·subst c10
    have H1 : (some ((a1.size : Int) == t241)) = some r := by rw [if_pos rfl] at H; exact H
    clear H
    have H := H1
    clear H1
    obtain rfl := Option.some.inj H
    go_enter Tryd.func74, Tryd.ntmps74
    go_wp2_with (first | ((with_reducible refine gate_callee (f := 79) rfl ?_); refine goesL_ (some 7) rfl rfl Tryd.func79 (by kernel_rfl) rfl #[.int .i64 a0] rfl (by (try simp only [List.map_toArray, List.map_cons, List.map_nil]); first | done | rfl | (simp only [List.length_drop, List.length_take]; rfl)) ?_; (with_reducible refine (spec_FieldSize.calls k a0 t241 _ A3.out).mono ?_); rintro e w' ⟨rfl, ⟨nd, rfl⟩⟩; refine ⟨_, rfl, ?_⟩) | ((with_reducible refine gate_callee (f := 75) rfl ?_); refine goesL_ (some 9) rfl rfl Tryd.func75 (by kernel_rfl) rfl #[.int .i64 a0] rfl (by (try simp only [List.map_toArray, List.map_cons, List.map_nil]); first | done | rfl | (simp only [List.length_drop, List.length_take]; rfl)) ?_; (with_reducible refine (spec_FieldKind.calls k a0 t242 _ A4.out).mono ?_); rintro e w' ⟨rfl, ⟨nd, rfl⟩⟩; refine ⟨_, rfl, ?_⟩) | ((with_reducible refine gate_callee (f := 81) rfl ?_); refine goesL_ (some 23) rfl rfl Tryd.func81 (by kernel_rfl) rfl #[.string a1] rfl (by (try simp only [List.map_toArray, List.map_cons, List.map_nil]); first | done | rfl | (simp only [List.length_drop, List.length_take]; rfl)) ?_; (with_reducible refine (spec_Printable.calls k a1 true _ A9.out).mono ?_); rintro e w' ⟨rfl, ⟨nd, rfl⟩⟩; refine ⟨_, rfl, ?_⟩))
    go_ret
    exact ⟨by first | rfl | (simp; done) | (simp [*]; done) | (simp [i64_w, IntKind.wrap_u8, e256_]; done) | (simp; generalize ByteArray.toList _ = zz_; cases zz_ <;> rfl), by repeat (first | exact Drawn0.refl _ | apply Drawn0.step)⟩
   ·replace c10 := Bool.eq_false_iff.mpr c10
    subst c10
    have H1 : (some false) = some r := by rw [if_neg (show ¬ (false = true) by decide)] at H; exact H
    clear H
    have H := H1
    clear H1
    obtain rfl := Option.some.inj H
    go_enter Tryd.func74, Tryd.ntmps74
    go_wp2_with (first | ((with_reducible refine gate_callee (f := 79) rfl ?_); refine goesL_ (some 7) rfl rfl Tryd.func79 (by kernel_rfl) rfl #[.int .i64 a0] rfl (by (try simp only [List.map_toArray, List.map_cons, List.map_nil]); first | done | rfl | (simp only [List.length_drop, List.length_take]; rfl)) ?_; (with_reducible refine (spec_FieldSize.calls k a0 t241 _ A3.out).mono ?_); rintro e w' ⟨rfl, ⟨nd, rfl⟩⟩; refine ⟨_, rfl, ?_⟩) | ((with_reducible refine gate_callee (f := 75) rfl ?_); refine goesL_ (some 9) rfl rfl Tryd.func75 (by kernel_rfl) rfl #[.int .i64 a0] rfl (by (try simp only [List.map_toArray, List.map_cons, List.map_nil]); first | done | rfl | (simp only [List.length_drop, List.length_take]; rfl)) ?_; (with_reducible refine (spec_FieldKind.calls k a0 t242 _ A4.out).mono ?_); rintro e w' ⟨rfl, ⟨nd, rfl⟩⟩; refine ⟨_, rfl, ?_⟩) | ((with_reducible refine gate_callee (f := 81) rfl ?_); refine goesL_ (some 23) rfl rfl Tryd.func81 (by kernel_rfl) rfl #[.string a1] rfl (by (try simp only [List.map_toArray, List.map_cons, List.map_nil]); first | done | rfl | (simp only [List.length_drop, List.length_take]; rfl)) ?_; (with_reducible refine (spec_Printable.calls k a1 false _ A9.out).mono ?_); rintro e w' ⟨rfl, ⟨nd, rfl⟩⟩; refine ⟨_, rfl, ?_⟩))
    go_ret
    exact ⟨by first | rfl | (simp; done) | (simp [*]; done) | (simp [i64_w, IntKind.wrap_u8, e256_]; done) | (simp; generalize ByteArray.toList _ = zz_; cases zz_ <;> rfl), by repeat (first | exact Drawn0.refl _ | apply Drawn0.step)⟩
  ·rw [if_neg c8] at H
   have c8b0 : (t242 == 2) = false := beq_eq_false_iff_ne.mpr c8
   have c8b1 : (t242 != 2) = true := bne_iff_ne.mpr c8
   by_cases c11 : t242 = 3
   ·rw [if_pos c11] at H
    have c11b0 : (t242 == 3) = true := beq_iff_eq.mpr c11
    have c11b1 : (t242 != 3) = false := bne_eq_false_iff_eq.mpr c11
    clear c11
    replace H := Option.bind_eq_some_iff.mp H
    obtain ⟨t245, A120, H⟩ := H
    replace H : (if t245 = true then (some (decide ((a1.size : Int) ≤ t241))) else (some false)) = some r := H
    have A12 := Aside0.mk A120
    clear A120
    by_cases c13 : t245 = true
    ·subst c13
     have H1 : (some (decide ((a1.size : Int) ≤ t241))) = some r := by rw [if_pos rfl] at H; exact H
     clear H
     have H := H1
     clear H1
     obtain rfl := Option.some.inj H
     go_enter Tryd.func74, Tryd.ntmps74
     go_wp2_with (first | ((with_reducible refine gate_callee (f := 79) rfl ?_); refine goesL_ (some 7) rfl rfl Tryd.func79 (by kernel_rfl) rfl #[.int .i64 a0] rfl (by (try simp only [List.map_toArray, List.map_cons, List.map_nil]); first | done | rfl | (simp only [List.length_drop, List.length_take]; rfl)) ?_; (with_reducible refine (spec_FieldSize.calls k a0 t241 _ A3.out).mono ?_); rintro e w' ⟨rfl, ⟨nd, rfl⟩⟩; refine ⟨_, rfl, ?_⟩) | ((with_reducible refine gate_callee (f := 75) rfl ?_); refine goesL_ (some 9) rfl rfl Tryd.func75 (by kernel_rfl) rfl #[.int .i64 a0] rfl (by (try simp only [List.map_toArray, List.map_cons, List.map_nil]); first | done | rfl | (simp only [List.length_drop, List.length_take]; rfl)) ?_; (with_reducible refine (spec_FieldKind.calls k a0 t242 _ A4.out).mono ?_); rintro e w' ⟨rfl, ⟨nd, rfl⟩⟩; refine ⟨_, rfl, ?_⟩) | ((with_reducible refine gate_callee (f := 69) rfl ?_); refine goesL_ (some 33) rfl rfl Tryd.func69 (by kernel_rfl) rfl #[.string a1] rfl (by (try simp only [List.map_toArray, List.map_cons, List.map_nil]); first | done | rfl | (simp only [List.length_drop, List.length_take]; rfl)) ?_; (with_reducible refine (spec_Digits.calls k a1 true _ A12.out).mono ?_); rintro e w' ⟨rfl, ⟨nd, rfl⟩⟩; refine ⟨_, rfl, ?_⟩))
     go_ret
     exact ⟨by first | rfl | (simp; done) | (simp [*]; done) | (simp [i64_w, IntKind.wrap_u8, e256_]; done) | (simp; generalize ByteArray.toList _ = zz_; cases zz_ <;> rfl), by repeat (first | exact Drawn0.refl _ | apply Drawn0.step)⟩
    ·replace c13 := Bool.eq_false_iff.mpr c13
     subst c13
     have H1 : (some false) = some r := by rw [if_neg (show ¬ (false = true) by decide)] at H; exact H
     clear H
     have H := H1
     clear H1
     obtain rfl := Option.some.inj H
     go_enter Tryd.func74, Tryd.ntmps74
     go_wp2_with (first | ((with_reducible refine gate_callee (f := 79) rfl ?_); refine goesL_ (some 7) rfl rfl Tryd.func79 (by kernel_rfl) rfl #[.int .i64 a0] rfl (by (try simp only [List.map_toArray, List.map_cons, List.map_nil]); first | done | rfl | (simp only [List.length_drop, List.length_take]; rfl)) ?_; (with_reducible refine (spec_FieldSize.calls k a0 t241 _ A3.out).mono ?_); rintro e w' ⟨rfl, ⟨nd, rfl⟩⟩; refine ⟨_, rfl, ?_⟩) | ((with_reducible refine gate_callee (f := 75) rfl ?_); refine goesL_ (some 9) rfl rfl Tryd.func75 (by kernel_rfl) rfl #[.int .i64 a0] rfl (by (try simp only [List.map_toArray, List.map_cons, List.map_nil]); first | done | rfl | (simp only [List.length_drop, List.length_take]; rfl)) ?_; (with_reducible refine (spec_FieldKind.calls k a0 t242 _ A4.out).mono ?_); rintro e w' ⟨rfl, ⟨nd, rfl⟩⟩; refine ⟨_, rfl, ?_⟩) | ((with_reducible refine gate_callee (f := 69) rfl ?_); refine goesL_ (some 33) rfl rfl Tryd.func69 (by kernel_rfl) rfl #[.string a1] rfl (by (try simp only [List.map_toArray, List.map_cons, List.map_nil]); first | done | rfl | (simp only [List.length_drop, List.length_take]; rfl)) ?_; (with_reducible refine (spec_Digits.calls k a1 false _ A12.out).mono ?_); rintro e w' ⟨rfl, ⟨nd, rfl⟩⟩; refine ⟨_, rfl, ?_⟩))
     go_ret
     exact ⟨by first | rfl | (simp; done) | (simp [*]; done) | (simp [i64_w, IntKind.wrap_u8, e256_]; done) | (simp; generalize ByteArray.toList _ = zz_; cases zz_ <;> rfl), by repeat (first | exact Drawn0.refl _ | apply Drawn0.step)⟩
   ·rw [if_neg c11] at H
    have c11b0 : (t242 == 3) = false := beq_eq_false_iff_ne.mpr c11
    have c11b1 : (t242 != 3) = true := bne_iff_ne.mpr c11
    have HC14 := Aside0.mk H
    clear H
    go_enter Tryd.func74, Tryd.ntmps74
    go_upto_if 40 with (first | ((with_reducible refine gate_callee (f := 79) rfl ?_); refine goesL_ (some 7) rfl rfl Tryd.func79 (by kernel_rfl) rfl #[.int .i64 a0] rfl (by (try simp only [List.map_toArray, List.map_cons, List.map_nil]); first | done | rfl | (simp only [List.length_drop, List.length_take]; rfl)) ?_; (with_reducible refine (spec_FieldSize.calls k a0 t241 _ A3.out).mono ?_); rintro e w' ⟨rfl, ⟨nd, rfl⟩⟩; refine ⟨_, rfl, ?_⟩) | ((with_reducible refine gate_callee (f := 75) rfl ?_); refine goesL_ (some 9) rfl rfl Tryd.func75 (by kernel_rfl) rfl #[.int .i64 a0] rfl (by (try simp only [List.map_toArray, List.map_cons, List.map_nil]); first | done | rfl | (simp only [List.length_drop, List.length_take]; rfl)) ?_; (with_reducible refine (spec_FieldKind.calls k a0 t242 _ A4.out).mono ?_); rintro e w' ⟨rfl, ⟨nd, rfl⟩⟩; refine ⟨_, rfl, ?_⟩))
    (try simp only [Act.put, List.setIfInBounds_toArray, List.set_cons_zero, List.set_cons_succ])
    go_cut [40] (fun v40 wc => ∃ (kq : Nat) (x40_13 : Bool), v40 = .bool x40_13 ∧ Aside0 (spec_FieldOk.j0 kq a1 t241 x40_13 = some r) ∧ Aside0 (kq ≤ k) ∧ Drawn0 w wc)
    case first =>
     have H := HC14.out
     clear HC14
     by_cases c15 : t242 = 4
     ·rw [if_pos c15] at H
      have c15b0 : (t242 == 4) = true := beq_iff_eq.mpr c15
      have c15b1 : (t242 != 4) = false := bne_eq_false_iff_eq.mpr c15
      clear c15
      (first | rw [c15b0] | (simp only [i64_w, i32_w]; rw [c15b0]) | skip)
      have H' := Aside0.mk H
      clear H
      go_wp2
      go_meet
      case rel => exact ⟨_, ((t242 == 4)), (by first | rfl | (simp; done) | (simp [*]; done) | (simp [i64_w, IntKind.wrap_u8, e256_]; done) | (simp; generalize ByteArray.toList _ = zz_; cases zz_ <;> rfl)), H', ⟨by first | omega | exact Nat.le_refl _⟩, by repeat (first | exact Drawn0.refl _ | apply Drawn0.step)⟩
     ·rw [if_neg c15] at H
      have c15b0 : (t242 == 4) = false := beq_eq_false_iff_ne.mpr c15
      have c15b1 : (t242 != 4) = true := bne_iff_ne.mpr c15
      (first | rw [c15b0] | (simp only [i64_w, i32_w]; rw [c15b0]) | skip)
      have H' := Aside0.mk H
      clear H
      go_wp2
      go_meet
      case rel => exact ⟨_, ((t242 == 5)), (by first | rfl | (simp; done) | (simp [*]; done) | (simp [i64_w, IntKind.wrap_u8, e256_]; done) | (simp; generalize ByteArray.toList _ = zz_; cases zz_ <;> rfl)), H', ⟨by first | omega | exact Nat.le_refl _⟩, by repeat (first | exact Drawn0.refl _ | apply Drawn0.step)⟩
    case rest =>
     clear HC14
     try clear c1
     try clear p2
     try clear c5
     try clear c5b0
     try clear c5b1
     try clear c6
     try clear p6
     try clear c7
     try clear c8
     try clear c8b0
     try clear c8b1
     try clear c10
     try clear c11
     try clear c11b0
     try clear c11b1
     try clear c13
     try clear c15
     try clear c15b0
     try clear c15b1
     obtain ⟨kq, x40_13, rfl, HA, HJ13, ⟨mc13, rfl⟩⟩ := hcut
     cases kq with
     | zero => exact absurd HA.out (by simp [spec_FieldOk.j0])
     | succ kj13 =>
      have H := HA.out
      clear HA
      simp only [spec_FieldOk.j0] at H
      by_cases c16 : x40_13 = true
      ·subst c16
       have H1 : ((spec_Printable.f kj13 a1).bind fun t246 => (if t246 = true then ((spec_l01In.f (a1.size : Int) 1 t241).bind fun t247 => (some t247)) else (some false))) = some r := by rw [if_pos rfl] at H; exact H
       clear H
       have H := H1
       clear H1
       replace H := Option.bind_eq_some_iff.mp H
       obtain ⟨t246, A170, H⟩ := H
       replace H : (if t246 = true then ((spec_l01In.f (a1.size : Int) 1 t241).bind fun t247 => (some t247)) else (some false)) = some r := H
       have A17 := Aside0.mk A170
       clear A170
       by_cases c18 : t246 = true
       ·subst c18
        have H1 : ((spec_l01In.f (a1.size : Int) 1 t241).bind fun t247 => (some t247)) = some r := by rw [if_pos rfl] at H; exact H
        clear H
        have H := H1
        clear H1
        replace H := Option.bind_eq_some_iff.mp H
        obtain ⟨t247, A190, H⟩ := H
        replace H : (some t247) = some r := H
        have A19 := Aside0.mk A190
        clear A190
        obtain rfl := Option.some.inj H
        go_wp2_with (first | ((with_reducible refine gate_callee (f := 81) rfl ?_); refine goesL_ (some 44) rfl rfl Tryd.func81 (by kernel_rfl) rfl #[.string a1] rfl (by (try simp only [List.map_toArray, List.map_cons, List.map_nil]); first | done | rfl | (simp only [List.length_drop, List.length_take]; rfl)) ?_; (with_reducible refine (spec_Printable.calls kj13 a1 true _ A17.out).mono ?_); rintro e w' ⟨rfl, ⟨nd, rfl⟩⟩; refine ⟨_, rfl, ?_⟩) | (go_at_call 80; (with_reducible refine (spec_l01In.calls (a1.size : Int) 1 t241 t247 _ A19.out).mono ?_); rintro e w' ⟨rfl, ⟨nd, rfl⟩⟩))
        go_ret
        exact ⟨by first | rfl | (simp; done) | (simp [*]; done) | (simp [i64_w, IntKind.wrap_u8, e256_]; done) | (simp; generalize ByteArray.toList _ = zz_; cases zz_ <;> rfl), by repeat (first | exact Drawn0.refl _ | apply Drawn0.step)⟩
       ·replace c18 := Bool.eq_false_iff.mpr c18
        subst c18
        have H1 : (some false) = some r := by rw [if_neg (show ¬ (false = true) by decide)] at H; exact H
        clear H
        have H := H1
        clear H1
        obtain rfl := Option.some.inj H
        go_wp2_with (first | ((with_reducible refine gate_callee (f := 81) rfl ?_); refine goesL_ (some 44) rfl rfl Tryd.func81 (by kernel_rfl) rfl #[.string a1] rfl (by (try simp only [List.map_toArray, List.map_cons, List.map_nil]); first | done | rfl | (simp only [List.length_drop, List.length_take]; rfl)) ?_; (with_reducible refine (spec_Printable.calls kj13 a1 false _ A17.out).mono ?_); rintro e w' ⟨rfl, ⟨nd, rfl⟩⟩; refine ⟨_, rfl, ?_⟩))
        go_ret
        exact ⟨by first | rfl | (simp; done) | (simp [*]; done) | (simp [i64_w, IntKind.wrap_u8, e256_]; done) | (simp; generalize ByteArray.toList _ = zz_; cases zz_ <;> rfl), by repeat (first | exact Drawn0.refl _ | apply Drawn0.step)⟩
      ·replace c16 := Bool.eq_false_iff.mpr c16
       subst c16
       have H1 : (some false) = some r := by rw [if_neg (show ¬ (false = true) by decide)] at H; exact H
       clear H
       have H := H1
       clear H1
       obtain rfl := Option.some.inj H
       go_wp2
       go_ret
       exact ⟨by first | rfl | (simp; done) | (simp [*]; done) | (simp [i64_w, IntKind.wrap_u8, e256_]; done) | (simp; generalize ByteArray.toList _ = zz_; cases zz_ <;> rfl), by repeat (first | exact Drawn0.refl _ | apply Drawn0.step)⟩
end Go.Proofs.YtiglmmofapcefaaDoor.Q
end
section
/- Lemmas on what the printed functions compute (fieldOk); no condition. -/
namespace Go.Proofs.YtiglmmofapcefaaDoor.Q
open Go.RowKit Go.Proofs.YtiglmmofapcefaaDoorW.PrintWords Go.Proofs.YtiglmmofapcefaaDoorW.PrintLast Go.Proofs.YtiglmmofapcefaaDoorW.PrintMore
set_option linter.unusedVariables false
set_option linter.unusedSimpArgs false

/-- Whether a text is a content of a field. -/
def fieldOk (x : Int) (l : List Int) : Bool :=
  if kindOf x = 1 then digs l && ((l.length : Int) == sizeOf_ x)
  else if kindOf x = 2 then l.all isPri && ((l.length : Int) == sizeOf_ x)
  else if kindOf x = 3 then digs l && decide ((l.length : Int) ≤ sizeOf_ x)
  else if kindOf x = 4 ∨ kindOf x = 5 then l.all isPri && decide (1 ≤ (l.length : Int) ∧ (l.length : Int) ≤ sizeOf_ x)
  else false

theorem kind_range (x : Int) : 0 ≤ kindOf x ∧ kindOf x ≤ 5 := by
  unfold kindOf
  repeat' split
  all_goals omega

theorem spec_FieldOk_at (x : Int) (s : ByteArray) (hs : s.size ≤ 140737488351232) (k : Nat) (hk : s.size + 22 < k) : spec_FieldOk.f k x s = some (fieldOk x (bytesOf s)) := by
  unfold spec_FieldOk.f fieldOk
  rw [spec_FieldSize_at x k (by omega), spec_FieldKind_at x k (by omega)]
  simp only [Option.bind_some]
  obtain ⟨r0, r1⟩ := kind_range x
  rw [bytesOf_length]
  generalize kindOf x = t at r0 r1
  by_cases h1 : t = 1
  · rw [if_pos h1, if_pos h1, spec_Digits_at s hs k (by omega), Option.bind_some]
    cases digs (bytesOf s) <;> simp
  by_cases h2 : t = 2
  · rw [if_neg h1, if_neg h1, if_pos h2, if_pos h2, spec_Printable_at s hs k (by omega), Option.bind_some]
    cases (bytesOf s).all isPri <;> simp
  by_cases h3 : t = 3
  · rw [if_neg h1, if_neg h1, if_neg h2, if_neg h2, if_pos h3, if_pos h3, spec_Digits_at s hs k (by omega), Option.bind_some]
    cases digs (bytesOf s) <;> simp
  rw [if_neg h1, if_neg h1, if_neg h2, if_neg h2, if_neg h3, if_neg h3]
  obtain ⟨k, rfl⟩ : ∃ m, k = m + 1 := ⟨k - 1, by omega⟩
  have hp := spec_Printable_at s hs k (by omega)
  have hin : spec_l01In.f (s.size : Int) 1 (sizeOf_ x) = some (decide (1 ≤ (s.size : Int) ∧ (s.size : Int) ≤ sizeOf_ x)) := by
    unfold spec_l01In.f
    by_cases h : (s.size : Int) ≥ 1
    · have h' : 1 ≤ (s.size : Int) := h
      rw [if_pos h]; simp only [h', true_and]
    · have h' : ¬ 1 ≤ (s.size : Int) := h
      rw [if_neg h]; simp only [h', false_and, decide_false]
  by_cases h4 : t = 4 ∨ t = 5
  · rw [if_pos h4]
    have e : (if t = 4 then spec_FieldOk.j0 (k + 1) s (sizeOf_ x) (t == 4) else spec_FieldOk.j0 (k + 1) s (sizeOf_ x) (t == 5)) = spec_FieldOk.j0 (k + 1) s (sizeOf_ x) true := by
      rcases h4 with h | h
      · rw [if_pos h, h]; rfl
      · rw [if_neg (by omega), h]; rfl
    rw [e, spec_FieldOk.j0, if_pos rfl, hp, Option.bind_some, hin]
    cases (bytesOf s).all isPri <;> simp
  · rw [if_neg h4]
    have e : (if t = 4 then spec_FieldOk.j0 (k + 1) s (sizeOf_ x) (t == 4) else spec_FieldOk.j0 (k + 1) s (sizeOf_ x) (t == 5)) = spec_FieldOk.j0 (k + 1) s (sizeOf_ x) false := by
      have h5 : ¬ t = 5 := fun h => h4 (Or.inr h)
      rw [if_neg (fun h => h4 (Or.inl h)), show (t == 5) = false from by simpa using h5]
    rw [e, spec_FieldOk.j0, if_neg (by simp)]

theorem impl_FieldOk_at (x : Int) (s : ByteArray) (hs : s.size ≤ 140737488351232) (k : Nat) (hk : s.size + 22 < k) : impl_FieldOk.f k x s = some (fieldOk x (bytesOf s)) := by
  unfold impl_FieldOk.f fieldOk
  obtain ⟨y, hy⟩ := rowOf_at x k (by omega)
  rw [hy, Option.bind_some]
  simp only
  obtain ⟨r0, r1⟩ := kind_range x
  have hl := bytesOf_length s
  rw [hl]
  generalize kindOf x = t at r0 r1
  have hin : impl_within.f (s.size : Int) 1 (sizeOf_ x) = some (decide (1 ≤ (s.size : Int) ∧ (s.size : Int) ≤ sizeOf_ x)) := by
    unfold impl_within.f
    by_cases h : 1 ≤ (s.size : Int)
    · rw [if_pos h]; simp only [h, true_and]
    · rw [if_neg h]; simp only [h, false_and, decide_false]
  by_cases h1 : t = 1
  · rw [if_pos h1, if_pos h1, impl_Digits_at s hs k (by omega), Option.bind_some]
    cases digs (bytesOf s) <;> simp
  by_cases h2 : t = 2
  · rw [if_neg h1, if_neg h1, if_pos h2, if_pos h2, impl_Printable_at s hs k (by omega), Option.bind_some]
    cases (bytesOf s).all isPri <;> simp
  by_cases h3 : t = 3
  · rw [if_neg h1, if_neg h1, if_neg h2, if_neg h2, if_pos h3, if_pos h3, impl_Digits_at s hs k (by omega), Option.bind_some, hin]
    by_cases hg : digs (bytesOf s) = true
    · have := (digs_and _ hg).2
      rw [hl] at this
      have h' : 1 ≤ (s.size : Int) := by omega
      rw [if_pos hg, hg]
      simp only [h', true_and, Option.bind_some, Bool.true_and]
    · rw [if_neg hg]
      simp [hg]
  rw [if_neg h1, if_neg h1, if_neg h2, if_neg h2, if_neg h3, if_neg h3]
  obtain ⟨k, rfl⟩ : ∃ m, k = m + 1 := ⟨k - 1, by omega⟩
  have hp := impl_Printable_at s hs k (by omega)
  by_cases h4 : t = 4 ∨ t = 5
  · rw [if_pos h4]
    have e : (if t = 4 then impl_FieldOk.j0 (k + 1) s (t == 4) y t (sizeOf_ x) else impl_FieldOk.j0 (k + 1) s (t == 5) y t (sizeOf_ x)) = impl_FieldOk.j0 (k + 1) s true y t (sizeOf_ x) := by
      rcases h4 with h | h
      · rw [if_pos h, h]; rfl
      · rw [if_neg (by omega), h]; rfl
    rw [e, impl_FieldOk.j0, if_pos rfl, hp, Option.bind_some, hin]
    cases (bytesOf s).all isPri <;> simp
  · rw [if_neg h4]
    have e : (if t = 4 then impl_FieldOk.j0 (k + 1) s (t == 4) y t (sizeOf_ x) else impl_FieldOk.j0 (k + 1) s (t == 5) y t (sizeOf_ x)) = impl_FieldOk.j0 (k + 1) s false y t (sizeOf_ x) := by
      have h5 : ¬ t = 5 := fun h => h4 (Or.inr h)
      rw [if_neg (fun h => h4 (Or.inl h)), show (t == 5) = false from by simpa using h5]
    rw [e, impl_FieldOk.j0, if_neg (by simp)]
end Go.Proofs.YtiglmmofapcefaaDoor.Q
end
section
/- Lemmas on what the printed functions compute (implKind); no condition. -/
namespace Go.Proofs.YtiglmmofapcefaaDoor.Q
open Go.RowKit Go.Proofs.YtiglmmofapcefaaDoorW.PrintWords Go.Proofs.YtiglmmofapcefaaDoorW.PrintLast Go.Proofs.YtiglmmofapcefaaDoorW.PrintMore
set_option linter.unusedVariables false
set_option linter.unusedSimpArgs false

theorem impl_FieldKind_at (x : Int) (k : Nat) (hk : 20 ≤ k) : impl_FieldKind.f k x = some (kindOf x) := by
  obtain ⟨y, h⟩ := rowOf_at x k hk
  unfold impl_FieldKind.f
  rw [h]; rfl
end Go.Proofs.YtiglmmofapcefaaDoor.Q
end
section
/- Lemmas on what the printed functions compute (implSize); no condition. -/
namespace Go.Proofs.YtiglmmofapcefaaDoor.Q
open Go.RowKit Go.Proofs.YtiglmmofapcefaaDoorW.PrintWords Go.Proofs.YtiglmmofapcefaaDoorW.PrintLast Go.Proofs.YtiglmmofapcefaaDoorW.PrintMore
set_option linter.unusedVariables false
set_option linter.unusedSimpArgs false

theorem impl_FieldSize_at (x : Int) (k : Nat) (hk : 20 ≤ k) : impl_FieldSize.f k x = some (sizeOf_ x) := by
  obtain ⟨y, h⟩ := rowOf_at x k hk
  unfold impl_FieldSize.f
  rw [h]; rfl
end Go.Proofs.YtiglmmofapcefaaDoor.Q
end
section
/- Lemmas on what the printed functions compute (getField); no condition. -/
namespace Go.Proofs.YtiglmmofapcefaaDoor.Q
open Go.RowKit Go.Proofs.YtiglmmofapcefaaDoorW.PrintWords Go.Proofs.YtiglmmofapcefaaDoorW.PrintLast Go.Proofs.YtiglmmofapcefaaDoorW.PrintMore
set_option linter.unusedVariables false
set_option linter.unusedSimpArgs false

def prefixed (x : Int) : Bool := decide (kindOf x = 3 ∨ kindOf x = 4 ∨ kindOf x = 5)
def lenWidth (x : Int) : Int := if kindOf x = 5 then 3 else 2
def inDigits (x : Int) : Bool := decide (kindOf x = 1 ∨ kindOf x = 3)
def gfHead (l : List Int) (a1 x : Int) : Int × Int × Bool := if prefixed x = true then getLen l a1 (lenWidth x) else (sizeOf_ x, a1, true)
def pieceAt (l : List Int) (a n : Int) : List Int × Int × Bool := if 0 ≤ a ∧ a ≤ (l.length : Int) ∧ 0 ≤ n ∧ n ≤ (l.length : Int) - a then (cutAt l a.toNat n.toNat, a + n, true) else ([], 0, false)
def gfBody (l : List Int) (a n x : Int) : List Int × Int × Bool := if inDigits x = true then getBcd l a n else pieceAt l a n
def gfFin (x : Int) (r : List Int × Int × Bool) : List Int × Int × Bool := if r.2.2 = true ∧ fieldOk x r.1 = true then (r.1, r.2.1, true) else ([], 0, false)
/-- What GetField answers. -/
def getField (l : List Int) (a1 x : Int) : List Int × Int × Bool :=
  if (gfHead l a1 x).2.2 = true then gfFin x (gfBody l (gfHead l a1 x).2.1 (gfHead l a1 x).1 x) else ([], 0, false)

theorem sizeOf_range (x : Int) : 0 ≤ sizeOf_ x ∧ sizeOf_ x ≤ 60 := by
  unfold sizeOf_
  repeat' split
  all_goals omega

theorem natFrom_le : ∀ (l : List Int) (a n : Nat), l.all isDig = true → a < 10 ^ n → natFrom a l < 10 ^ (n + l.length) := by
  intro l
  induction l with
  | nil => intro a n _ h; exact h
  | cons c t ih =>
    intro a n h ha
    simp only [List.all_cons, Bool.and_eq_true] at h
    have hc := dig_range' h.1
    rw [natFrom]
    have := ih (a * 10 + (c - 48).toNat) (n + 1) h.2 (by rw [Nat.pow_succ]; omega)
    rw [List.length_cons, show n + (t.length + 1) = n + 1 + t.length by omega]
    exact this

theorem getLen_ok (l : List Int) (a1 w : Int) (hb : ∀ c ∈ l, isByte c) (h : (getLen l a1 w).2.2 = true) :
    0 ≤ (getLen l a1 w).1 ∧ (getLen l a1 w).1 ≤ 999 ∧ 0 ≤ (getLen l a1 w).2.1 ∧ (getLen l a1 w).2.1 ≤ (l.length : Int) ∧ 0 ≤ a1 := by
  unfold getLen at h ⊢
  by_cases q : (w = 2 ∨ w = 3) ∧ (getBcd l a1 w).2.2 = true
  · rw [if_pos q]
    obtain ⟨p1, p2, p3, p4, p5, p6, p7, p8⟩ := getBcd_ok l a1 w hb q.2
    have hn := natFrom_le (getBcd l a1 w).1 0 0 (digs_and _ p1).1 (by decide)
    rw [p2] at hn
    have h3 : (10 : Nat) ^ (0 + w.toNat) ≤ 1000 := by
      rcases q.1 with rfl | rfl <;> decide
    simp only
    refine ⟨by omega, by omega, by omega, by omega, p7⟩
  · rw [if_neg q] at h
    exact absurd h (by simp)

theorem gfHead_ok (l : List Int) (a1 x : Int) (hb : ∀ c ∈ l, isByte c) (hl : l.length ≤ 140737488351232) (w1 : -9223372036854775808 ≤ a1 ∧ a1 ≤ 9223372036854775807) (h : (gfHead l a1 x).2.2 = true) :
    0 ≤ (gfHead l a1 x).1 ∧ (gfHead l a1 x).1 ≤ 999 ∧ -9223372036854775808 ≤ (gfHead l a1 x).2.1 ∧ (gfHead l a1 x).2.1 ≤ 9223372036854775807 := by
  unfold gfHead at h ⊢
  by_cases q : prefixed x = true
  · rw [if_pos q] at h ⊢
    obtain ⟨p1, p2, p3, p4, _⟩ := getLen_ok l a1 _ hb h
    omega
  · rw [if_neg q]
    have := sizeOf_range x
    simp only
    omega

theorem impl_lenDigits_at (x : Int) (k : Nat) (hk : 20 ≤ k) : impl_lenDigits.f k x = some (lenWidth x) := by
  unfold impl_lenDigits.f lenWidth
  rw [impl_FieldKind_at x k hk, Option.bind_some]
  split <;> rfl

theorem spec_l03Width_at (t : Int) (k : Nat) (hk : 2 ≤ k) : spec_l03Width.f k t = some (if t = 3 ∨ t = 4 then 2 else if t = 5 then 3 else 0) := by
  obtain ⟨k, rfl⟩ : ∃ m, k = m + 1 := ⟨k - 1, by omega⟩
  unfold spec_l03Width.f
  by_cases h3 : t = 3
  · subst h3; rfl
  by_cases h4 : t = 4
  · subst h4; rfl
  have e4 : (t == 4) = false := by simp [h4]
  rw [if_neg h3, if_neg (by omega), e4, spec_l03Width.j0, if_neg (by simp)]
  split <;> rfl

theorem bytesOf_size (l : List Int) : (strOfNums l).size = l.length := strOfNums_size l

theorem fin_impl (x : Int) (r : List Int × Int × Bool) (hr : ∀ c ∈ r.1, isByte c) (hz : r.1.length ≤ 140737488351232) (hno : r.2.2 = false → r = ([], 0, false)) (e : Int) (he : r.2.2 = true → e = r.2.1) (k : Nat) (hk : r.1.length + 30 ≤ k) :
    (if r.2.2 = true then (impl_FieldOk.f k x (strOfNums r.1)).bind fun t => (if t = true then some (strOfNums r.1, e, true) else some ((⟨#[]⟩ : ByteArray), 0, false)) else some ((⟨#[]⟩ : ByteArray), 0, false)) = some (asStr (gfFin x r)) := by
  unfold gfFin
  cases hr2 : r.2.2 with
  | true =>
    rw [if_pos rfl, impl_FieldOk_at x _ (by rw [strOfNums_size]; exact hz) k (by rw [strOfNums_size]; omega), Option.bind_some, bytesOf_strOfNums _ hr]
    cases hf : fieldOk x r.1 with
    | true => rw [if_pos rfl, if_pos ⟨rfl, rfl⟩, he hr2]; rfl
    | false => rw [if_neg (by simp), if_neg (by simp), asStr_none]
  | false => rw [if_neg (by simp), if_neg (by simp), asStr_none]

theorem getBcd_bytes (l : List Int) (a n : Int) (hb : ∀ c ∈ l, isByte c) : ∀ c ∈ (getBcd l a n).1, isByte c := by
  cases h : (getBcd l a n).2.2 with
  | true => exact (getBcd_ok l a n hb h).2.2.1
  | false => rw [getBcd_no l a n h]; simp

theorem getBcd_size (l : List Int) (a n : Int) (hb : ∀ c ∈ l, isByte c) : (getBcd l a n).1.length ≤ 38 := by
  cases h : (getBcd l a n).2.2 with
  | true =>
    obtain ⟨_, p2, _, _, _, p6, _⟩ := getBcd_ok l a n hb h
    omega
  | false => rw [getBcd_no l a n h]; simp

theorem pieceAt_facts (l : List Int) (a n : Int) (hb : ∀ c ∈ l, isByte c) :
    (∀ c ∈ (pieceAt l a n).1, isByte c) ∧ (pieceAt l a n).1.length ≤ n.toNat ∧ ((pieceAt l a n).2.2 = false → pieceAt l a n = ([], 0, false)) ∧ ((pieceAt l a n).2.2 = true → (pieceAt l a n).1.length = n.toNat ∧ (pieceAt l a n).2.1 = a + n) := by
  unfold pieceAt
  by_cases q : 0 ≤ a ∧ a ≤ (l.length : Int) ∧ 0 ≤ n ∧ n ≤ (l.length : Int) - a
  · rw [if_pos q]
    have := cutAt_length l a.toNat n.toNat (by omega)
    exact ⟨fun c hc => hb c (cutAt_mem _ _ _ c hc), by simp only; omega, fun h => absurd h (by simp), fun _ => ⟨this, rfl⟩⟩
  · rw [if_neg q]
    exact ⟨by simp, by simp, fun _ => rfl, fun h => absurd h (by simp)⟩

theorem gfBody_bytes (l : List Int) (a n x : Int) (hb : ∀ c ∈ l, isByte c) : ∀ c ∈ (gfBody l a n x).1, isByte c := by
  unfold gfBody
  split
  · exact getBcd_bytes l a n hb
  · exact (pieceAt_facts l a n hb).1

theorem impl_GetField_at (l : List Int) (hl : l.length ≤ 140737488351232) (hb : ∀ c ∈ l, isByte c) (a1 x : Int) (w1 : -9223372036854775808 ≤ a1 ∧ a1 ≤ 9223372036854775807) (k : Nat) (hk : 1100 < k) :
    impl_GetField.f k l a1 x = some (asStr (getField l a1 x)) := by
  obtain ⟨k, rfl⟩ : ∃ m, k = m + 3 := ⟨k - 3, by omega⟩
  have h2 : ∀ (a n : Int) (h : Bool), -9223372036854775808 ≤ a ∧ a ≤ 9223372036854775807 → 0 ≤ n ∧ n ≤ 999 → h = inDigits x → impl_GetField.j2 (k + 1) l a x n h = some (asStr (gfFin x (gfBody l a n x))) := by
    intro a n h ha hn e
    subst e
    rw [impl_GetField.j2]
    unfold gfBody
    by_cases q : inDigits x = true
    · rw [if_pos q, if_pos q, impl_GetBcd_at l hl hb a n ha (by omega) k (by omega), Option.bind_some]
      exact fin_impl x (getBcd l a n) (getBcd_bytes l a n hb) (by have := getBcd_size l a n hb; omega) (getBcd_no l a n) _ (fun _ => rfl) k (by have := getBcd_size l a n hb; omega)
    · rw [if_neg q, if_neg q, impl_piece_at]
      obtain ⟨f1, f2, f3, f4⟩ := pieceAt_facts l a n hb
      have h5 := fin_impl x (pieceAt l a n) f1 (by omega) f3 (wrap64 (a + n)) (fun h => by
        rw [(f4 h).2]
        unfold pieceAt at h
        split at h
        · rename_i z
          unfold wrap64
          omega
        · exact absurd h (by simp)) k (by omega)
      rw [← h5]
      unfold pieceAt
      split <;> rfl
  have h1 : ∀ (a n : Int) (ok : Bool), (ok = true → (-9223372036854775808 ≤ a ∧ a ≤ 9223372036854775807) ∧ (0 ≤ n ∧ n ≤ 999)) → impl_GetField.j1 (k + 2) l a x n (kindOf x) ok = some (asStr (if ok = true then gfFin x (gfBody l a n x) else ([], 0, false))) := by
    intro a n ok h
    rw [impl_GetField.j1]
    cases ok with
    | true =>
      obtain ⟨ha, hn⟩ := h rfl
      rw [if_pos rfl, if_pos rfl]
      by_cases q : kindOf x = 1
      · rw [if_pos q]; exact h2 a n true ha hn (by unfold inDigits; simp [q])
      · rw [if_neg q]
        refine h2 a n _ ha hn ?_
        unfold inDigits
        by_cases q3 : kindOf x = 3 <;> simp [q, q3]
    | false => rw [if_neg (by simp), if_neg (by simp), asStr_none]
  have hh := gfHead_ok l a1 x hb hl w1
  have h0 : ∀ h : Bool, h = prefixed x → impl_GetField.j0 (k + 3) l a1 x (sizeOf_ x) (kindOf x) true h = some (asStr (getField l a1 x)) := by
    intro h e
    subst e
    rw [impl_GetField.j0]
    unfold getField
    unfold gfHead at hh ⊢
    by_cases q : prefixed x = true
    · rw [if_pos q, impl_lenDigits_at x (k + 2) (by omega), Option.bind_some, impl_GetLen_at l hl hb a1 _ w1 (k + 2) (by omega), Option.bind_some, if_pos q]
      rw [if_pos q] at hh
      exact h1 _ _ _ (fun z => by have := hh z; omega)
    · rw [if_neg q, if_neg q]
      rw [if_neg q] at hh
      exact h1 a1 (sizeOf_ x) true (fun z => by have := hh rfl; simp only at this; omega)
  unfold impl_GetField.f
  rw [impl_FieldSize_at x _ (by omega), Option.bind_some, impl_FieldKind_at x _ (by omega), Option.bind_some]
  by_cases q3 : kindOf x = 3
  · rw [if_pos q3]; exact h0 true (by unfold prefixed; simp [q3])
  rw [if_neg q3]
  by_cases q4 : kindOf x = 4
  · rw [if_pos q4]; exact h0 true (by unfold prefixed; simp [q4])
  rw [if_neg q4]
  refine h0 _ ?_
  unfold prefixed
  by_cases q5 : kindOf x = 5 <;> simp [q3, q4, q5]

theorem known (x : Int) (h : ¬ kindOf x = 0) : x = 2 ∨ (x = 3 ∨ x = 4 ∨ x = 7 ∨ x = 11 ∨ x = 14 ∨ x = 49) ∨ (x = 37 ∨ x = 38 ∨ x = 39 ∨ x = 41 ∨ x = 95) ∨ (x = 102 ∨ x = 103) ∨ (x = 48 ∨ x = 54) := by
  unfold kindOf at h
  by_cases a : x = 2
  · exact .inl a
  by_cases b : x = 3 ∨ x = 4 ∨ x = 7 ∨ x = 11 ∨ x = 14 ∨ x = 49
  · exact .inr (.inl b)
  by_cases c : x = 37 ∨ x = 38 ∨ x = 39 ∨ x = 41 ∨ x = 95
  · exact .inr (.inr (.inl c))
  by_cases d : x = 102 ∨ x = 103
  · exact .inr (.inr (.inr (.inl d)))
  by_cases e : x = 48 ∨ x = 54
  · exact .inr (.inr (.inr (.inr e)))
  rw [if_neg a, if_neg b, if_neg c, if_neg d, if_neg e] at h
  exact absurd rfl h

theorem size_pos (x : Int) (h : ¬ kindOf x = 0) : 1 ≤ sizeOf_ x := by
  rcases known x h with rfl | (rfl | rfl | rfl | rfl | rfl | rfl) | (rfl | rfl | rfl | rfl | rfl) | (rfl | rfl) | (rfl | rfl) <;> decide

theorem pieceAt_yes (l : List Int) (a n : Int) (h : 0 ≤ a ∧ a ≤ (l.length : Int) ∧ 0 ≤ n ∧ n ≤ (l.length : Int) - a) : pieceAt l a n = (cutAt l a.toNat n.toNat, a + n, true) := if_pos h
theorem pieceAt_no (l : List Int) (a n : Int) (h : ¬ (0 ≤ a ∧ a ≤ (l.length : Int) ∧ 0 ≤ n ∧ n ≤ (l.length : Int) - a)) : pieceAt l a n = ([], 0, false) := if_neg h

theorem fieldOk_len (x : Int) (l : List Int) (h : fieldOk x l = true) : 1 ≤ l.length ∧ (l.length : Int) ≤ sizeOf_ x := by
  unfold fieldOk at h
  have s0 := sizeOf_range x
  have hs : kindOf x = 2 → 1 ≤ sizeOf_ x := fun h => size_pos x (by omega)
  split at h
  · rename_i q
    simp only [Bool.and_eq_true, beq_iff_eq] at h
    have := (digs_and _ h.1).2
    omega
  split at h
  · rename_i q q2
    simp only [Bool.and_eq_true, beq_iff_eq] at h
    have := hs q2
    omega
  split at h
  · simp only [Bool.and_eq_true, decide_eq_true_eq] at h
    have := (digs_and _ h.1).2
    omega
  split at h
  · simp only [Bool.and_eq_true, decide_eq_true_eq] at h
    omega
  · exact absurd h (by simp)

theorem gfFin_digits (x : Int) (l : List Int) (a n : Int) (hb : ∀ c ∈ l, isByte c) (hd : inDigits x = true) (hn : 1 ≤ n) (hn2 : n ≤ sizeOf_ x) (h1 : prefixed x = false → n = sizeOf_ x) :
    gfFin x (getBcd l a n) = getBcd l a n := by
  unfold gfFin
  cases h : (getBcd l a n).2.2 with
  | true =>
    obtain ⟨p1, p2, _⟩ := getBcd_ok l a n hb h
    have hf : fieldOk x (getBcd l a n).1 = true := by
      unfold fieldOk
      have hd' := of_decide_eq_true hd
      rcases hd' with q | q
      · rw [if_pos q, p1]
        have hp : prefixed x = false := by unfold prefixed; simp [q]
        have := h1 hp
        simp only [Bool.true_and, beq_iff_eq]
        omega
      · rw [if_neg (by omega), if_neg (by omega), if_pos q, p1]
        simp only [Bool.true_and, decide_eq_true_eq]
        omega
    rw [if_pos ⟨rfl, hf⟩, ← h]
  | false => rw [if_neg (by simp), getBcd_no l a n h]

theorem gfFin_text (x : Int) (l : List Int) (a n : Int) (hd : inDigits x = false) (h0 : ¬ kindOf x = 0) (hn : 1 ≤ n) (hn2 : n ≤ sizeOf_ x) (h1 : prefixed x = false → n = sizeOf_ x) :
    gfFin x (pieceAt l a n) = if (0 ≤ a ∧ a ≤ (l.length : Int) ∧ n ≤ (l.length : Int) - a) ∧ (cutAt l a.toNat n.toNat).all isPri = true then (cutAt l a.toNat n.toNat, a + n, true) else ([], 0, false) := by
  unfold gfFin
  by_cases q : 0 ≤ a ∧ a ≤ (l.length : Int) ∧ n ≤ (l.length : Int) - a
  · rw [pieceAt_yes l a n ⟨q.1, q.2.1, by omega, q.2.2⟩]
    have hlen := cutAt_length l a.toNat n.toNat (by omega)
    have hf : fieldOk x (cutAt l a.toNat n.toNat) = (cutAt l a.toNat n.toNat).all isPri := by
      unfold fieldOk
      have hd' := of_decide_eq_false hd
      have kr := kind_range x
      rw [if_neg (by omega), hlen]
      by_cases q2 : kindOf x = 2
      · have hp : prefixed x = false := by unfold prefixed; simp [q2]
        have := h1 hp
        rw [if_pos q2]
        have e : (((n.toNat : Nat) : Int) == sizeOf_ x) = true := by simp only [beq_iff_eq]; omega
        rw [e, Bool.and_true]
      · rw [if_neg q2, if_neg (by omega), if_pos (by omega)]
        have e : decide (1 ≤ ((n.toNat : Nat) : Int) ∧ ((n.toNat : Nat) : Int) ≤ sizeOf_ x) = true := decide_eq_true (by omega)
        rw [e, Bool.and_true]
    by_cases z : (cutAt l a.toNat n.toNat).all isPri = true
    · rw [if_pos ⟨rfl, hf.trans z⟩, if_pos ⟨q, z⟩]
    · rw [if_neg (fun h => z (hf.symm.trans h.2)), if_neg (fun h => z h.2)]
  · rw [pieceAt_no l a n (fun h => q ⟨h.1, h.2.1, h.2.2.2⟩), if_neg (by simp), if_neg (fun h => q h.1)]

theorem gfFin_out (x : Int) (l : List Int) (a n : Int) (hb : ∀ c ∈ l, isByte c) (hn : ¬ (1 ≤ n ∧ n ≤ sizeOf_ x)) (h0 : 0 ≤ n) : gfFin x (gfBody l a n x) = ([], 0, false) := by
  unfold gfFin gfBody
  by_cases q : inDigits x = true
  · rw [if_pos q]
    refine if_neg (fun h => ?_)
    obtain ⟨p1, p2, _⟩ := getBcd_ok l a n hb h.1
    have := fieldOk_len x _ h.2
    omega
  · rw [if_neg q]
    refine if_neg (fun h => ?_)
    have p := (pieceAt_facts l a n hb).2.2.2 h.1
    have := fieldOk_len x _ h.2
    omega

theorem spec_l01In_at (a b c : Int) : spec_l01In.f a b c = some (decide (b ≤ a ∧ a ≤ c)) := by
  unfold spec_l01In.f
  by_cases h : a ≥ b
  · rw [if_pos h]; congr 1; apply decide_eq_decide.2; omega
  · rw [if_neg h]; congr 1; symm; apply decide_eq_false; omega

theorem spec_GetField_at (l : List Int) (hl : l.length ≤ 140737488351232) (hb : ∀ c ∈ l, isByte c) (a1 x : Int) (w1 : -9223372036854775808 ≤ a1 ∧ a1 ≤ 9223372036854775807) (k : Nat) (hk : 1100 < k) :
    spec_GetField.f k l a1 x = some (asStr (getField l a1 x)) := by
  obtain ⟨k, rfl⟩ : ∃ m, k = m + 3 := ⟨k - 3, by omega⟩
  have s0 := sizeOf_range x
  have kr := kind_range x
  have h2 : ∀ (a n : Int) (h : Bool), 0 ≤ a ∧ a ≤ 9223372036854775807 → 1 ≤ n ∧ n ≤ sizeOf_ x → (prefixed x = false → n = sizeOf_ x) → ¬ kindOf x = 0 → h = inDigits x → spec_GetField.j2 (k + 1) l a n h = some (asStr (gfFin x (gfBody l a n x))) := by
    intro a n h ha hn h1 hk0 e
    subst e
    rw [spec_GetField.j2]
    unfold gfBody
    by_cases q : inDigits x = true
    · rw [if_pos q, if_pos q, spec_GetBcd_at l hl hb a n (by omega) (by omega) k (by omega), Option.bind_some, gfFin_digits x l a n hb q hn.1 hn.2 h1]
    · rw [if_neg q, if_neg q, gfFin_text x l a n (by simpa using q) hk0 hn.1 hn.2 h1]
      by_cases z1 : a > (l.length : Int)
      · rw [if_pos z1, if_neg (by omega), asStr_none]
      have e0 : wrap64 ((l.length : Int) - a) = (l.length : Int) - a := by unfold wrap64; omega
      rw [if_neg z1, e0]
      by_cases z2 : n > (l.length : Int) - a
      · rw [if_pos z2, if_neg (by omega), asStr_none]
      have e1 : wrap64 (a + n) = a + n := by unfold wrap64; omega
      have e2 : (a + n).toNat = a.toNat + n.toNat := by omega
      have hlen := cutAt_length l a.toNat n.toNat (by omega)
      rw [if_neg z2, e1, if_pos (by omega), if_pos (by omega), if_pos (by omega), e2, cutAt_take, spec_Printable_at _ (by rw [strOfNums_size]; omega) k (by rw [strOfNums_size]; omega), Option.bind_some, bytesOf_strOfNums _ (fun c hc => hb c (cutAt_mem _ _ _ c hc))]
      by_cases z3 : (cutAt l a.toNat n.toNat).all isPri = true
      · rw [if_pos z3, if_pos ⟨by omega, z3⟩]; rfl
      · rw [if_neg z3, if_neg (fun h => z3 h.2), asStr_none]
  have h1 : ∀ (a n : Int), 0 ≤ a ∧ a ≤ 9223372036854775807 → 1 ≤ n ∧ n ≤ sizeOf_ x → (prefixed x = false → n = sizeOf_ x) → ¬ kindOf x = 0 → spec_GetField.j1 (k + 2) l a (kindOf x) n = some (asStr (gfFin x (gfBody l a n x))) := by
    intro a n ha hn hp hk0
    rw [spec_GetField.j1]
    by_cases q : kindOf x = 1
    · rw [if_pos q]; exact h2 a n true ha hn hp hk0 (by unfold inDigits; simp [q])
    · rw [if_neg q]
      refine h2 a n _ ha hn hp hk0 ?_
      unfold inDigits
      by_cases q3 : kindOf x = 3 <;> simp [q, q3]
  unfold spec_GetField.f
  rw [spec_FieldKind_at x _ (by omega), Option.bind_some, spec_FieldSize_at x _ (by omega), Option.bind_some]
  by_cases q0 : kindOf x = 0
  · rw [if_pos q0, spec_GetField.j0, if_pos rfl]
    have hz : getField l a1 x = ([], 0, false) := by
      have hp : ¬ prefixed x = true := by unfold prefixed; simp [q0]
      unfold getField gfHead
      rw [if_neg hp]
      refine (if_pos rfl).trans ?_
      unfold gfFin fieldOk
      refine if_neg (fun h => ?_)
      have := h.2
      rw [if_neg (by omega), if_neg (by omega), if_neg (by omega), if_neg (by omega)] at this
      exact absurd this (by simp)
    rw [hz, asStr_none]
  have hs1 : 1 ≤ sizeOf_ x := size_pos x q0
  rw [if_neg q0]
  by_cases q1 : a1 < 0
  · rw [decide_eq_true q1, spec_GetField.j0, if_pos rfl]
    have hz : getField l a1 x = ([], 0, false) := by
      unfold getField
      by_cases p : prefixed x = true
      · refine if_neg (fun h => ?_)
        unfold gfHead at h
        rw [if_pos p] at h
        have := (getLen_ok l a1 _ hb h).2.2.2.2
        omega
      · unfold gfHead
        rw [if_neg p]
        refine (if_pos rfl).trans ?_
        unfold gfFin gfBody
        refine if_neg (fun h => ?_)
        by_cases d : inDigits x = true
        · rw [if_pos d] at h
          have := (getBcd_ok l a1 _ hb h.1).2.2.2.2.2.2.1
          omega
        · rw [if_neg d] at h
          have h1 := h.1
          rw [pieceAt_no _ _ _ (fun z => absurd z.1 (by simp only; omega))] at h1
          exact absurd h1 (by simp)
    rw [hz, asStr_none]
  rw [decide_eq_false q1, spec_GetField.j0, if_neg (by simp), spec_l03Width_at _ (k + 2) (by omega), Option.bind_some]
  by_cases p : prefixed x = true
  · have p' := of_decide_eq_true p
    have e : (if kindOf x = 3 ∨ kindOf x = 4 then (2 : Int) else if kindOf x = 5 then 3 else 0) = lenWidth x := by
      unfold lenWidth
      by_cases q5 : kindOf x = 5
      · rw [if_neg (by omega), if_pos q5, if_pos q5]
      · rw [if_pos (by omega), if_neg q5]
    have hw : lenWidth x > 0 := by unfold lenWidth; split <;> omega
    rw [e, if_pos hw, Option.bind_some, spec_GetLen_at l hl hb a1 _ w1 (k + 2) (by omega), Option.bind_some]
    unfold getField gfHead
    rw [if_pos p]
    cases hg : (getLen l a1 (lenWidth x)).2.2 with
    | true =>
      obtain ⟨g1, g2, g3, g4, _⟩ := getLen_ok l a1 _ hb hg
      rw [if_pos rfl, if_pos rfl, spec_l01In_at, Option.bind_some]
      by_cases z : 1 ≤ (getLen l a1 (lenWidth x)).1 ∧ (getLen l a1 (lenWidth x)).1 ≤ sizeOf_ x
      · rw [decide_eq_true z, if_pos rfl]
        exact h1 _ _ (by omega) z (fun h => by rw [p] at h; exact absurd h (by simp)) q0
      · rw [decide_eq_false z, if_neg (by simp), gfFin_out x l _ _ hb z g1, asStr_none]
    | false => rw [if_neg (by simp), if_neg (by simp), asStr_none]
  · have p2 : prefixed x = false := by simpa using p
    have p' := of_decide_eq_false p2
    rw [if_neg (by omega)]
    unfold getField gfHead
    rw [if_neg p]
    refine (h1 a1 (sizeOf_ x) (by omega) (by omega) (fun _ => rfl) q0).trans ?_
    exact congrArg (fun z => some (asStr z)) (if_pos rfl).symm
end Go.Proofs.YtiglmmofapcefaaDoor.Q
end
section
/- Lemmas on what the printed functions compute (getBits); no condition. -/
namespace Go.Proofs.YtiglmmofapcefaaDoor.Q
open Go.RowKit Go.Proofs.YtiglmmofapcefaaDoorW.PrintWords Go.Proofs.YtiglmmofapcefaaDoorW.PrintLast Go.Proofs.YtiglmmofapcefaaDoorW.PrintMore
set_option linter.unusedVariables false
set_option linter.unusedSimpArgs false

def bitOn (b : Int) (j : Nat) : Bool := decide ((b / 2 ^ (7 - j)) % 2 = 1)

theorem bit_spec (b : Int) (j : Nat) (h0 : 0 ≤ b) (h1 : b ≤ 255) (h2 : j < 8) : (Int.tmod (shr .i64 b (7 - (j : Int))) 2 = 1) ↔ bitOn b j = true := by
  have h : ∀ (j : Fin 8) (b : Fin 256), decide (Int.tmod (shr .i64 ((b.val : Nat) : Int) (7 - ((j.val : Nat) : Int))) 2 = 1) = bitOn ((b.val : Nat) : Int) j.val := by decide +kernel
  have := h ⟨j, h2⟩ ⟨b.toNat, by omega⟩
  have e : ((b.toNat : Nat) : Int) = b := by omega
  simp only [e] at this
  rw [← this]
  simp

theorem bit_impl (b : Int) (j : Nat) (h0 : 0 ≤ b) (h1 : b ≤ 255) (h2 : j < 8) : (Go.bits .and .u8 b (shr .u8 128 (j : Int)) = 0) ↔ bitOn b j = false := by
  have h : ∀ (j : Fin 8) (b : Fin 256), decide (Go.bits .and .u8 ((b.val : Nat) : Int) (shr .u8 128 ((j.val : Nat) : Int)) = 0) = !bitOn ((b.val : Nat) : Int) j.val := by decide +kernel
  have := h ⟨j, h2⟩ ⟨b.toNat, by omega⟩
  have e : ((b.toNat : Nat) : Int) = b := by omega
  simp only [e] at this
  constructor
  · intro q
    rw [decide_eq_true q] at this
    simpa using this.symm
  · intro q
    rw [q] at this
    simpa using this

/-- The numbers of the bits that are set, of the first m. -/
def bitsOf (l : List Int) (m : Nat) : List Int := ((List.range m).filter fun i => bitOn (rd l ((i / 8 : Nat) : Int)) (i % 8)).map fun i => ((i + 1 : Nat) : Int)

theorem bitsOf_succ (l : List Int) (m : Nat) : bitsOf l (m + 1) = bitsOf l m ++ (if bitOn (rd l ((m / 8 : Nat) : Int)) (m % 8) = true then [((m + 1 : Nat) : Int)] else []) := by
  unfold bitsOf
  rw [List.range_succ, List.filter_append, List.map_append]
  congr 1
  by_cases h : bitOn (rd l ((m / 8 : Nat) : Int)) (m % 8) = true
  · rw [if_pos h]; simp only [List.filter, h, List.map]
  · have h' : bitOn (rd l ((m / 8 : Nat) : Int)) (m % 8) = false := by simpa using h
    rw [if_neg h]; simp only [List.filter, h', List.map]

theorem bitsOf_length (l : List Int) (m : Nat) : (bitsOf l m).length ≤ m := by
  unfold bitsOf
  rw [List.length_map]
  have := List.length_filter_le (fun i => bitOn (rd l ((i / 8 : Nat) : Int)) (i % 8)) (List.range m)
  simpa using this

theorem rd_cutAt (l : List Int) (a m n : Nat) (h : n < m) (h2 : a + m ≤ l.length) : rd (cutAt l a m) (n : Int) = rd l ((a + n : Nat) : Int) := by
  rw [rd_nat _ _ (by rw [cutAt_length l a m h2]; exact h), rd_nat _ _ (by omega)]
  unfold cutAt
  simp

def getBits (l : List Int) (a1 : Int) : List Int × Int × Bool :=
  if 0 ≤ a1 ∧ a1 ≤ (l.length : Int) - 8 then (bitsOf (cutAt l a1.toNat 8) 64, a1 + 8, true) else ([], 0, false)

theorem spec_GetBits_l (l : List Int) (hl : l.length ≤ 140737488351232) (hb : ∀ c ∈ l, isByte c) (a : Nat) (h3 : a + 8 ≤ l.length) : ∀ (d i k : Nat), i + d = 64 → d < k →
    spec_GetBits.l0 k l (a : Int) (bitsOf (cutAt l a 8) i) ((i + 1 : Nat) : Int) = some (bitsOf (cutAt l a 8) 64, (a : Int) + 8, true) := by
  intro d
  induction d with
  | zero =>
    intro i k hd hk
    obtain ⟨k, rfl⟩ : ∃ m, k = m + 1 := ⟨k - 1, by omega⟩
    have hi : i = 64 := by omega
    subst hi
    have e : wrap64 ((a : Int) + 8) = (a : Int) + 8 := by unfold wrap64; omega
    simp only [spec_GetBits.l0, e]
    rfl
  | succ d ih =>
    intro i k hd hk
    obtain ⟨k, rfl⟩ : ∃ m, k = m + 1 := ⟨k - 1, by omega⟩
    have ih' := ih (i + 1) k (by omega) (by omega)
    have hz := bitsOf_length (cutAt l a 8) i
    have c0 : ((i + 1 : Nat) : Int) ≤ 64 := by omega
    have c1 : 0 ≤ ((a + i / 8 : Nat) : Int) := by omega
    have c2 : ((a + i / 8 : Nat) : Int) < (l.length : Int) := by omega
    have c3 : 0 ≤ (7 : Int) - ((i % 8 : Nat) : Int) := by omega
    have c4 : (bitsOf (cutAt l a 8) i).length < 17592186044416 := by omega
    obtain ⟨b0, b1⟩ := hb _ (rd_mem l (a + i / 8) (by omega))
    rw [bitsOf_succ, rd_cutAt l a 8 (i / 8) (by omega) h3] at ih'
    have hbit := Aside0.mk (bit_spec (rd l ((a + i / 8 : Nat) : Int)) (i % 8) b0 b1 (by omega))
    have q7 : True → wrap64 (rd l ((a + i / 8 : Nat) : Int)) = rd l ((a + i / 8 : Nat) : Int) := fun _ => w64id (by omega) (by omega)
    have e1 : True → wrap64 (((i + 1 : Nat) : Int) - 1) = ((i : Nat) : Int) := by intro _; unfold wrap64; omega
    have e2 : True → Int.tdiv (i : Int) 8 = ((i / 8 : Nat) : Int) := by intro _; rw [Int.tdiv_eq_ediv_of_nonneg (by omega)]; omega
    have e3 : True → Int.tmod (i : Int) 8 = ((i % 8 : Nat) : Int) := by intro _; rw [Int.tmod_eq_emod_of_nonneg (by omega)]; omega
    have e4 : True → wrap64 ((i / 8 : Nat) : Int) = ((i / 8 : Nat) : Int) := fun _ => w64id (by omega) (by omega)
    have e5 : True → wrap64 ((a : Int) + ((i / 8 : Nat) : Int)) = ((a + i / 8 : Nat) : Int) := by intro _; rw [w64id (by omega) (by omega)]; omega
    have e6 : True → wrap64 (7 - ((i % 8 : Nat) : Int)) = 7 - ((i % 8 : Nat) : Int) := fun _ => w64id (by omega) (by omega)
    have e7 : True → wrap64 (((i + 1 : Nat) : Int) + 1) = ((i + 1 + 1 : Nat) : Int) := by intro _; rw [w64id (by omega) (by omega)]; omega
    simp only [spec_GetBits.l0, if_pos c0, e1 trivial, e2 trivial, e3 trivial, e4 trivial, e5 trivial, e6 trivial, e7 trivial, if_pos c1, if_pos c2, if_pos c3, if_pos c4, q7 trivial]
    generalize rd l ((a + i / 8 : Nat) : Int) = b at hbit ih'
    by_cases h : bitOn b (i % 8) = true
    · rw [if_pos (hbit.out.2 h)]
      rw [if_pos h] at ih'
      exact ih'
    · rw [if_neg (fun q => h (hbit.out.1 q))]
      rw [if_neg h, List.append_nil] at ih'
      exact ih'

theorem impl_GetBits_l (l : List Int) (h3 : l.length = 8) (hb : ∀ c ∈ l, isByte c) (a1 : Int) (ha : 0 ≤ a1) (ha2 : a1 ≤ 140737488351232) : ∀ (d i k : Nat), i + d = 64 → d < k →
    impl_GetBits.l0 k a1 l (bitsOf l i) ((i + 1 : Nat) : Int) = some (bitsOf l 64, a1 + 8, true) := by
  intro d
  induction d with
  | zero =>
    intro i k hd hk
    obtain ⟨k, rfl⟩ : ∃ m, k = m + 1 := ⟨k - 1, by omega⟩
    have hi : i = 64 := by omega
    subst hi
    have e : wrap64 (a1 + 8) = a1 + 8 := by unfold wrap64; omega
    simp only [impl_GetBits.l0, e]
    rfl
  | succ d ih =>
    intro i k hd hk
    obtain ⟨k, rfl⟩ : ∃ m, k = m + 1 := ⟨k - 1, by omega⟩
    have ih' := ih (i + 1) k (by omega) (by omega)
    have hz := bitsOf_length l i
    have c0 : ((i + 1 : Nat) : Int) ≤ 64 := by omega
    have c1 : 0 ≤ ((i / 8 : Nat) : Int) := by omega
    have c2 : ((i / 8 : Nat) : Int) < (l.length : Int) := by omega
    have c3 : 0 ≤ ((i % 8 : Nat) : Int) := by omega
    have c4 : (bitsOf l i).length < 17592186044416 := by omega
    obtain ⟨b0, b1⟩ := hb _ (rd_mem l (i / 8) (by omega))
    rw [bitsOf_succ] at ih'
    have hbit := Aside0.mk (bit_impl (rd l ((i / 8 : Nat) : Int)) (i % 8) b0 b1 (by omega))
    have e1 : True → wrap64 (((i + 1 : Nat) : Int) - 1) = ((i : Nat) : Int) := by intro _; unfold wrap64; omega
    have e2 : True → Int.tdiv (i : Int) 8 = ((i / 8 : Nat) : Int) := by intro _; rw [Int.tdiv_eq_ediv_of_nonneg (by omega)]; omega
    have e3 : True → Int.tmod (i : Int) 8 = ((i % 8 : Nat) : Int) := by intro _; rw [Int.tmod_eq_emod_of_nonneg (by omega)]; omega
    have e4 : True → wrap64 ((i / 8 : Nat) : Int) = ((i / 8 : Nat) : Int) := fun _ => w64id (by omega) (by omega)
    have e7 : True → wrap64 (((i + 1 : Nat) : Int) + 1) = ((i + 1 + 1 : Nat) : Int) := by intro _; rw [w64id (by omega) (by omega)]; omega
    simp only [impl_GetBits.l0, if_pos c0, e1 trivial, e2 trivial, e3 trivial, e4 trivial, e7 trivial, if_pos c1, if_pos c2, if_pos c3, if_pos c4]
    generalize rd l ((i / 8 : Nat) : Int) = b at hbit ih'
    by_cases h : bitOn b (i % 8) = true
    · rw [if_neg (fun q => by rw [hbit.out.1 q] at h; exact Bool.false_ne_true h)]
      rw [if_pos h] at ih'
      exact ih'
    · rw [if_pos (hbit.out.2 (by simpa using h))]
      rw [if_neg h, List.append_nil] at ih'
      exact ih'

theorem spec_GetBits_at (l : List Int) (hl : l.length ≤ 140737488351232) (hb : ∀ c ∈ l, isByte c) (a1 : Int) (w1 : -9223372036854775808 ≤ a1 ∧ a1 ≤ 9223372036854775807) (k : Nat) (hk : 100 < k) :
    spec_GetBits.f k l a1 = some (getBits l a1) := by
  obtain ⟨k, rfl⟩ : ∃ m, k = m + 1 := ⟨k - 1, by omega⟩
  unfold spec_GetBits.f getBits
  have e0 : wrap64 ((l.length : Int) - 8) = (l.length : Int) - 8 := by unfold wrap64; omega
  rw [e0]
  by_cases h1 : a1 < 0
  · rw [if_pos h1, if_neg (by omega), spec_GetBits.j0, if_pos rfl]
  rw [if_neg h1]
  by_cases h2 : a1 > (l.length : Int) - 8
  · rw [decide_eq_true h2, spec_GetBits.j0, if_pos rfl, if_neg (by omega)]
  rw [decide_eq_false h2, spec_GetBits.j0, if_neg (by simp), if_pos (by omega)]
  have h := spec_GetBits_l l hl hb a1.toNat (by omega) 64 0 k (by omega) (by omega)
  have ea : ((a1.toNat : Nat) : Int) = a1 := by omega
  rw [ea] at h
  exact h

theorem impl_GetBits_at (l : List Int) (hl : l.length ≤ 140737488351232) (hb : ∀ c ∈ l, isByte c) (a1 : Int) (w1 : -9223372036854775808 ≤ a1 ∧ a1 ≤ 9223372036854775807) (k : Nat) (hk : 100 < k) :
    impl_GetBits.f k l a1 = some (getBits l a1) := by
  unfold impl_GetBits.f getBits
  rw [impl_piece_at]
  by_cases h2 : 0 ≤ a1 ∧ a1 ≤ (l.length : Int) - 8
  · rw [if_pos (by omega), if_pos h2, Option.bind_some, if_pos rfl]
    exact impl_GetBits_l (cutAt l a1.toNat 8) (cutAt_length _ _ _ (by omega)) (fun c hc => hb c (cutAt_mem _ _ _ c hc)) a1 h2.1 (by omega) 64 0 k (by omega) (by omega)
  · rw [if_neg (by omega), if_neg h2, Option.bind_some, if_neg (by simp)]
end Go.Proofs.YtiglmmofapcefaaDoor.Q
end
section
/- Lemmas on what the printed functions compute (msgs); no condition. -/
namespace Go.Proofs.YtiglmmofapcefaaDoor.Q
open Go.RowKit Go.Proofs.YtiglmmofapcefaaDoorW.PrintWords Go.Proofs.YtiglmmofapcefaaDoorW.PrintLast Go.Proofs.YtiglmmofapcefaaDoorW.PrintMore
set_option linter.unusedVariables false
set_option linter.unusedSimpArgs false

abbrev LF := S115
abbrev IF := S81

theorem rdL_nat (l : List LF) (n : Nat) (h : n < l.length) : rd_T115 l (n : Int) = l[n] := by
  unfold rd_T115
  simp [List.getD, h]

theorem rdF_nat (l : List IF) (n : Nat) (h : n < l.length) : rd_T81 l (n : Int) = l[n] := by
  unfold rd_T81
  simp [List.getD, h]

theorem dropL (l : List LF) (n : Nat) (h : n < l.length) : l.drop n = rd_T115 l (n : Int) :: l.drop (n + 1) := by
  rw [List.drop_eq_getElem_cons h, rdL_nat l n h]

theorem dropF (l : List IF) (n : Nat) (h : n < l.length) : l.drop n = rd_T81 l (n : Int) :: l.drop (n + 1) := by
  rw [List.drop_eq_getElem_cons h, rdF_nat l n h]

theorem rdF_mem (l : List IF) (n : Nat) (h : n < l.length) : rd_T81 l (n : Int) ∈ l := by
  rw [rdF_nat l n h]
  exact List.getElem_mem h

theorem rdL_mem (l : List LF) (n : Nat) (h : n < l.length) : rd_T115 l (n : Int) ∈ l := by
  rw [rdL_nat l n h]
  exact List.getElem_mem h

theorem rdF_set_same (y : List IF) (n : Nat) (v : IF) (h : n < y.length) : rd_T81 (y.set n v) (n : Int) = v := by
  rw [rdF_nat _ _ (by simpa using h)]
  simp

theorem rdF_set_other (y : List IF) (n j : Nat) (v : IF) (h : j ≠ n) : rd_T81 (y.set n v) (j : Int) = rd_T81 y (j : Int) := by
  unfold rd_T81
  simp [List.getD, List.getElem?_set, Ne.symm h]

theorem intNat (n : Nat) : ((n : Int) : Int).toNat = n := by simp
theorem w64s {n : Nat} (h : n ≤ 140737488351232) : wrap64 ((n : Int) + 1) = ((n + 1 : Nat) : Int) := by unfold wrap64; omega
end Go.Proofs.YtiglmmofapcefaaDoor.Q
end
section
/- Lemmas on what the printed functions compute (parse); no condition. -/
namespace Go.Proofs.YtiglmmofapcefaaDoor.Q
open Go.RowKit Go.Proofs.YtiglmmofapcefaaDoorW.PrintWords Go.Proofs.YtiglmmofapcefaaDoorW.PrintLast Go.Proofs.YtiglmmofapcefaaDoorW.PrintMore
set_option linter.unusedVariables false
set_option linter.unusedSimpArgs false

def lowNos (l : List Int) : List Int := l.filter fun c => !decide (c = 1)
def kindsOk (l : List Int) : Bool := l.all fun c => !decide (kindOf c = 0)
def above (l : List Int) : List Int := l.map fun c => c + 64
/-- Which fields a message says that it has, and where they begin. -/
def parseNos (l : List Int) : List Int × Int × Bool :=
  if (getBits l 2).2.2 = true then
    (if decide (1 ∈ (getBits l 2).1) = true then
      (if (getBits l (getBits l 2).2.1).2.2 = true ∧ ¬ (getBits l (getBits l 2).2.1).1 = [] ∧ kindsOk (lowNos (getBits l 2).1 ++ above (getBits l (getBits l 2).2.1).1) = true then
        (lowNos (getBits l 2).1 ++ above (getBits l (getBits l 2).2.1).1, (getBits l (getBits l 2).2.1).2.1, true) else ([], 0, false))
     else if kindsOk (lowNos (getBits l 2).1) = true then (lowNos (getBits l 2).1, (getBits l 2).2.1, true) else ([], 0, false))
  else ([], 0, false)
def parseFields (l : List Int) (m : ByteArray) : List Int → Int → List IF → ByteArray × List IF × Int
  | [], a, y => if a = (l.length : Int) then (m, y, 0) else (⟨#[]⟩, [], 4)
  | x :: t, a, y => if (getField l a x).2.2 = true then parseFields l m t (getField l a x).2.1 (y ++ [⟨x, strOfNums (getField l a x).1⟩]) else (⟨#[]⟩, [], 3)
/-- What Parse answers. -/
def parse (l : List Int) : ByteArray × List IF × Int :=
  if (getBcd l 0 4).2.2 = true then
    (if (parseNos l).2.2 = true then parseFields l (strOfNums (getBcd l 0 4).1) (parseNos l).1 (parseNos l).2.1 [] else (⟨#[]⟩, [], 2))
  else (⟨#[]⟩, [], 1)

theorem getField_at (l : List Int) (a x : Int) (hb : ∀ c ∈ l, isByte c) (h : (getField l a x).2.2 = true) : 0 ≤ (getField l a x).2.1 ∧ (getField l a x).2.1 ≤ (l.length : Int) := by
  unfold getField at h ⊢
  split at h
  · rename_i q
    rw [if_pos q]
    unfold gfFin at h ⊢
    split at h
    · rename_i z
      rw [if_pos z]
      have z1 := z.1
      revert z1
      generalize (gfHead l a x).2.1 = b
      generalize (gfHead l a x).1 = n
      intro z1
      simp only
      unfold gfBody at z1 ⊢
      split at z1
      · rename_i d
        rw [if_pos d]
        obtain ⟨_, _, _, p4, p5, p6, p7, p8⟩ := getBcd_ok l b n hb z1
        omega
      · rename_i d
        rw [if_neg d]
        unfold pieceAt at z1 ⊢
        split at z1
        · rename_i g
          rw [if_pos g]
          simp only
          omega
        · exact absurd z1 (by simp)
    · exact absurd h (by simp)
  · exact absurd h (by simp)

theorem bitsOf_mem (l : List Int) (m : Nat) : ∀ c ∈ bitsOf l m, 1 ≤ c ∧ c ≤ (m : Int) := by
  intro c hc
  unfold bitsOf at hc
  obtain ⟨i, hi, rfl⟩ := List.mem_map.1 hc
  have := List.mem_range.1 (List.mem_filter.1 hi).1
  omega

theorem getBits_facts (l : List Int) (a : Int) : (getBits l a).1.length ≤ 64 ∧ (∀ c ∈ (getBits l a).1, 1 ≤ c ∧ c ≤ 64) ∧ ((getBits l a).2.2 = true → (getBits l a).2.1 = a + 8 ∧ a + 8 ≤ (l.length : Int) ∧ 0 ≤ a) ∧ ((getBits l a).2.2 = false → getBits l a = ([], 0, false)) := by
  unfold getBits
  by_cases q : 0 ≤ a ∧ a ≤ (l.length : Int) - 8
  · rw [if_pos q]
    exact ⟨bitsOf_length _ _, bitsOf_mem _ _, fun _ => ⟨rfl, by omega, q.1⟩, fun h => absurd h (by simp)⟩
  · rw [if_neg q]
    exact ⟨by simp, by simp, fun h => absurd h (by simp), fun _ => rfl⟩

theorem spec_Parse_l (l : List Int) (hl : l.length ≤ 140737488351232) (hb : ∀ c ∈ l, isByte c) (m : ByteArray) (nos : List Int) (hn : nos.length ≤ 1000) : ∀ (d n k : Nat) (a : Int) (y : List IF), n + d = nos.length → y.length ≤ n → 0 ≤ a → a ≤ (l.length : Int) → d + 1200 < k →
    spec_Parse.l0 k l a nos (nos.length : Int) (n : Int) m y = some (parseFields l m (nos.drop n) a y) := by
  intro d
  induction d with
  | zero =>
    intro n k a y hd hy h0 h1 hk
    obtain ⟨k, rfl⟩ : ∃ m, k = m + 1 := ⟨k - 1, by omega⟩
    rw [spec_Parse.l0, if_neg (by omega), List.drop_eq_nil_of_le (by omega), parseFields]
    split <;> rfl
  | succ d ih =>
    intro n k a y hd hy h0 h1 hk
    obtain ⟨k, rfl⟩ : ∃ m, k = m + 1 := ⟨k - 1, by omega⟩
    rw [spec_Parse.l0, if_pos (by omega), if_pos (by omega), if_pos (by omega), drop_rd nos n (by omega), parseFields, spec_GetField_at l hl hb a _ (by omega) k (by omega), Option.bind_some]
    unfold asStr
    simp only
    by_cases q : (getField l a (rd nos (n : Int))).2.2 = true
    · have e : wrap64 ((n : Int) + 1) = ((n + 1 : Nat) : Int) := by unfold wrap64; omega
      have hp := getField_at l a _ hb q
      rw [if_pos q, if_pos q, if_pos (by omega), e]
      exact ih (n + 1) k _ _ (by omega) (by simp; omega) hp.1 hp.2 (by omega)
    · rw [if_neg q, if_neg q]

theorem impl_Parse_l2 (l : List Int) (hl : l.length ≤ 140737488351232) (hb : ∀ c ∈ l, isByte c) (m : ByteArray) (nos : List Int) (hn : nos.length ≤ 1000) : ∀ (d n k : Nat) (a : Int) (y : List IF), n + d = nos.length → y.length ≤ n → 0 ≤ a → a ≤ (l.length : Int) → d + 1200 < k →
    impl_Parse.l2 k l a nos (nos.length : Int) (n : Int) m y = some (parseFields l m (nos.drop n) a y) := by
  intro d
  induction d with
  | zero =>
    intro n k a y hd hy h0 h1 hk
    obtain ⟨k, rfl⟩ : ∃ m, k = m + 1 := ⟨k - 1, by omega⟩
    rw [impl_Parse.l2, if_neg (by omega), List.drop_eq_nil_of_le (by omega), parseFields]
    split <;> rfl
  | succ d ih =>
    intro n k a y hd hy h0 h1 hk
    obtain ⟨k, rfl⟩ : ∃ m, k = m + 1 := ⟨k - 1, by omega⟩
    rw [impl_Parse.l2, if_pos (by omega), if_pos (by omega), if_pos (by omega), drop_rd nos n (by omega), parseFields, impl_GetField_at l hl hb a _ (by omega) k (by omega), Option.bind_some]
    unfold asStr
    simp only
    by_cases q : (getField l a (rd nos (n : Int))).2.2 = true
    · have e : wrap64 ((n : Int) + 1) = ((n + 1 : Nat) : Int) := by unfold wrap64; omega
      have hp := getField_at l a _ hb q
      rw [if_pos q, if_pos q, if_pos (by omega), e]
      exact ih (n + 1) k _ _ (by omega) (by simp; omega) hp.1 hp.2 (by omega)
    · rw [if_neg q, if_neg q]

theorem w64n {n : Nat} (h : n ≤ 1000000) : wrap64 ((n : Int) + 1) = ((n + 1 : Nat) : Int) := by unfold wrap64; omega

theorem lowNos_cons (c : Int) (t : List Int) : lowNos (c :: t) = if c = 1 then lowNos t else c :: lowNos t := by
  unfold lowNos
  by_cases h : c = 1 <;> simp [h]

theorem spec_Nos_l0 (l : List Int) (a : Int) (u : List Int) (hu : u.length ≤ 100) : ∀ (d n k : Nat) (x : List Int) (more : Bool), n + d = u.length → x.length ≤ n →
    spec_l04Nos.l0 (k + d) l a x more u (u.length : Int) (n : Int) = spec_l04Nos.l0 k l a (x ++ lowNos (u.drop n)) (more || decide (1 ∈ u.drop n)) u (u.length : Int) (u.length : Int) := by
  intro d
  induction d with
  | zero =>
    intro n k x more hd hx
    have e : n = u.length := by omega
    subst e
    rw [List.drop_eq_nil_of_le (Nat.le_refl _)]
    simp [lowNos]
  | succ d ih =>
    intro n k x more hd hx
    rw [show k + (d + 1) = (k + d) + 1 by omega, spec_l04Nos.l0, if_pos (by omega), if_pos (by omega), if_pos (by omega), drop_rd u n (by omega), lowNos_cons, w64n (by omega)]
    by_cases q : rd u (n : Int) = 1
    · rw [if_pos q, if_pos q, ih (n + 1) k x true (by omega) (by omega)]
      simp [q]
    · rw [if_neg q, if_neg q, if_pos (by omega), ih (n + 1) k _ more (by omega) (by simp; omega), List.append_assoc, List.singleton_append]
      have e : decide (1 ∈ rd u (n : Int) :: u.drop (n + 1)) = decide (1 ∈ u.drop (n + 1)) := by
        apply decide_eq_decide.2
        rw [List.mem_cons]
        exact ⟨fun h => h.resolve_left (fun z => q z.symm), Or.inr⟩
      rw [e]

theorem spec_Nos_l1 (a : Int) (u : List Int) (hu : u.length ≤ 100) (hr : ∀ c ∈ u, 1 ≤ c ∧ c ≤ 64) : ∀ (d n k : Nat) (x : List Int), n + d = u.length → x.length ≤ n + 100 →
    spec_l04Nos.l1 (k + d) x a u (u.length : Int) (n : Int) = spec_l04Nos.l1 k (x ++ above (u.drop n)) a u (u.length : Int) (u.length : Int) := by
  intro d
  induction d with
  | zero =>
    intro n k x hd hx
    have e : n = u.length := by omega
    subst e
    rw [List.drop_eq_nil_of_le (Nat.le_refl _)]
    simp [above]
  | succ d ih =>
    intro n k x hd hx
    have h := hr _ (rd_mem u n (by omega))
    have e : wrap64 (rd u (n : Int) + 64) = rd u (n : Int) + 64 := by unfold wrap64; omega
    rw [show k + (d + 1) = (k + d) + 1 by omega, spec_l04Nos.l1, if_pos (by omega), if_pos (by omega), if_pos (by omega), if_pos (by omega), e, w64n (by omega), ih (n + 1) k _ (by omega) (by simp; omega), drop_rd u n (by omega)]
    simp [above]

theorem spec_Nos_l2 (a : Int) (x u : List Int) (hu : u.length ≤ 1000) : ∀ (d n k : Nat), n + d = u.length → d + 30 ≤ k →
    spec_l04Nos.l2 k a x u (u.length : Int) (n : Int) = some (if kindsOk (u.drop n) = true then (x, a, true) else ([], 0, false)) := by
  intro d
  induction d with
  | zero =>
    intro n k hd hk
    obtain ⟨k, rfl⟩ : ∃ m, k = m + 1 := ⟨k - 1, by omega⟩
    rw [spec_l04Nos.l2, if_neg (by omega), List.drop_eq_nil_of_le (by omega)]
    rfl
  | succ d ih =>
    intro n k hd hk
    obtain ⟨k, rfl⟩ : ∃ m, k = m + 1 := ⟨k - 1, by omega⟩
    rw [spec_l04Nos.l2, if_pos (by omega), if_pos (by omega), if_pos (by omega), spec_FieldKind_at _ k (by omega), Option.bind_some, drop_rd u n (by omega), w64n (by omega), ih (n + 1) k (by omega) (by omega)]
    unfold kindsOk
    by_cases q : kindOf (rd u (n : Int)) = 0
    · rw [if_pos q, if_neg (by simp [q])]
    · rw [if_neg q]
      simp [q]

theorem spec_Nos_at (l : List Int) (hl : l.length ≤ 140737488351232) (hb : ∀ c ∈ l, isByte c) (k : Nat) (hk : 1000 ≤ k) : spec_l04Nos.f k l = some (parseNos l) := by
  unfold spec_l04Nos.f parseNos
  rw [spec_GetBits_at l hl hb 2 (by omega) k (by omega), Option.bind_some]
  obtain ⟨b1, b2, b3, _⟩ := getBits_facts l 2
  cases hg : (getBits l 2).2.2 with
  | false => rw [if_neg (by simp), if_neg (by simp)]
  | true =>
    obtain ⟨b4, b5, _⟩ := b3 hg
    rw [if_pos rfl, if_pos rfl, b4]
    generalize (getBits l 2).1 = u at b1 b2
    have h0 := spec_Nos_l0 l (2 + 8) u (by omega) u.length 0 (k - u.length) [] false (by omega) (by simp)
    rw [show k - u.length + u.length = k by omega, List.drop_zero, List.nil_append, Bool.false_or] at h0
    refine h0.trans ?_
    have hk2 : 900 ≤ k - u.length := by omega
    generalize k - u.length = k at hk2
    obtain ⟨k, rfl⟩ : ∃ m, k = m + 2 := ⟨k - 2, by omega⟩
    have hz : (lowNos u).length ≤ 64 := Nat.le_trans (List.length_filter_le _ _) b1
    have hj3 : ∀ (k : Nat) (a : Int) (x : List Int), x.length ≤ 200 → 300 ≤ k → spec_l04Nos.j3 k a x = some (if kindsOk x = true then (x, a, true) else ([], 0, false)) := by
      intro k a x hx hk
      obtain ⟨k, rfl⟩ : ∃ m, k = m + 1 := ⟨k - 1, by omega⟩
      rw [spec_l04Nos.j3]
      exact spec_Nos_l2 a x x (by omega) x.length 0 k (by omega) (by omega)
    rw [spec_l04Nos.l0, if_neg (by omega)]
    by_cases hm : decide (1 ∈ u) = true
    · rw [if_pos hm, if_pos hm, spec_GetBits_at l hl hb (2 + 8) (by omega) (k + 1) (by omega), Option.bind_some]
      obtain ⟨c1, c2, c3, _⟩ := getBits_facts l (2 + 8)
      cases hg2 : (getBits l (2 + 8)).2.2 with
      | false => rw [if_neg (by simp), spec_l04Nos.j1, if_pos rfl, if_neg (fun h => absurd h.1 (by simp))]
      | true =>
        rw [if_pos rfl, spec_l04Nos.j1]
        generalize (getBits l (2 + 8)).1 = v at c1 c2
        by_cases hv : v = []
        · subst hv
          rw [if_pos (show ((([] : List Int).length : Int) == 0) = true from rfl), if_neg (fun h => h.2.1 rfl)]
        · have hv2 : ((v.length : Int) == 0) = false := by
            have : v.length ≠ 0 := fun h => hv (List.length_eq_zero_iff.1 h)
            simp only [beq_eq_false_iff_ne]
            omega
          rw [hv2, if_neg (by simp)]
          have h1 := spec_Nos_l1 (getBits l (2 + 8)).2.1 v (by omega) c2 v.length 0 (k - v.length) (lowNos u) (by omega) (by omega)
          rw [show k - v.length + v.length = k by omega, List.drop_zero] at h1
          refine h1.trans ?_
          have hz2 : (lowNos u ++ above v).length ≤ 200 := by
            rw [List.length_append]
            unfold above
            rw [List.length_map]
            omega
          obtain ⟨q, hq⟩ : ∃ q, k - v.length = q + 1 := ⟨k - v.length - 1, by omega⟩
          rw [hq, spec_l04Nos.l1, if_neg (by omega), hj3 q _ _ hz2 (by omega)]
          by_cases z : kindsOk (lowNos u ++ above v) = true
          · rw [if_pos z, if_pos ⟨rfl, hv, z⟩]
          · rw [if_neg z, if_neg (fun h => z h.2.2)]
    · rw [if_neg hm, if_neg hm, hj3 (k + 1) _ _ (by omega) (by omega)]

theorem spec_Parse_at (l : List Int) (hl : l.length ≤ 140737488351232) (hb : ∀ c ∈ l, isByte c) (k : Nat) (hk : 2000 ≤ k) : spec_Parse.f k l = some (parse l) := by
  unfold spec_Parse.f parse
  rw [spec_GetBcd_at l hl hb 0 4 (by omega) (by omega) k (by omega), Option.bind_some]
  unfold asStr
  simp only
  by_cases q : (getBcd l 0 4).2.2 = true
  · rw [if_pos q, if_pos q, spec_Nos_at l hl hb k (by omega), Option.bind_some]
    by_cases z : (parseNos l).2.2 = true
    · rw [if_pos z, if_pos z]
      have hn : (parseNos l).1.length ≤ 200 ∧ 0 ≤ (parseNos l).2.1 ∧ (parseNos l).2.1 ≤ (l.length : Int) := by
        unfold parseNos at z ⊢
        obtain ⟨b1, b2, b3, _⟩ := getBits_facts l 2
        obtain ⟨c1, c2, c3, _⟩ := getBits_facts l (getBits l 2).2.1
        have hz : (lowNos (getBits l 2).1).length ≤ 64 := Nat.le_trans (List.length_filter_le _ _) b1
        split at z
        · rename_i g
          rw [if_pos g]
          have b4 := b3 g
          split at z
          · rename_i g2
            rw [if_pos g2]
            split at z
            · rename_i g3
              rw [if_pos g3]
              have c4 := c3 g3.1
              simp only [List.length_append]
              unfold above
              rw [List.length_map]
              omega
            · exact absurd z (by simp)
          · rename_i g2
            rw [if_neg g2]
            split at z
            · rename_i g3
              rw [if_pos g3]
              simp only
              omega
            · exact absurd z (by simp)
        · exact absurd z (by simp)
      exact spec_Parse_l l hl hb _ _ (by omega) (parseNos l).1.length 0 k _ [] (by omega) (by simp) hn.2.1 hn.2.2 (by omega)
    · rw [if_neg z, if_neg z]
  · rw [if_neg q, if_neg q]

theorem kindsOk_cons (c : Int) (t : List Int) : kindsOk (c :: t) = (!decide (kindOf c = 0) && kindsOk t) := by simp [kindsOk]
theorem kindsOk_append (s t : List Int) : kindsOk (s ++ t) = (kindsOk s && kindsOk t) := by simp [kindsOk, List.all_append]

theorem impl_Parse_l0 (l : List Int) (m : ByteArray) (a : Int) (u : List Int) (hu : u.length ≤ 100) : ∀ (d n k : Nat) (x : List Int) (more : Bool), n + d = u.length → x.length ≤ n → 30 ≤ k →
    impl_Parse.l0 (k + d) l m a x more u (u.length : Int) (n : Int) = if kindsOk (lowNos (u.drop n)) = true then impl_Parse.l0 k l m a (x ++ lowNos (u.drop n)) (more || decide (1 ∈ u.drop n)) u (u.length : Int) (u.length : Int) else some (⟨#[]⟩, [], 2) := by
  intro d
  induction d with
  | zero =>
    intro n k x more hd hx hk
    have e : n = u.length := by omega
    subst e
    rw [List.drop_eq_nil_of_le (Nat.le_refl _)]
    simp [lowNos, kindsOk]
  | succ d ih =>
    intro n k x more hd hx hk
    rw [show k + (d + 1) = (k + d) + 1 by omega, impl_Parse.l0, if_pos (by omega), if_pos (by omega), if_pos (by omega), drop_rd u n (by omega), lowNos_cons, w64n (by omega)]
    by_cases q : rd u (n : Int) = 1
    · rw [if_pos q, if_pos q, ih (n + 1) k x true (by omega) (by omega) hk]
      simp [q]
    · rw [if_neg q, if_neg q, impl_FieldKind_at _ _ (by omega), Option.bind_some, kindsOk_cons]
      by_cases z : kindOf (rd u (n : Int)) = 0
      · rw [if_pos z, if_neg (by simp [z])]
      · have e : decide (1 ∈ rd u (n : Int) :: u.drop (n + 1)) = decide (1 ∈ u.drop (n + 1)) := by
          apply decide_eq_decide.2
          rw [List.mem_cons]
          exact ⟨fun h => h.resolve_left (fun z => q z.symm), Or.inr⟩
        rw [if_neg z, if_pos (by omega), ih (n + 1) k _ more (by omega) (by simp; omega) hk, List.append_assoc, List.singleton_append, e, decide_eq_false z, Bool.not_false, Bool.true_and]

theorem impl_Parse_l1 (l : List Int) (m : ByteArray) (a : Int) (u : List Int) (hu : u.length ≤ 100) (hr : ∀ c ∈ u, 1 ≤ c ∧ c ≤ 64) : ∀ (d n k : Nat) (x : List Int), n + d = u.length → x.length ≤ n + 100 → 30 ≤ k →
    impl_Parse.l1 (k + d) l m a x u (u.length : Int) (n : Int) = if kindsOk (above (u.drop n)) = true then impl_Parse.l1 k l m a (x ++ above (u.drop n)) u (u.length : Int) (u.length : Int) else some (⟨#[]⟩, [], 2) := by
  intro d
  induction d with
  | zero =>
    intro n k x hd hx hk
    have e : n = u.length := by omega
    subst e
    rw [List.drop_eq_nil_of_le (Nat.le_refl _)]
    simp [above, kindsOk]
  | succ d ih =>
    intro n k x hd hx hk
    have h := hr _ (rd_mem u n (by omega))
    have e : wrap64 (rd u (n : Int) + 64) = rd u (n : Int) + 64 := by unfold wrap64; omega
    have ea : above (rd u (n : Int) :: u.drop (n + 1)) = (rd u (n : Int) + 64) :: above (u.drop (n + 1)) := rfl
    rw [show k + (d + 1) = (k + d) + 1 by omega, impl_Parse.l1, if_pos (by omega), if_pos (by omega), if_pos (by omega), e, impl_FieldKind_at _ _ (by omega), Option.bind_some, drop_rd u n (by omega), ea, kindsOk_cons]
    by_cases z : kindOf (rd u (n : Int) + 64) = 0
    · rw [if_pos z, if_neg (by simp [z])]
    · rw [if_neg z, if_pos (by omega), w64n (by omega), ih (n + 1) k _ (by omega) (by simp; omega) hk, List.append_assoc, List.singleton_append, decide_eq_false z, Bool.not_false, Bool.true_and]

theorem getBcd4_at (l : List Int) (hb : ∀ c ∈ l, isByte c) (h : (getBcd l 0 4).2.2 = true) : (getBcd l 0 4).2.1 = 2 := by
  have := (getBcd_ok l 0 4 hb h).2.2.2.1
  omega

theorem impl_Parse_at (l : List Int) (hl : l.length ≤ 140737488351232) (hb : ∀ c ∈ l, isByte c) (k : Nat) (hk : 2000 ≤ k) : impl_Parse.f k l = some (parse l) := by
  unfold impl_Parse.f parse
  rw [impl_GetBcd_at l hl hb 0 4 (by omega) (by omega) k (by omega), Option.bind_some]
  unfold asStr
  simp only
  by_cases q : (getBcd l 0 4).2.2 = true
  · rw [if_pos q, if_pos q, getBcd4_at l hb q, impl_GetBits_at l hl hb 2 (by omega) k (by omega), Option.bind_some]
    generalize strOfNums (getBcd l 0 4).1 = m
    unfold parseNos
    obtain ⟨b1, b2, b3, _⟩ := getBits_facts l 2
    cases hg : (getBits l 2).2.2 with
    | false =>
      rw [if_neg (by simp)]
      simp
    | true =>
      obtain ⟨b4, b5, _⟩ := b3 hg
      rw [if_pos rfl]
      simp only [if_true]
      rw [b4]
      generalize (getBits l 2).1 = u at b1 b2
      have h0 := impl_Parse_l0 l m (2 + 8) u (by omega) u.length 0 (k - u.length) [] false (by omega) (by simp) (by omega)
      rw [show k - u.length + u.length = k by omega, List.drop_zero, List.nil_append, Bool.false_or] at h0
      refine h0.trans ?_
      have hk2 : 1900 ≤ k - u.length := by omega
      generalize k - u.length = k at hk2
      obtain ⟨k, rfl⟩ : ∃ m, k = m + 2 := ⟨k - 2, by omega⟩
      have hz : (lowNos u).length ≤ 64 := Nat.le_trans (List.length_filter_le _ _) b1
      have hj3 : ∀ (k : Nat) (a : Int) (x : List Int), x.length ≤ 200 → 1500 ≤ k → 0 ≤ a → a ≤ (l.length : Int) → impl_Parse.j3 k l m a x = some (parseFields l m x a []) := by
        intro k a x hx hk ha1 ha2
        obtain ⟨k, rfl⟩ : ∃ m, k = m + 1 := ⟨k - 1, by omega⟩
        rw [impl_Parse.j3]
        exact impl_Parse_l2 l hl hb m x (by omega) x.length 0 k a [] (by omega) (by simp) ha1 ha2 (by omega)
      by_cases hlow : kindsOk (lowNos u) = true
      · rw [if_pos hlow, impl_Parse.l0, if_neg (by omega)]
        by_cases hm : decide (1 ∈ u) = true
        · rw [if_pos hm, if_pos hm, impl_GetBits_at l hl hb (2 + 8) (by omega) (k + 1) (by omega), Option.bind_some]
          obtain ⟨c1, c2, c3, _⟩ := getBits_facts l (2 + 8)
          cases hg2 : (getBits l (2 + 8)).2.2 with
          | false => rw [if_neg (by simp), impl_Parse.j1, if_pos rfl]; simp
          | true =>
            obtain ⟨c4, c5, _⟩ := c3 hg2
            rw [if_pos rfl, impl_Parse.j1, c4]
            generalize (getBits l (2 + 8)).1 = v at c1 c2
            by_cases hv : v = []
            · subst hv
              rw [if_pos (show ((([] : List Int).length : Int) == 0) = true from rfl)]
              simp
            · have hv2 : ((v.length : Int) == 0) = false := by
                have : v.length ≠ 0 := fun h => hv (List.length_eq_zero_iff.1 h)
                simp only [beq_eq_false_iff_ne]
                omega
              rw [hv2, if_neg (by simp)]
              have h1 := impl_Parse_l1 l m (2 + 8 + 8) v (by omega) c2 v.length 0 (k - v.length) (lowNos u) (by omega) (by omega) (by omega)
              rw [show k - v.length + v.length = k by omega, List.drop_zero] at h1
              refine h1.trans ?_
              have hz2 : (lowNos u ++ above v).length ≤ 200 := by
                rw [List.length_append]
                unfold above
                rw [List.length_map]
                omega
              obtain ⟨q, hq⟩ : ∃ q, k - v.length = q + 1 := ⟨k - v.length - 1, by omega⟩
              rw [kindsOk_append, hlow, Bool.true_and]
              by_cases z : kindsOk (above v) = true
              · rw [if_pos z, hq, impl_Parse.l1, if_neg (by omega), hj3 q _ _ hz2 (by omega) (by omega) (by omega)]
                simp [z, hv]
              · rw [if_neg z]
                simp [z]
        · rw [if_neg hm, if_neg hm, hj3 (k + 1) _ _ (by omega) (by omega) (by omega) (by omega)]
          simp [hlow]
      · rw [if_neg hlow]
        by_cases hm : decide (1 ∈ u) = true
        · rw [if_pos hm, kindsOk_append]
          simp [hlow]
        · rw [if_neg hm]
          simp [hlow]
  · rw [if_neg q, if_neg q]

theorem parseFields_len (l : List Int) (m : ByteArray) : ∀ (t : List Int) (a : Int) (y : List IF), (parseFields l m t a y).2.1.length ≤ y.length + t.length := by
  intro t
  induction t with
  | nil =>
    intro a y
    rw [parseFields]
    split <;> simp
  | cons x t ih =>
    intro a y
    rw [parseFields]
    split
    · refine Nat.le_trans (ih _ _) ?_
      simp; omega
    · simp

theorem parseNos_len (l : List Int) : (parseNos l).1.length ≤ 200 := by
  unfold parseNos
  obtain ⟨b1, _⟩ := getBits_facts l 2
  obtain ⟨c1, _⟩ := getBits_facts l (getBits l 2).2.1
  have hz : (lowNos (getBits l 2).1).length ≤ 64 := Nat.le_trans (List.length_filter_le _ _) b1
  repeat' split
  all_goals try (simp only [List.length_append]; unfold above; rw [List.length_map]; omega)
  all_goals first | (simp only; omega) | simp

theorem parse_len (l : List Int) : (parse l).2.1.length ≤ 200 := by
  unfold parse
  repeat' split
  all_goals first | (refine Nat.le_trans (parseFields_len _ _ _ _ _) ?_; simpa using parseNos_len l) | simp
end Go.Proofs.YtiglmmofapcefaaDoor.Q
end
section
/- Lemmas on what the printed functions compute (toByteS); no condition. -/
namespace Go.Proofs.YtiglmmofapcefaaDoor.Q
open Go.RowKit Go.Proofs.YtiglmmofapcefaaDoorW.PrintWords Go.Proofs.YtiglmmofapcefaaDoorW.PrintLast Go.Proofs.YtiglmmofapcefaaDoorW.PrintMore
set_option linter.unusedVariables false
set_option linter.unusedSimpArgs false

theorem toByteS_l (l : List Int) (hl : l.length ≤ 10000000) : ∀ (d n k : Nat) (y : List Int), n + d = l.length → y.length = l.length → y.take n = l.take n → d < k →
    laws_toByteS.l0 k l y (n : Int) = some l := by
  intro d
  induction d with
  | zero =>
    intro n k y hd hy ht hk
    obtain ⟨k, rfl⟩ : ∃ m, k = m + 1 := ⟨k - 1, by omega⟩
    have c1 : ¬ (n : Int) < (l.length : Int) := by omega
    simp only [laws_toByteS.l0, if_neg c1]
    have hn : n = l.length := by omega
    rw [hn, List.take_length, List.take_of_length_le (by omega)] at ht
    rw [ht]
  | succ d ih =>
    intro n k y hd hy ht hk
    obtain ⟨k, rfl⟩ : ∃ m, k = m + 1 := ⟨k - 1, by omega⟩
    have c1 : (n : Int) < (l.length : Int) := by omega
    have c2 : 0 ≤ (n : Int) := by omega
    have c3 : (n : Int) < (y.length : Int) := by omega
    simp only [laws_toByteS.l0, if_pos c1, if_pos c2, if_pos c3, w64 c2 (by omega), toNat_cast]
    exact ih (n + 1) k _ (by omega) (by simpa using hy) (take_set_succ y l n (by omega) hy ht) (by omega)

theorem toByteS_at (l : List Int) (hl : l.length ≤ 10000000) (k : Nat) (hk : l.length < k) : laws_toByteS.f k l = some l := by
  unfold laws_toByteS.f
  rw [if_pos (by omega), if_pos (by omega)]
  exact toByteS_l l hl l.length 0 k _ (by omega) (by simp) (by simp) hk
end Go.Proofs.YtiglmmofapcefaaDoor.Q
end
section
/- Lemmas on what the printed functions compute (eqByteS); no condition. -/
namespace Go.Proofs.YtiglmmofapcefaaDoor.Q
open Go.RowKit Go.Proofs.YtiglmmofapcefaaDoorW.PrintWords Go.Proofs.YtiglmmofapcefaaDoorW.PrintLast Go.Proofs.YtiglmmofapcefaaDoorW.PrintMore
set_option linter.unusedVariables false
set_option linter.unusedSimpArgs false

theorem eqByteS_l (l : List Int) (hl : l.length ≤ 10000000) : ∀ (d n k : Nat), n + d = l.length → d < k → laws_eqByteS.l0 k l l (n : Int) = some true := by
  intro d
  induction d with
  | zero =>
    intro n k hd hk
    obtain ⟨k, rfl⟩ : ∃ m, k = m + 1 := ⟨k - 1, by omega⟩
    have c1 : ¬ (n : Int) < (l.length : Int) := by omega
    simp only [laws_eqByteS.l0, if_neg c1]
  | succ d ih =>
    intro n k hd hk
    obtain ⟨k, rfl⟩ : ∃ m, k = m + 1 := ⟨k - 1, by omega⟩
    have c1 : (n : Int) < (l.length : Int) := by omega
    have c2 : 0 ≤ (n : Int) := by omega
    simp only [laws_eqByteS.l0, if_pos c1, if_pos c2, if_true, w64 c2 (by omega)]
    exact ih (n + 1) k (by omega) (by omega)

theorem eqByteS_self (l : List Int) (hl : l.length ≤ 10000000) (k : Nat) (hk : l.length < k) : laws_eqByteS.f k l l = some true := by
  unfold laws_eqByteS.f
  rw [if_pos rfl]
  exact eqByteS_l l hl l.length 0 k (by omega) hk
end Go.Proofs.YtiglmmofapcefaaDoor.Q
end
section
namespace Go.Proofs.YtiglmmofapcefaaDoor.Q
open Go.RowKit Go.Proofs.YtiglmmofapcefaaDoorW.PrintWords Go.Proofs.YtiglmmofapcefaaDoorW.PrintLast Go.Proofs.YtiglmmofapcefaaDoorW.PrintMore
attribute [local go_sem] max2_int min2_int max_two min_two max_three min_three max_four min_four
set_option linter.unusedVariables false
set_option linter.unusedSimpArgs false
def laws_heldByteS.l0 : Nat → List Int → Int → Int → Option (Int)
 | 0, _, _, _ => none
 | k + 1, x0, x1, x5 => if x5 < (x0.length : Int) then (if 0 ≤ x5 then (if (rd x0 x5) = ((x1) % 256) then (laws_heldByteS.l0 k x0 (wrap64 (x1 + 1)) (wrap64 (x5 + 1))) else (some (-1))) else (none)) else (some x1)
def laws_heldByteS.f (k : Nat) (l0 : List Int) (a1 : Int) : Option (Int) := laws_heldByteS.l0 k l0 a1 0
theorem laws_heldByteS.mono_l : ∀ k, (∀ y0 y1 y2, LeO (laws_heldByteS.l0 k y0 y1 y2) (laws_heldByteS.l0 (k + 1) y0 y1 y2))
 | 0 => fun _ _ _ r h => by simp [laws_heldByteS.l0] at h
 | k + 1 => by
  have ih0 := laws_heldByteS.mono_l k
  ·intro y0 y1 y2
   unfold laws_heldByteS.l0
   repeat' first
   | (with_reducible exact ih0 _ _ _)
   | (with_reducible exact LeO.refl _)
   | (with_reducible exact LeO.none _)
   | (with_reducible refine LeO.ite ?_ ?_)
   | (with_reducible refine LeO.bind ?_ (fun _ => ?_))
   | exact ih0 _ _ _
   | exact LeO.none _
   | refine LeO.ite ?_ ?_
   | refine LeO.bind ?_ (fun _ => ?_)
theorem laws_heldByteS.mono : ∀ a0 a1 k, LeO (laws_heldByteS.f k a0 a1) (laws_heldByteS.f (k + 1) a0 a1) := by
 intro a0 a1 k
 have ih0 := laws_heldByteS.mono_l k
 unfold laws_heldByteS.f
 repeat' first
   | (with_reducible exact ih0 _ _ _)
   | (with_reducible exact LeO.refl _)
   | (with_reducible exact LeO.none _)
   | (with_reducible refine LeO.ite ?_ ?_)
   | (with_reducible refine LeO.bind ?_ (fun _ => ?_))
   | exact ih0 _ _ _
   | exact LeO.none _
   | refine LeO.ite ?_ ?_
   | refine LeO.bind ?_ (fun _ => ?_)
set_option maxHeartbeats 8000000 in
set_option maxRecDepth 100000 in
theorem laws_heldByteS.calls (k : Nat) (A0 : Option Addr) (c0 : Nat) (l0 : List Int) (a1 : Int) (r : Int) (w : World) (hr0 : Kd.C (Kd.int .u8) w A0 l0.length l0) (hc0 : l0.length ≤ c0) (h : laws_heldByteS.f k l0 a1 = some r) :
  Calls Tryd.prog 29 #[.slice A0 l0.length c0, .int .i64 a1] w fun e w' => e = .returned (.int .i64 r) ∧ Drawn0 w w' := by
 have HR0 := Aside0.mk hr0
 have HC0 := Aside0.mk hc0
 clear hr0 hc0
 have H : (laws_heldByteS.l0 k l0 a1 0) = some r := h
 clear h
 have H' := Aside0.mk H
 clear H
 go_enter Tryd.func29, Tryd.ntmps29
 go_wp2
 go_loopg [1, 5] k (fun kq v1 v5 w' => ∃ (x1_1 : Int) (x5_1 : Int), v1 = .int .i64 x1_1 ∧ v5 = .int .i64 x5_1 ∧ Aside0 (laws_heldByteS.l0 kq l0 x1_1 x5_1 = some r) ∧ Aside0 (kq ≤ k) ∧ Drawn0 w w')
 case atStart => exact ⟨(a1), (0), (by first | rfl | (simp; done) | (simp [*]; done) | (simp [i64_w, IntKind.wrap_u8, e256_]; done) | (simp; generalize ByteArray.toList _ = zz_; cases zz_ <;> rfl)), (by first | rfl | (simp; done) | (simp [*]; done) | (simp [i64_w, IntKind.wrap_u8, e256_]; done) | (simp; generalize ByteArray.toList _ = zz_; cases zz_ <;> rfl)), H', ⟨Nat.le_refl _⟩, by repeat (first | exact Drawn0.refl _ | apply Drawn0.step)⟩
 case round =>
  clear H'
  try clear c2
  try clear p2
  obtain ⟨x1_1, x5_1, rfl, rfl, HA, HK1, ⟨m1, rfl⟩⟩ := hrel
  cases gk with
  | zero => exact absurd HA.out (by simp [laws_heldByteS.l0])
  | succ k1 =>
   have H := HA.out
   clear HA
   simp only [laws_heldByteS.l0] at H
   by_cases c3 : x5_1 < (l0.length : Int)
   ·rw [if_pos c3] at H
    have c3b0 : decide (x5_1 < (l0.length : Int)) = true := decide_eq_true c3
    clear c3
    by_cases c4 : 0 ≤ x5_1
    ·rw [if_pos c4] at H
     have c4b0 : decide (0 ≤ x5_1) = true := decide_eq_true c4
     clear c4
     by_cases c5 : (rd l0 x5_1) = ((x1_1) % 256)
     ·rw [if_pos c5] at H
      have c5b0 : ((rd l0 x5_1) == ((x1_1) % 256)) = true := beq_iff_eq.mpr c5
      have c5b1 : ((rd l0 x5_1) != ((x1_1) % 256)) = false := bne_eq_false_iff_eq.mpr c5
      clear c5
      have H' := Aside0.mk H
      clear H
      have p158 : 0 ≤ (x5_1 : Int) := of_decide_eq_true (by first | (with_reducible assumption) | assumption)
      have q158 : x5_1 < (l0.length : Int) := of_decide_eq_true (by first | (with_reducible assumption) | assumption)
      obtain ⟨ad158, e158, hx158_0⟩ := Kd.at_int HR0.out x5_1 p158 q158
      cases e158
      replace p158 := eq_true p158
      replace q158 := eq_true q158
      go_wp2
      go_roundg k1
      case measure => have := HK1.out; omega
      case rel => exact ⟨(wrap64 (x1_1 + 1)), (wrap64 (x5_1 + 1)), (by first | rfl | (simp; done) | (simp [*]; done) | (simp [i64_w, IntKind.wrap_u8, e256_]; done) | (simp; generalize ByteArray.toList _ = zz_; cases zz_ <;> rfl)), (by first | rfl | (simp; done) | (simp [*]; done) | (simp [i64_w, IntKind.wrap_u8, e256_]; done) | (simp; generalize ByteArray.toList _ = zz_; cases zz_ <;> rfl)), H', ⟨by have := HK1.out; omega⟩, by repeat (first | exact Drawn0.refl _ | apply Drawn0.step)⟩
     ·rw [if_neg c5] at H
      have c5b0 : ((rd l0 x5_1) == ((x1_1) % 256)) = false := beq_eq_false_iff_ne.mpr c5
      have c5b1 : ((rd l0 x5_1) != ((x1_1) % 256)) = true := bne_iff_ne.mpr c5
      obtain rfl := Option.some.inj H
      have p158 : 0 ≤ (x5_1 : Int) := of_decide_eq_true (by first | (with_reducible assumption) | assumption)
      have q158 : x5_1 < (l0.length : Int) := of_decide_eq_true (by first | (with_reducible assumption) | assumption)
      obtain ⟨ad158, e158, hx158_0⟩ := Kd.at_int HR0.out x5_1 p158 q158
      cases e158
      replace p158 := eq_true p158
      replace q158 := eq_true q158
      go_wp2
      go_ret
      exact ⟨by first | rfl | (simp; done) | (simp [*]; done) | (simp [i64_w, IntKind.wrap_u8, e256_]; done) | (simp; generalize ByteArray.toList _ = zz_; cases zz_ <;> rfl), by repeat (first | exact Drawn0.refl _ | apply Drawn0.step)⟩
    ·rw [if_neg c4] at H
     exact absurd H (by simp)
   ·rw [if_neg c3] at H
    have c3b0 : decide (x5_1 < (l0.length : Int)) = false := decide_eq_false c3
    clear c3
    obtain rfl := Option.some.inj H
    go_wp2
    go_ret
    exact ⟨by first | rfl | (simp; done) | (simp [*]; done) | (simp [i64_w, IntKind.wrap_u8, e256_]; done) | (simp; generalize ByteArray.toList _ = zz_; cases zz_ <;> rfl), by repeat (first | exact Drawn0.refl _ | apply Drawn0.step)⟩
end Go.Proofs.YtiglmmofapcefaaDoor.Q
end
section
/- Lemmas on what the printed functions compute (markByteS); no condition. -/
namespace Go.Proofs.YtiglmmofapcefaaDoor.Q
open Go.RowKit Go.Proofs.YtiglmmofapcefaaDoorW.PrintWords Go.Proofs.YtiglmmofapcefaaDoorW.PrintLast Go.Proofs.YtiglmmofapcefaaDoorW.PrintMore
set_option linter.unusedVariables false
set_option linter.unusedSimpArgs false

theorem markByteS_l : ∀ (d n k : Nat) (y : List Int) (a : Int), n + d = y.length → y.length ≤ 1000000000000 → 0 ≤ a → a + d ≤ 1000000000000 → d < k →
    ∃ y', laws_markByteS.l0 k y a (n : Int) = some (a + d, y') ∧ y'.length = y.length ∧ (∀ j : Nat, j < n → rd y' (j : Int) = rd y (j : Int)) ∧ ∀ j : Nat, n ≤ j → j < y.length → rd y' (j : Int) = (a + ((j : Int) - (n : Int))) % 256 := by
  intro d
  induction d with
  | zero =>
    intro n k y a hd hy ha hb hk
    obtain ⟨k, rfl⟩ : ∃ m, k = m + 1 := ⟨k - 1, by omega⟩
    have c1 : ¬ (n : Int) < (y.length : Int) := by omega
    simp only [laws_markByteS.l0, if_neg c1]
    refine ⟨y, ?_, rfl, fun _ _ => rfl, fun j h1 h2 => by omega⟩
    simp
  | succ d ih =>
    intro n k y a hd hy ha hb hk
    obtain ⟨k, rfl⟩ : ∃ m, k = m + 1 := ⟨k - 1, by omega⟩
    have c1 : (n : Int) < (y.length : Int) := by omega
    have c2 : 0 ≤ (n : Int) := by omega
    simp only [laws_markByteS.l0, if_pos c1, if_pos c2, toNat_cast]
    rw [show wrap64 ((n : Int) + 1) = ((n + 1 : Nat) : Int) from by unfold wrap64; omega, show wrap64 (a + 1) = a + 1 from by unfold wrap64; omega]
    obtain ⟨y', h1, h2, h3, h4⟩ := ih (n + 1) k (y.set n ((a) % 256)) (a + 1) (by simpa using (by omega : n + 1 + d = y.length)) (by simpa using hy) (by omega) (by omega) (by omega)
    refine ⟨y', ?_, by simpa using h2, fun j hj => ?_, fun j hj1 hj2 => ?_⟩
    · rw [h1, show a + 1 + (d : Int) = a + ((d + 1 : Nat) : Int) from by omega]
    · rw [h3 j (by omega), rd_set_other _ _ _ _ (by omega)]
    · by_cases e : j = n
      · rw [e, h3 n (by omega), rd_set_same _ _ _ (by omega)]
        have : a + ((n : Int) - (n : Int)) = a := by omega
        rw [this]
      · rw [h4 j (by omega) (by simpa using hj2)]
        have : a + 1 + ((j : Int) - ((n + 1 : Nat) : Int)) = a + ((j : Int) - (n : Int)) := by omega
        rw [this]

theorem heldByteS_l : ∀ (d n k : Nat) (y : List Int) (a : Int), n + d = y.length → y.length ≤ 1000000000000 → 0 ≤ a → a + d ≤ 1000000000000 → d < k → (∀ j : Nat, n ≤ j → j < y.length → rd y (j : Int) = (a + ((j : Int) - (n : Int))) % 256) →
    laws_heldByteS.l0 k y a (n : Int) = some (a + d) := by
  intro d
  induction d with
  | zero =>
    intro n k y a hd hy ha hb hk hv
    obtain ⟨k, rfl⟩ : ∃ m, k = m + 1 := ⟨k - 1, by omega⟩
    have c1 : ¬ (n : Int) < (y.length : Int) := by omega
    simp only [laws_heldByteS.l0, if_neg c1]
    simp
  | succ d ih =>
    intro n k y a hd hy ha hb hk hv
    obtain ⟨k, rfl⟩ : ∃ m, k = m + 1 := ⟨k - 1, by omega⟩
    have c1 : (n : Int) < (y.length : Int) := by omega
    have c2 : 0 ≤ (n : Int) := by omega
    have c3 : rd y (n : Int) = (a) % 256 := by
      rw [hv n (by omega) (by omega)]
      have : a + ((n : Int) - (n : Int)) = a := by omega
      rw [this]
    simp only [laws_heldByteS.l0, if_pos c1, if_pos c2, if_pos c3]
    rw [show wrap64 ((n : Int) + 1) = ((n + 1 : Nat) : Int) from by unfold wrap64; omega, show wrap64 (a + 1) = a + 1 from by unfold wrap64; omega]
    rw [ih (n + 1) k y (a + 1) (by omega) hy (by omega) (by omega) (by omega) (fun j h1 h2 => ?_)]
    · rw [show a + 1 + (d : Int) = a + ((d + 1 : Nat) : Int) from by omega]
    · rw [hv j (by omega) h2]
      have : a + 1 + ((j : Int) - ((n + 1 : Nat) : Int)) = a + ((j : Int) - (n : Int)) := by omega
      rw [this]

/-- What is marked is held, by as many as it has. -/
theorem markByteS_held (y : List Int) (hy : y.length ≤ 10000000) (a : Int) (ha : 0 ≤ a) (hb : a ≤ 1000000000) :
    ∃ y', y'.length = y.length ∧ ∀ k, y.length < k → laws_markByteS.f k y a = some (a + y.length, y') ∧ laws_heldByteS.f k y' a = some (a + y.length) := by
  obtain ⟨y', h1, h2, _, h4⟩ := markByteS_l y.length 0 (y.length + 1) y a (by omega) (by omega) ha (by omega) (by omega)
  refine ⟨y', h2, fun k hk => ⟨later (g := fun k => laws_markByteS.f k y a) (fun k => laws_markByteS.mono y a k) h1 k hk, ?_⟩⟩
  have h := heldByteS_l y'.length 0 k y' a (by omega) (by omega) ha (by omega) (by omega) (fun j hj1 hj2 => h4 j hj1 (by omega))
  rw [h2] at h
  exact h
end Go.Proofs.YtiglmmofapcefaaDoor.Q
end
