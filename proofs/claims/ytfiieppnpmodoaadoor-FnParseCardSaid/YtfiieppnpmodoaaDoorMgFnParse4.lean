/- Texts for FnParse, packed by a program of this session (wip/pack.py), part 4 of 5: the print's words that are used, the printed walks, the plain laws, the row; no condition. -/
import Derived.Test.YtfiieppnpmodoaaDoorMgFnParse3
import Derived.Test.YtfiieppnpmodoaaDoorRows
import Derived.LaidLaws
import Derived.Stop.LaidErr
import Derived.ChangeMaps5
section
namespace Go.Proofs.YtfiieppnpmodoaaDoor.Q
open Go.RowKit Go.Proofs.YtfiieppnpmodoaaDoorW.PrintWords Go.Proofs.YtfiieppnpmodoaaDoorW.PrintLast Go.Proofs.YtfiieppnpmodoaaDoorW.PrintMore
attribute [local go_sem] max2_int min2_int max_two min_two max_three min_three max_four min_four
set_option linter.unusedVariables false
set_option linter.unusedSimpArgs false
def impl_MsgSame.f (k : Nat) (a0_0 : ByteArray) (l0_1 : List (S79)) (a1_0 : ByteArray) (l1_1 : List (S79)) : Option (Bool) := if a0_0.toList = a1_0.toList then ((impl_Field.f k l0_1 l1_1).bind fun t716 => (some t716)) else (some false)
set_option maxHeartbeats 8000000 in
set_option maxRecDepth 100000 in
theorem impl_MsgSame.calls (k : Nat) (a0_0 : ByteArray) (A0_1 : Option Addr) (c0_1 : Nat) (l0_1 : List (S79)) (a1_0 : ByteArray) (A1_1 : Option Addr) (c1_1 : Nat) (l1_1 : List (S79)) (r : Bool) (w : World) (hr0_1 : Kd.C k79 w A0_1 l0_1.length l0_1) (hc0_1 : l0_1.length ≤ c0_1) (hr1_1 : Kd.C k79 w A1_1 l1_1.length l1_1) (hc1_1 : l1_1.length ≤ c1_1) (h : impl_MsgSame.f k a0_0 l0_1 a1_0 l1_1 = some r) :
  Calls Tryd.prog 39 #[.agg #[.string a0_0, .slice A0_1 l0_1.length c0_1], .agg #[.string a1_0, .slice A1_1 l1_1.length c1_1]] w fun e w' => e = .returned (.bool r) ∧ Below w.heap.size w w' := by
 have hu49 := Tryd.underlying49
 have HR0_1 := Aside0.mk hr0_1
 have HC0_1 := Aside0.mk hc0_1
 clear hr0_1 hc0_1
 have HR1_1 := Aside0.mk hr1_1
 have HC1_1 := Aside0.mk hc1_1
 clear hr1_1 hc1_1
 have HB := Aside0.mk (Below.refl w.heap.size w)
 have H : (if a0_0.toList = a1_0.toList then ((impl_Field.f k l0_1 l1_1).bind fun t716 => (some t716)) else (some false)) = some r := h
 clear h
 by_cases c3 : a0_0.toList = a1_0.toList
 ·rw [if_pos c3] at H
  have c3b0 : (a0_0.toList == a1_0.toList) = true := beq_iff_eq.mpr c3
  have c3b1 : (a0_0.toList != a1_0.toList) = false := bne_eq_false_iff_eq.mpr c3
  clear c3
  replace H := Option.bind_eq_some_iff.mp H
  obtain ⟨t716, A40, H⟩ := H
  replace H : (some t716) = some r := H
  have A4 := Aside0.mk A40
  clear A40
  obtain rfl := Option.some.inj H
  go_enter Tryd.func39, Tryd.ntmps39
  go_wp2_with (first | ((with_reducible refine gate_dst (N := 2) rfl ?_); refine box_event ?hg (N := 2) ?hd (cs := #[.string a0_0, .slice A0_1 l0_1.length c0_1]) (t := 49) ?hr ?_; (case hd => rfl); (case hg => rfl); (case hr => first | (go_simp; done) | (go_simp; rfl)); intro gb714 hg w5 hbox hb; have n0_ := Aside0.mk (below_step bB hb); have n1_ := Aside0.mk (hbox); have n2_ := Aside0.mk ((by rw [hg]; exact (below_size bB) : w.heap.size ≤ gb714)); have n3_ := Aside0.mk ((by rw [hg]; exact (below_size bB) : w.heap.size ≤ gb714)); clear HB; have HB := n0_; have BK714 := n1_; have GW714 := n2_; have GE714 := n3_; clear n0_ n1_ n2_ n3_; clear hb hbox hg) | ((with_reducible refine gate_dst (N := 3) rfl ?_); refine box_event ?hg (N := 3) ?hd (cs := #[.string a1_0, .slice A1_1 l1_1.length c1_1]) (t := 49) ?hr ?_; (case hd => rfl); (case hg => rfl); (case hr => first | (go_simp; done) | (go_simp; rfl)); intro gb715 hg w6 hbox hb; have n0_ := Aside0.mk (blk_below (g := gb714) (o := .cells #[.string a0_0, .slice A0_1 l0_1.length c0_1] 49 (0, 0)) (kA BK714.out) hb); have n1_ := Aside0.mk (below_step bG hb); have n2_ := Aside0.mk (hbox); have n3_ := Aside0.mk ((by rw [hg]; exact (below_size bG) : w.heap.size ≤ gb715)); have n4_ := Aside0.mk ((by rw [hg]; exact (below_size bG) : w.heap.size ≤ gb715)); have n5_ := Aside0.mk ((by rw [hg]; exact Nat.ne_of_lt (blk_lt (g := gb714) (o := .cells #[.string a0_0, .slice A0_1 l0_1.length c0_1] 49 (0, 0)) (kA BK714.out)) : gb714 ≠ gb715)); have n6_ := Aside0.mk ((by rw [hg]; exact Nat.ne_of_gt (blk_lt (g := gb714) (o := .cells #[.string a0_0, .slice A0_1 l0_1.length c0_1] 49 (0, 0)) (kA BK714.out)) : gb715 ≠ gb714)); clear BK714; clear HB; have BK714 := n0_; have HB := n1_; have BK715 := n2_; have GW715 := n3_; have GE715 := n4_; have NB714_715 := n5_; have NB715_714 := n6_; clear n0_ n1_ n2_ n3_ n4_ n5_ n6_; clear hb hbox hg; have hnb7 := NB714_715.out; have hnc7 := NB715_714.out; have hcz8_0 : w6.cell? ⟨gb714, 0, none⟩ = some (.string a0_0) := (blk_cell BK714.out 0).trans rfl; have hcz8_1 : w6.cell? ⟨gb714, 1, none⟩ = some (.slice A0_1 l0_1.length c0_1) := (blk_cell BK714.out 1).trans rfl; have hfz8_0 := blk_frozen BK714.out 0; have hfz8_1 := blk_frozen BK714.out 1; have hcz9_0 : w6.cell? ⟨gb715, 0, none⟩ = some (.string a1_0) := (blk_cell BK715.out 0).trans rfl; have hcz9_1 : w6.cell? ⟨gb715, 1, none⟩ = some (.slice A1_1 l1_1.length c1_1) := (blk_cell BK715.out 1).trans rfl; have hfz9_0 := blk_frozen BK715.out 0; have hfz9_1 := blk_frozen BK715.out 1) | (go_at_call 71; (with_reducible refine (impl_Field.calls k _ _ l0_1 _ _ l1_1 t716 _ ?side1 ?side2 ?side3 ?side4 A4.out).mono ?_); (case side1 => repeat (first | exact (Kd.C_below HR0_1.out HB.out) | (with_reducible refine Kd.C_alloc ?_ _) | (with_reducible refine Kd.C_drewN ?_ _) | (with_reducible refine Kd.C_drew ?_))); (case side2 => exact HC0_1.out); (case side3 => repeat (first | exact (Kd.C_below HR1_1.out HB.out) | (with_reducible refine Kd.C_alloc ?_ _) | (with_reducible refine Kd.C_drewN ?_ _) | (with_reducible refine Kd.C_drew ?_))); (case side4 => exact HC1_1.out); rintro e w' ⟨rfl, ⟨nd, rfl⟩⟩))
  go_ret
  exact ⟨by first | rfl | (simp [errW_none, errW_some] <;> rfl) | (simp [*, errW_none, errW_some] <;> rfl), bG⟩
 ·rw [if_neg c3] at H
  have c3b0 : (a0_0.toList == a1_0.toList) = false := beq_eq_false_iff_ne.mpr c3
  have c3b1 : (a0_0.toList != a1_0.toList) = true := bne_iff_ne.mpr c3
  obtain rfl := Option.some.inj H
  go_enter Tryd.func39, Tryd.ntmps39
  go_wp2_with (first | ((with_reducible refine gate_dst (N := 2) rfl ?_); refine box_event ?hg (N := 2) ?hd (cs := #[.string a0_0, .slice A0_1 l0_1.length c0_1]) (t := 49) ?hr ?_; (case hd => rfl); (case hg => rfl); (case hr => first | (go_simp; done) | (go_simp; rfl)); intro gb714 hg w10 hbox hb; have n0_ := Aside0.mk (below_step bB hb); have n1_ := Aside0.mk (hbox); have n2_ := Aside0.mk ((by rw [hg]; exact (below_size bB) : w.heap.size ≤ gb714)); have n3_ := Aside0.mk ((by rw [hg]; exact (below_size bB) : w.heap.size ≤ gb714)); clear HB; have HB := n0_; have BK714 := n1_; have GW714 := n2_; have GE714 := n3_; clear n0_ n1_ n2_ n3_; clear hb hbox hg) | ((with_reducible refine gate_dst (N := 3) rfl ?_); refine box_event ?hg (N := 3) ?hd (cs := #[.string a1_0, .slice A1_1 l1_1.length c1_1]) (t := 49) ?hr ?_; (case hd => rfl); (case hg => rfl); (case hr => first | (go_simp; done) | (go_simp; rfl)); intro gb715 hg w11 hbox hb; have n0_ := Aside0.mk (blk_below (g := gb714) (o := .cells #[.string a0_0, .slice A0_1 l0_1.length c0_1] 49 (0, 0)) (kA BK714.out) hb); have n1_ := Aside0.mk (below_step bG hb); have n2_ := Aside0.mk (hbox); have n3_ := Aside0.mk ((by rw [hg]; exact (below_size bG) : w.heap.size ≤ gb715)); have n4_ := Aside0.mk ((by rw [hg]; exact (below_size bG) : w.heap.size ≤ gb715)); have n5_ := Aside0.mk ((by rw [hg]; exact Nat.ne_of_lt (blk_lt (g := gb714) (o := .cells #[.string a0_0, .slice A0_1 l0_1.length c0_1] 49 (0, 0)) (kA BK714.out)) : gb714 ≠ gb715)); have n6_ := Aside0.mk ((by rw [hg]; exact Nat.ne_of_gt (blk_lt (g := gb714) (o := .cells #[.string a0_0, .slice A0_1 l0_1.length c0_1] 49 (0, 0)) (kA BK714.out)) : gb715 ≠ gb714)); clear BK714; clear HB; have BK714 := n0_; have HB := n1_; have BK715 := n2_; have GW715 := n3_; have GE715 := n4_; have NB714_715 := n5_; have NB715_714 := n6_; clear n0_ n1_ n2_ n3_ n4_ n5_ n6_; clear hb hbox hg; have hnb12 := NB714_715.out; have hnc12 := NB715_714.out; have hcz13_0 : w11.cell? ⟨gb714, 0, none⟩ = some (.string a0_0) := (blk_cell BK714.out 0).trans rfl; have hcz13_1 : w11.cell? ⟨gb714, 1, none⟩ = some (.slice A0_1 l0_1.length c0_1) := (blk_cell BK714.out 1).trans rfl; have hfz13_0 := blk_frozen BK714.out 0; have hfz13_1 := blk_frozen BK714.out 1; have hcz14_0 : w11.cell? ⟨gb715, 0, none⟩ = some (.string a1_0) := (blk_cell BK715.out 0).trans rfl; have hcz14_1 : w11.cell? ⟨gb715, 1, none⟩ = some (.slice A1_1 l1_1.length c1_1) := (blk_cell BK715.out 1).trans rfl; have hfz14_0 := blk_frozen BK715.out 0; have hfz14_1 := blk_frozen BK715.out 1))
  go_ret
  exact ⟨by first | rfl | (simp [errW_none, errW_some] <;> rfl) | (simp [*, errW_none, errW_some] <;> rfl), bG⟩
def laws_FnParse.f (k : Nat) (l0 : List Int) : Option (Bool) := if (l0.length : Int) > 1048576 then (some true) else ((spec_MakeMsg.f k l0).bind fun bt717 => ((impl_Encode.f k bt717.1 bt717.2).bind fun bt722 => ((impl_Parse.f k bt722.1).bind fun bt726 => (if bt722.2 = true then (if bt726.2.2 = 0 then ((impl_MsgSame.f k bt726.1 bt726.2.1 bt717.1 bt717.2).bind fun t732 => (if t732 = true then ((some (([] : List Int) : List Int)).bind fun y733 => (if y733.length + bt722.1.length < 140737488355328 then ((some (y733 ++ bt722.1 : List Int)).bind fun y736 => (if y736.length < 140737488355328 then ((impl_Parse.f k (y736 ++ [0])).bind fun bt742 => (some (bt742.2.2 == 4))) else (none))) else (none))) else (some false))) else (some false)) else (some false)))))
set_option maxHeartbeats 8000000 in
set_option maxRecDepth 100000 in
theorem laws_FnParse.calls (k : Nat) (A0 : Option Addr) (c0 : Nat) (l0 : List Int) (r : Bool) (w : World) (hr0 : Kd.C (Kd.int .u8) w A0 l0.length l0) (hc0 : l0.length ≤ c0) (hG : GLW w) (hr_ : r = true) (h : laws_FnParse.f k l0 = some r) :
  Calls Tryd.prog 7 #[.slice A0 l0.length c0] w fun e w' => e = .returned (.bool r) ∧ Below w.heap.size w w' := by
 have hu49 := Tryd.underlying49
 have HR0 := Aside0.mk hr0
 have HC0 := Aside0.mk hc0
 clear hr0 hc0
 have HB := Aside0.mk (Below.refl w.heap.size w)
 have HG := Aside0.mk hG
 clear hG
 have H : (if (l0.length : Int) > 1048576 then (some true) else ((spec_MakeMsg.f k l0).bind fun bt717 => ((impl_Encode.f k bt717.1 bt717.2).bind fun bt722 => ((impl_Parse.f k bt722.1).bind fun bt726 => (if bt722.2 = true then (if bt726.2.2 = 0 then ((impl_MsgSame.f k bt726.1 bt726.2.1 bt717.1 bt717.2).bind fun t732 => (if t732 = true then ((some (([] : List Int) : List Int)).bind fun y733 => (if y733.length + bt722.1.length < 140737488355328 then ((some (y733 ++ bt722.1 : List Int)).bind fun y736 => (if y736.length < 140737488355328 then ((impl_Parse.f k (y736 ++ [0])).bind fun bt742 => (some (bt742.2.2 == 4))) else (none))) else (none))) else (some false))) else (some false)) else (some false)))))) = some r := h
 clear h
 by_cases c2 : (l0.length : Int) > 1048576
 ·rw [if_pos c2] at H
  have c2b0 : decide (1048576 < (l0.length : Int)) = true := decide_eq_true c2
  have c2b1 : decide (1048576 < l0.length) = true := decide_eq_true (by omega)
  clear c2
  obtain rfl := Option.some.inj H
  go_enter Tryd.func7, Tryd.ntmps7
  go_wp2
  go_ret
  exact ⟨by first | rfl | (simp [errW_none, errW_some] <;> rfl) | (simp [*, errW_none, errW_some] <;> rfl), bB⟩
 ·rw [if_neg c2] at H
  have c2b0 : decide (1048576 < (l0.length : Int)) = false := decide_eq_false c2
  have c2b1 : decide (1048576 < l0.length) = false := decide_eq_false (by omega)
  clear c2
  replace H := Option.bind_eq_some_iff.mp H
  obtain ⟨⟨t717, t718⟩, A30, H⟩ := H
  replace H : ((impl_Encode.f k t717 t718).bind fun bt722 => ((impl_Parse.f k bt722.1).bind fun bt726 => (if bt722.2 = true then (if bt726.2.2 = 0 then ((impl_MsgSame.f k bt726.1 bt726.2.1 t717 t718).bind fun t732 => (if t732 = true then ((some (([] : List Int) : List Int)).bind fun y733 => (if y733.length + bt722.1.length < 140737488355328 then ((some (y733 ++ bt722.1 : List Int)).bind fun y736 => (if y736.length < 140737488355328 then ((impl_Parse.f k (y736 ++ [0])).bind fun bt742 => (some (bt742.2.2 == 4))) else (none))) else (none))) else (some false))) else (some false)) else (some false)))) = some r := H
  have A3 := Aside0.mk A30
  clear A30
  replace H := Option.bind_eq_some_iff.mp H
  obtain ⟨⟨t722, t725⟩, A40, H⟩ := H
  replace H : ((impl_Parse.f k t722).bind fun bt726 => (if t725 = true then (if bt726.2.2 = 0 then ((impl_MsgSame.f k bt726.1 bt726.2.1 t717 t718).bind fun t732 => (if t732 = true then ((some (([] : List Int) : List Int)).bind fun y733 => (if y733.length + t722.length < 140737488355328 then ((some (y733 ++ t722 : List Int)).bind fun y736 => (if y736.length < 140737488355328 then ((impl_Parse.f k (y736 ++ [0])).bind fun bt742 => (some (bt742.2.2 == 4))) else (none))) else (none))) else (some false))) else (some false)) else (some false))) = some r := H
  have A4 := Aside0.mk A40
  clear A40
  replace H := Option.bind_eq_some_iff.mp H
  obtain ⟨⟨t726, t727, t730⟩, A50, H⟩ := H
  replace H : (if t725 = true then (if t730 = 0 then ((impl_MsgSame.f k t726 t727 t717 t718).bind fun t732 => (if t732 = true then ((some (([] : List Int) : List Int)).bind fun y733 => (if y733.length + t722.length < 140737488355328 then ((some (y733 ++ t722 : List Int)).bind fun y736 => (if y736.length < 140737488355328 then ((impl_Parse.f k (y736 ++ [0])).bind fun bt742 => (some (bt742.2.2 == 4))) else (none))) else (none))) else (some false))) else (some false)) else (some false)) = some r := H
  have A5 := Aside0.mk A50
  clear A50
  by_cases c6 : t725 = true
  ·subst c6
   have H1 : (if t730 = 0 then ((impl_MsgSame.f k t726 t727 t717 t718).bind fun t732 => (if t732 = true then ((some (([] : List Int) : List Int)).bind fun y733 => (if y733.length + t722.length < 140737488355328 then ((some (y733 ++ t722 : List Int)).bind fun y736 => (if y736.length < 140737488355328 then ((impl_Parse.f k (y736 ++ [0])).bind fun bt742 => (some (bt742.2.2 == 4))) else (none))) else (none))) else (some false))) else (some false)) = some r := by rw [if_pos rfl] at H; exact H
   clear H
   have H := H1
   clear H1
   by_cases c7 : t730 = 0
   ·rw [if_pos c7] at H
    have c7b0 : (t730 == 0) = true := beq_iff_eq.mpr c7
    have c7b1 : (t730 != 0) = false := bne_eq_false_iff_eq.mpr c7
    clear c7
    replace H := Option.bind_eq_some_iff.mp H
    obtain ⟨t732, A80, H⟩ := H
    replace H : (if t732 = true then ((some (([] : List Int) : List Int)).bind fun y733 => (if y733.length + t722.length < 140737488355328 then ((some (y733 ++ t722 : List Int)).bind fun y736 => (if y736.length < 140737488355328 then ((impl_Parse.f k (y736 ++ [0])).bind fun bt742 => (some (bt742.2.2 == 4))) else (none))) else (none))) else (some false)) = some r := H
    have A8 := Aside0.mk A80
    clear A80
    by_cases c9 : t732 = true
    ·subst c9
     have H1 : ((some (([] : List Int) : List Int)).bind fun y733 => (if y733.length + t722.length < 140737488355328 then ((some (y733 ++ t722 : List Int)).bind fun y736 => (if y736.length < 140737488355328 then ((impl_Parse.f k (y736 ++ [0])).bind fun bt742 => (some (bt742.2.2 == 4))) else (none))) else (none))) = some r := by rw [if_pos rfl] at H; exact H
     clear H
     have H := H1
     clear H1
     obtain ⟨y733, hy733⟩ : ∃ y_ : List Int, y_ = (([] : List Int)) := ⟨_, rfl⟩
     replace H : (if y733.length + t722.length < 140737488355328 then ((some (y733 ++ t722 : List Int)).bind fun y736 => (if y736.length < 140737488355328 then ((impl_Parse.f k (y736 ++ [0])).bind fun bt742 => (some (bt742.2.2 == 4))) else (none))) else (none)) = some r := by first | (rw [hy733]; with_reducible exact H) | (have H2_ := (Option.bind_some _ _).symm.trans H; rw [hy733]; with_reducible exact H2_) | (have H2_ := (Option.bind_some _ _).symm.trans H; with_reducible exact H2_) | with_reducible exact H | (rw [hy733]; exact H) | exact H
     have Ny733 := Aside0.mk hy733
     clear hy733
     by_cases c10 : y733.length + t722.length < 140737488355328
     ·rw [if_pos c10] at H
      have LMc10 := Aside0.mk c10
      clear c10
      obtain ⟨y736, hy736⟩ : ∃ y_ : List Int, y_ = (y733 ++ t722) := ⟨_, rfl⟩
      replace H : (if y736.length < 140737488355328 then ((impl_Parse.f k (y736 ++ [0])).bind fun bt742 => (some (bt742.2.2 == 4))) else (none)) = some r := by first | (rw [hy736]; with_reducible exact H) | (have H2_ := (Option.bind_some _ _).symm.trans H; rw [hy736]; with_reducible exact H2_) | (have H2_ := (Option.bind_some _ _).symm.trans H; with_reducible exact H2_) | with_reducible exact H | (rw [hy736]; exact H) | exact H
      have Ny736 := Aside0.mk hy736
      clear hy736
      by_cases c11 : y736.length < 140737488355328
      ·rw [if_pos c11] at H
       have LMc11 := Aside0.mk c11
       clear c11
       obtain ⟨y739, hy739⟩ : ∃ y_ : List Int, y_ = (y736 ++ [0]) := ⟨_, rfl⟩
       replace H : ((impl_Parse.f k y739).bind fun bt742 => (some (bt742.2.2 == 4))) = some r := by first | (rw [hy739]; with_reducible exact H) | (have H2_ := (Option.bind_some _ _).symm.trans H; rw [hy739]; with_reducible exact H2_) | (have H2_ := (Option.bind_some _ _).symm.trans H; with_reducible exact H2_) | with_reducible exact H | (rw [hy739]; exact H) | exact H
       have Ny739 := Aside0.mk hy739
       clear hy739
       replace H := Option.bind_eq_some_iff.mp H
       obtain ⟨⟨t742, t743, t746⟩, A120, H⟩ := H
       replace H : (some (t746 == 4)) = some r := H
       have A12 := Aside0.mk A120
       clear A120
       obtain rfl := Option.some.inj H
       go_enter Tryd.func7, Tryd.ntmps7
       go_wp2_with (first | ((with_reducible refine gate_callee (f := 37) rfl ?_); refine goesM_ (some 14) rfl rfl Tryd.func37 (by kernel_rfl) rfl #[.slice A0 l0.length c0] rfl ?_; (with_reducible refine (spec_MakeMsg.calls k _ _ l0 t717 t718 _ ?side1 ?side2 A3.out).mono ?_); (case side1 => repeat (first | exact HR0.out | (with_reducible refine Kd.C_alloc ?_ _) | (with_reducible refine Kd.C_drewN ?_ _) | (with_reducible refine Kd.C_drew ?_))); (case side2 => exact HC0.out); rintro e w13 ⟨v719, rfl, ho0, hb⟩; refine ⟨_, rfl, ?_⟩; have n0_ := Aside0.mk (Kd.R_lower ho0 (below_size bB)); have n1_ := Aside0.mk (below_step bB hb); clear HB; have HO720 := n0_; have HB := n1_; clear n0_ n1_; (try clear hb); (try clear hb2); (try clear hk); (try clear hi); (try clear ho0)) | ((with_reducible refine gate_dst (N := 3) rfl ?_); refine box_event ?hg (N := 3) ?hd (cs := #[.string (⟨#[]⟩ : ByteArray), .slice none 0 0]) (t := 49) ?hr ?_; (case hd => rfl); (case hg => rfl); (case hr => first | (go_simp; done) | (go_simp; rfl)); intro gb721 hg w14 hbox hb; have n0_ := Aside0.mk (Kd.R_below (rA HO720.out) hb); have n1_ := Aside0.mk (below_step bB hb); have n2_ := Aside0.mk (hbox); have n3_ := Aside0.mk ((by rw [hg]; exact (below_size bB) : w.heap.size ≤ gb721)); have n4_ := Aside0.mk ((by rw [hg]; exact (below_size bB) : w.heap.size ≤ gb721)); clear HO720; clear HB; have HO720 := n0_; have HB := n1_; have BK721 := n2_; have GW721 := n3_; have GE721 := n4_; clear n0_ n1_ n2_ n3_ n4_; clear hb hbox hg; have hcz15_0 : w14.cell? ⟨gb721, 0, none⟩ = some (.string (⟨#[]⟩ : ByteArray)) := (blk_cell BK721.out 0).trans rfl; have hcz15_1 : w14.cell? ⟨gb721, 1, none⟩ = some (.slice none 0 0) := (blk_cell BK721.out 1).trans rfl; have hfz15_0 := blk_frozen BK721.out 0; have hfz15_1 := blk_frozen BK721.out 1; obtain ⟨Ao16, co16, eo16⟩ := Kd.R_slice HO720.out; subst eo16) | ((with_reducible refine gate_callee (f := 29) rfl ?_); refine goesM_ (some 17) rfl rfl Tryd.func29 (by kernel_rfl) rfl #[.agg #[.string t717, .slice Ao16 t718.length co16]] rfl ?_; (with_reducible refine (impl_Encode.calls k t717 _ _ t718 t722 true _ ?side1 ?side2 ?side3 A4.out).mono ?_); (case side1 => refine (Kd.R_reads' (e := 79) (base := w.heap.size) (ok := fun k_ => True) (n := t718.length) (c := co16) ?_).2.2; exact (by (with_reducible repeat (first | apply Kd.R_alloc | apply Kd.R_drewN | apply Kd.R_drew)); exact (Kd.R_mono (Kd.R_far (p := ⟨gb721, 1, none⟩) (Kd.R_far (p := ⟨gb721, 0, none⟩) (Kd.R_types HO720.out BK721.out (by decide)) (fun _ hk => hk.2) (.string t717)) (fun _ hk => hk.2) (.slice Ao16 t718.length co16)) (fun _ h_ => h_.1)))); (case side2 => exact (Kd.R_reads' HO720.out).2.1); (case side3 => exact GLW_below HG.out bG); rintro e w17 ⟨v723, rfl, ho0, hb⟩; refine ⟨_, rfl, ?_⟩; have n0_ := Aside0.mk (Kd.R_below (by (with_reducible repeat (first | apply Kd.R_alloc | apply Kd.R_drewN | apply Kd.R_drew)); exact (Kd.R_mono (Kd.R_far (p := ⟨gb721, 1, none⟩) (Kd.R_far (p := ⟨gb721, 0, none⟩) (Kd.R_types HO720.out BK721.out (by decide)) (fun _ hk => hk.2) (.string t717)) (fun _ hk => hk.2) (.slice Ao16 t718.length co16)) (fun _ h_ => h_.1))) hb); have n1_ := Aside0.mk (Kd.R_lower ho0 (below_size bG)); have n2_ := Aside0.mk (blk_below (g := gb721) (o := .cells #[.string t717, .slice Ao16 t718.length co16] 49 (0, 0)) (by (with_reducible repeat (first | refine blk_drewN ?_ _ | refine blk_drew ?_ | refine blk_alloc ?_ _)); refine blk_put (cs := #[.string t717, .slice none 0 0]) ?_ 1 _ rfl; (with_reducible repeat (first | refine blk_drewN ?_ _ | refine blk_drew ?_ | refine blk_alloc ?_ _)); refine blk_put (cs := #[.string (⟨#[]⟩ : ByteArray), .slice none 0 0]) ?_ 0 _ rfl; (with_reducible repeat (first | refine blk_drewN ?_ _ | refine blk_drew ?_ | refine blk_alloc ?_ _)); exact BK721.out) hb); have n3_ := Aside0.mk (below_step bG hb); clear HO720; clear BK721; clear HB; have HO720 := n0_; have HO724 := n1_; have BK721 := n2_; have HB := n3_; clear n0_ n1_ n2_ n3_; (try clear hb); (try clear hb2); (try clear hk); (try clear hi); (try clear ho0); obtain ⟨Ao18, co18, eo18⟩ := Kd.R_slice HO724.out; subst eo18) | ((with_reducible refine gate_callee (f := 38) rfl ?_); refine goesM_ (some 22) rfl rfl Tryd.func38 (by kernel_rfl) rfl #[.slice Ao18 t722.length co18] rfl ?_; (with_reducible refine (impl_Parse.calls k _ _ t722 t726 t727 t730 _ ?side1 ?side2 ?side3 A5.out).mono ?_); (case side1 => repeat (first | exact (Kd.R_reads' HO724.out).2.2 | (with_reducible refine Kd.C_alloc ?_ _) | (with_reducible refine Kd.C_drewN ?_ _) | (with_reducible refine Kd.C_drew ?_))); (case side2 => exact (Kd.R_reads' HO724.out).2.1); (case side3 => exact GLW_below HG.out bG); rintro e w19 ⟨v728, rfl, ho0, hb⟩; refine ⟨_, rfl, ?_⟩; have n0_ := Aside0.mk (Kd.R_elder' (rA HO720.out) (Kd.R_base ho0) hb); have n1_ := Aside0.mk (Kd.R_below (rA HO724.out) hb); have n2_ := Aside0.mk (Kd.R_lower (Kd.R_new' ho0 (Kd.R_lt (rA HO720.out))) (below_size bG)); have n3_ := Aside0.mk (blk_below (g := gb721) (o := .cells #[.string t717, .slice Ao16 t718.length co16] 49 (0, 0)) (kA BK721.out) hb); have n4_ := Aside0.mk (below_step bG hb); clear HO720; clear HO724; clear BK721; clear HB; have HO720 := n0_; have HO724 := n1_; have HO729 := n2_; have BK721 := n3_; have HB := n4_; clear n0_ n1_ n2_ n3_ n4_; (try clear hb); (try clear hb2); (try clear hk); (try clear hi); (try clear ho0)) | ((with_reducible refine gate_dst (N := 6) rfl ?_); refine box_event ?hg (N := 6) ?hd (cs := #[.string (⟨#[]⟩ : ByteArray), .slice none 0 0]) (t := 49) ?hr ?_; (case hd => rfl); (case hg => rfl); (case hr => first | (go_simp; done) | (go_simp; rfl)); intro gb731 hg w20 hbox hb; have n0_ := Aside0.mk (Kd.R_below (rA HO720.out) hb); have n1_ := Aside0.mk (Kd.R_below (rA HO724.out) hb); have n2_ := Aside0.mk (Kd.R_below (rA HO729.out) hb); have n3_ := Aside0.mk (blk_below (g := gb721) (o := .cells #[.string t717, .slice Ao16 t718.length co16] 49 (0, 0)) (kA BK721.out) hb); have n4_ := Aside0.mk (below_step bG hb); have n5_ := Aside0.mk (hbox); have n6_ := Aside0.mk ((by rw [hg]; exact (below_size bG) : w.heap.size ≤ gb731)); have n7_ := Aside0.mk ((by rw [hg]; exact (below_size bG) : w.heap.size ≤ gb731)); have n8_ := Aside0.mk ((by rw [hg]; exact Nat.ne_of_lt (blk_lt (g := gb721) (o := .cells #[.string t717, .slice Ao16 t718.length co16] 49 (0, 0)) (kA BK721.out)) : gb721 ≠ gb731)); have n9_ := Aside0.mk ((by rw [hg]; exact Nat.ne_of_gt (blk_lt (g := gb721) (o := .cells #[.string t717, .slice Ao16 t718.length co16] 49 (0, 0)) (kA BK721.out)) : gb731 ≠ gb721)); clear HO720; clear HO724; clear HO729; clear BK721; clear HB; have HO720 := n0_; have HO724 := n1_; have HO729 := n2_; have BK721 := n3_; have HB := n4_; have BK731 := n5_; have GW731 := n6_; have GE731 := n7_; have NB721_731 := n8_; have NB731_721 := n9_; clear n0_ n1_ n2_ n3_ n4_ n5_ n6_ n7_ n8_ n9_; clear hb hbox hg; have hnb21 := NB731_721.out; have hnc21 := NB721_731.out; have hcz22_0 : w20.cell? ⟨gb731, 0, none⟩ = some (.string (⟨#[]⟩ : ByteArray)) := (blk_cell BK731.out 0).trans rfl; have hcz22_1 : w20.cell? ⟨gb731, 1, none⟩ = some (.slice none 0 0) := (blk_cell BK731.out 1).trans rfl; have hfz22_0 := blk_frozen BK731.out 0; have hfz22_1 := blk_frozen BK731.out 1; obtain ⟨Ao23, co23, eo23⟩ := Kd.R_slice HO729.out; subst eo23; have hcz24_0 : w20.cell? ⟨gb721, 0, none⟩ = some (.string t717) := (blk_cell BK721.out 0).trans rfl; have hcz24_1 : w20.cell? ⟨gb721, 1, none⟩ = some (.slice Ao16 t718.length co16) := (blk_cell BK721.out 1).trans rfl; have hfz24_0 := blk_frozen BK721.out 0; have hfz24_1 := blk_frozen BK721.out 1) | (go_at_call 39; (with_reducible refine (impl_MsgSame.calls k t726 _ _ t727 t717 _ _ t718 true _ ?side1 ?side2 ?side3 ?side4 A8.out).mono ?_); (case side1 => refine (Kd.R_reads' (e := 79) (base := w.heap.size) (ok := fun k_ => (True ∧ some k_ ≠ (.slice Ao16 t718.length co16 : Value).ownBlock)) (n := t727.length) (c := co23) ?_).2.2; exact (by (with_reducible repeat (first | apply Kd.R_alloc | apply Kd.R_drewN | apply Kd.R_drew)); exact (Kd.R_mono (Kd.R_far (p := ⟨gb731, 1, none⟩) (Kd.R_far (p := ⟨gb731, 0, none⟩) (Kd.R_types HO729.out BK731.out (by decide)) (fun _ hk => hk.2) (.string t726)) (fun _ hk => hk.2) (.slice Ao23 t727.length co23)) (fun _ h_ => h_.1)))); (case side2 => exact (Kd.R_reads' HO729.out).2.1); (case side3 => refine (Kd.R_reads' (e := 79) (base := w.heap.size) (ok := fun k_ => (True ∧ some k_ ≠ (.slice Ao23 t727.length co23 : Value).ownBlock)) (n := t718.length) (c := co16) ?_).2.2; exact (by (with_reducible repeat (first | apply Kd.R_alloc | apply Kd.R_drewN | apply Kd.R_drew)); exact (Kd.R_mono (Kd.R_far (p := ⟨gb731, 1, none⟩) (Kd.R_far (p := ⟨gb731, 0, none⟩) (Kd.R_types HO720.out BK731.out (by decide)) (fun _ hk => hk.2) (.string t726)) (fun _ hk => hk.2) (.slice Ao23 t727.length co23)) (fun _ h_ => h_.1)))); (case side4 => exact (Kd.R_reads' HO720.out).2.1); rintro e w25 ⟨rfl, hb⟩; have n0_ := Aside0.mk (Kd.R_below (by (with_reducible repeat (first | apply Kd.R_alloc | apply Kd.R_drewN | apply Kd.R_drew)); exact (Kd.R_mono (Kd.R_far (p := ⟨gb731, 1, none⟩) (Kd.R_far (p := ⟨gb731, 0, none⟩) (Kd.R_types HO720.out BK731.out (by decide)) (fun _ hk => hk.2) (.string t726)) (fun _ hk => hk.2) (.slice Ao23 t727.length co23)) (fun _ h_ => h_.1))) hb); have n1_ := Aside0.mk (Kd.R_below (by (with_reducible repeat (first | apply Kd.R_alloc | apply Kd.R_drewN | apply Kd.R_drew)); exact (Kd.R_mono (Kd.R_far (p := ⟨gb731, 1, none⟩) (Kd.R_far (p := ⟨gb731, 0, none⟩) (Kd.R_types HO724.out BK731.out (by decide)) (fun _ hk => hk.2) (.string t726)) (fun _ hk => hk.2) (.slice Ao23 t727.length co23)) (fun _ h_ => h_.1))) hb); have n2_ := Aside0.mk (Kd.R_below (by (with_reducible repeat (first | apply Kd.R_alloc | apply Kd.R_drewN | apply Kd.R_drew)); exact (Kd.R_mono (Kd.R_far (p := ⟨gb731, 1, none⟩) (Kd.R_far (p := ⟨gb731, 0, none⟩) (Kd.R_types HO729.out BK731.out (by decide)) (fun _ hk => hk.2) (.string t726)) (fun _ hk => hk.2) (.slice Ao23 t727.length co23)) (fun _ h_ => h_.1))) hb); have n3_ := Aside0.mk (blk_below (g := gb721) (o := .cells #[.string t717, .slice Ao16 t718.length co16] 49 (0, 0)) (by (with_reducible repeat (first | refine blk_drewN ?_ _ | refine blk_drew ?_ | refine blk_alloc ?_ _)); refine blk_far ?_ NB721_731.out _; (with_reducible repeat (first | refine blk_drewN ?_ _ | refine blk_drew ?_ | refine blk_alloc ?_ _)); refine blk_far ?_ NB721_731.out _; (with_reducible repeat (first | refine blk_drewN ?_ _ | refine blk_drew ?_ | refine blk_alloc ?_ _)); exact BK721.out) hb); have n4_ := Aside0.mk (blk_below (g := gb731) (o := .cells #[.string t726, .slice Ao23 t727.length co23] 49 (0, 0)) (by (with_reducible repeat (first | refine blk_drewN ?_ _ | refine blk_drew ?_ | refine blk_alloc ?_ _)); refine blk_put (cs := #[.string t726, .slice none 0 0]) ?_ 1 _ rfl; (with_reducible repeat (first | refine blk_drewN ?_ _ | refine blk_drew ?_ | refine blk_alloc ?_ _)); refine blk_put (cs := #[.string (⟨#[]⟩ : ByteArray), .slice none 0 0]) ?_ 0 _ rfl; (with_reducible repeat (first | refine blk_drewN ?_ _ | refine blk_drew ?_ | refine blk_alloc ?_ _)); exact BK731.out) hb); have n5_ := Aside0.mk (below_step bG hb); clear HO720; clear HO724; clear HO729; clear BK721; clear BK731; clear HB; have HO720 := n0_; have HO724 := n1_; have HO729 := n2_; have BK721 := n3_; have BK731 := n4_; have HB := n5_; clear n0_ n1_ n2_ n3_ n4_ n5_; (try clear hb); (try clear hb2); (try clear hk); (try clear hi)) | ((with_reducible refine gate_dst (N := 38) rfl ?_); refine Kd.R_lit (Kd.int .u8) _ 5 ?hg (N := 38) ?hd (xs := ([] : List Int)) (inner := []) (ok := fun _ => True) (okp := fun _ => True) ?hr ?hp (fun _ hk => hk) trivial (Below.refl _ _) (Nat.le_refl _) (by simp) ?_; (case hd => rfl); (case hg => rfl); (case hr => first | (go_simp; done) | (go_simp; rfl)); (case hp => exact (Reps.none _ _)); intro v734 w26 ho27 hb hg_ hnew_; clear hg_ hnew_; (first | rw [← Ny733.out] at ho27 | (simp only [Int.reduceToNat] at ho27; rw [← Ny733.out] at ho27)); have n0_ := Aside0.mk (Kd.R_below (rA HO720.out) hb); have n1_ := Aside0.mk (Kd.R_elder' (rA HO724.out) (Kd.R_base ho27) hb); have n2_ := Aside0.mk (Kd.R_below (rA HO729.out) hb); have n3_ := Aside0.mk (Kd.R_lower (Kd.R_new' ho27 (Kd.R_lt (rA HO724.out))) (below_size bG)); have n4_ := Aside0.mk (blk_below (g := gb721) (o := .cells #[.string t717, .slice Ao16 t718.length co16] 49 (0, 0)) (kA BK721.out) hb); have n5_ := Aside0.mk (blk_below (g := gb731) (o := .cells #[.string t726, .slice Ao23 t727.length co23] 49 (0, 0)) (kA BK731.out) hb); have n6_ := Aside0.mk (below_step bG hb); clear HO720; clear HO724; clear HO729; clear BK721; clear BK731; clear HB; have HO720 := n0_; have HO724 := n1_; have HO729 := n2_; have HO735 := n3_; have BK721 := n4_; have BK731 := n5_; have HB := n6_; clear n0_ n1_ n2_ n3_ n4_ n5_ n6_; clear hb ho27) | ((with_reducible refine gate_builtin (b := .append) (xs := #[.tmp 38, .tmp 39]) rfl ?_); at_builtin; refine Kd.R_append_rows (Kd.int .u8) (w0 := w) w.heap.size rfl (.tmp 38) (.tmp 39) 22 5 (.int .u8 0) 1 rfl Tryd.underlying22 info5 rfl (by decide) (by omega) v734 y733 t722 _ _ _ (fun k_ => some k_ ≠ (.slice Ao18 t722.length co18 : Value).ownBlock) (fun _ => False) rfl rfl ?aO ?aR (fun _ _ h => h) (fun _ h => h.elim) ?aF ?aB ?aS ?aL ?_; (case aR => repeat (first | exact (Kd.R_reads' HO724.out).2.2 | (with_reducible refine Kd.C_alloc ?_ _) | (with_reducible refine Kd.C_drewN ?_ _) | (with_reducible refine Kd.C_drew ?_))); (case aB => exact bG); (case aF => exact (fun k_ hk => Kd.fresh' (Kd.R_lt (rA HO724.out)) k_ hk)); (case aO => exact (by (with_reducible repeat (first | apply Kd.R_alloc | apply Kd.R_drewN | apply Kd.R_drew)); exact Kd.R_mono HO735.out (fun _ hk => hk.2))); (case aS => exact (below_size bG)); (case aL => have := LMc10.out; omega); intro v737 w28 ho hb hg hat; rw [← Ny736.out] at ho; have n0_ := Aside0.mk (Kd.R_over' (rA HO720.out) (Kd.R_typed (rA HO735.out)) (by decide) hg); have n1_ := Aside0.mk (blk_grown (g := gb721) (o := .cells #[.string t717, .slice Ao16 t718.length co16] 49 (0, 0)) (kA BK721.out) hg (Kd.R_ne HO735.out BK721.out (by decide))); have n2_ := Aside0.mk (Kd.R_after (ok := (fun _ => True)) (rA HO724.out) hg hat); have n3_ := Aside0.mk (Kd.R_over' (rA HO729.out) (Kd.R_typed (rA HO735.out)) (by decide) hg); have n4_ := Aside0.mk (blk_grown (g := gb731) (o := .cells #[.string t726, .slice Ao23 t727.length co23] 49 (0, 0)) (kA BK731.out) hg (Kd.R_ne HO735.out BK731.out (by decide))); have n5_ := Aside0.mk (hb); have n6_ := Aside0.mk (ho); clear HO720; clear BK721; clear HO724; clear HO729; clear BK731; clear HB; clear HO735; have HO720 := n0_; have BK721 := n1_; have HO724 := n2_; have HO729 := n3_; have BK731 := n4_; have HB := n5_; have HO738 := n6_; clear n0_ n1_ n2_ n3_ n4_ n5_ n6_; clear ho hb hg hat) | ((with_reducible refine gate_builtin (b := .append) (xs := #[.tmp 40, .tmp 41]) rfl ?_); at_builtin; refine Kd.R_append (Kd.int .u8) (w0 := w) w.heap.size rfl (.tmp 40) (.tmp 41) 22 5 (.int .u8 0) 1 rfl Tryd.underlying22 info5 rfl (by decide) (by omega) v737 y736 0 [.int .u8 0] (fun k_ => some k_ ≠ (.slice Ao18 t722.length co18 : Value).ownBlock) (fun _ => False) rfl rfl ?aP (fun _ hk => hk.elim) ?aF ?aO ?aB ?aS ?aL ?_; (case aP => exact rfl); (case aB => exact bG); (case aF => exact (fun k_ hk => Kd.fresh' (Kd.R_lt (rA HO724.out)) k_ hk)); (case aO => exact (rA HO738.out)); (case aS => exact (below_size bG)); (case aL => have := LMc11.out; omega); intro v740 w29 ho hb hg hat; rw [← Ny739.out] at ho; have n0_ := Aside0.mk (Kd.R_over' (rA HO720.out) (Kd.R_typed (rA HO738.out)) (by decide) hg); have n1_ := Aside0.mk (blk_grown (g := gb721) (o := .cells #[.string t717, .slice Ao16 t718.length co16] 49 (0, 0)) (kA BK721.out) hg (Kd.R_ne HO738.out BK721.out (by decide))); have n2_ := Aside0.mk (Kd.R_after (ok := (fun _ => True)) (rA HO724.out) hg hat); have n3_ := Aside0.mk (Kd.R_over' (rA HO729.out) (Kd.R_typed (rA HO738.out)) (by decide) hg); have n4_ := Aside0.mk (blk_grown (g := gb731) (o := .cells #[.string t726, .slice Ao23 t727.length co23] 49 (0, 0)) (kA BK731.out) hg (Kd.R_ne HO738.out BK731.out (by decide))); have n5_ := Aside0.mk (hb); have n6_ := Aside0.mk (ho); clear HO720; clear BK721; clear HO724; clear HO729; clear BK731; clear HB; clear HO738; have HO720 := n0_; have BK721 := n1_; have HO724 := n2_; have HO729 := n3_; have BK731 := n4_; have HB := n5_; have HO741 := n6_; clear n0_ n1_ n2_ n3_ n4_ n5_ n6_; clear ho hb hg hat; obtain ⟨Ao30, co30, eo30⟩ := Kd.R_slice HO741.out; subst eo30) | ((with_reducible refine gate_callee (f := 38) rfl ?_); refine goesM_ (some 43) rfl rfl Tryd.func38 (by kernel_rfl) rfl #[.slice Ao30 y739.length co30] rfl ?_; (with_reducible refine (impl_Parse.calls k _ _ y739 t742 t743 t746 _ ?side1 ?side2 ?side3 A12.out).mono ?_); (case side1 => repeat (first | exact (Kd.R_reads' HO741.out).2.2 | (with_reducible refine Kd.C_alloc ?_ _) | (with_reducible refine Kd.C_drewN ?_ _) | (with_reducible refine Kd.C_drew ?_))); (case side2 => exact (Kd.R_reads' HO741.out).2.1); (case side3 => exact GLW_below HG.out bG); rintro e w31 ⟨v744, rfl, ho0, hb⟩; refine ⟨_, rfl, ?_⟩; have n0_ := Aside0.mk (Kd.R_elder' (rA HO720.out) (Kd.R_base ho0) hb); have n1_ := Aside0.mk (Kd.R_below (rA HO724.out) hb); have n2_ := Aside0.mk (Kd.R_elder' (rA HO729.out) (Kd.R_base ho0) hb); have n3_ := Aside0.mk (Kd.R_below (rA HO741.out) hb); have n4_ := Aside0.mk (Kd.R_lower (Kd.R_new' (Kd.R_new' ho0 (Kd.R_lt (rA HO720.out))) (Kd.R_lt (rA HO729.out))) (below_size bG)); have n5_ := Aside0.mk (blk_below (g := gb721) (o := .cells #[.string t717, .slice Ao16 t718.length co16] 49 (0, 0)) (kA BK721.out) hb); have n6_ := Aside0.mk (blk_below (g := gb731) (o := .cells #[.string t726, .slice Ao23 t727.length co23] 49 (0, 0)) (kA BK731.out) hb); have n7_ := Aside0.mk (below_step bG hb); clear HO720; clear HO724; clear HO729; clear HO741; clear BK721; clear BK731; clear HB; have HO720 := n0_; have HO724 := n1_; have HO729 := n2_; have HO741 := n3_; have HO745 := n4_; have BK721 := n5_; have BK731 := n6_; have HB := n7_; clear n0_ n1_ n2_ n3_ n4_ n5_ n6_ n7_; (try clear hb); (try clear hb2); (try clear hk); (try clear hi); (try clear ho0)) | ((with_reducible refine gate_dst (N := 8) rfl ?_); refine box_event ?hg (N := 8) ?hd (cs := #[.string (⟨#[]⟩ : ByteArray), .slice none 0 0]) (t := 49) ?hr ?_; (case hd => rfl); (case hg => rfl); (case hr => first | (go_simp; done) | (go_simp; rfl)); intro gb747 hg w32 hbox hb; have n0_ := Aside0.mk (Kd.R_below (rA HO720.out) hb); have n1_ := Aside0.mk (Kd.R_below (rA HO724.out) hb); have n2_ := Aside0.mk (Kd.R_below (rA HO729.out) hb); have n3_ := Aside0.mk (Kd.R_below (rA HO741.out) hb); have n4_ := Aside0.mk (Kd.R_below (rA HO745.out) hb); have n5_ := Aside0.mk (blk_below (g := gb721) (o := .cells #[.string t717, .slice Ao16 t718.length co16] 49 (0, 0)) (kA BK721.out) hb); have n6_ := Aside0.mk (blk_below (g := gb731) (o := .cells #[.string t726, .slice Ao23 t727.length co23] 49 (0, 0)) (kA BK731.out) hb); have n7_ := Aside0.mk (below_step bG hb); have n8_ := Aside0.mk (hbox); have n9_ := Aside0.mk ((by rw [hg]; exact (below_size bG) : w.heap.size ≤ gb747)); have n10_ := Aside0.mk ((by rw [hg]; exact (below_size bG) : w.heap.size ≤ gb747)); have n11_ := Aside0.mk ((by rw [hg]; exact Nat.ne_of_lt (blk_lt (g := gb721) (o := .cells #[.string t717, .slice Ao16 t718.length co16] 49 (0, 0)) (kA BK721.out)) : gb721 ≠ gb747)); have n12_ := Aside0.mk ((by rw [hg]; exact Nat.ne_of_gt (blk_lt (g := gb721) (o := .cells #[.string t717, .slice Ao16 t718.length co16] 49 (0, 0)) (kA BK721.out)) : gb747 ≠ gb721)); have n13_ := Aside0.mk ((by rw [hg]; exact Nat.ne_of_lt (blk_lt (g := gb731) (o := .cells #[.string t726, .slice Ao23 t727.length co23] 49 (0, 0)) (kA BK731.out)) : gb731 ≠ gb747)); have n14_ := Aside0.mk ((by rw [hg]; exact Nat.ne_of_gt (blk_lt (g := gb731) (o := .cells #[.string t726, .slice Ao23 t727.length co23] 49 (0, 0)) (kA BK731.out)) : gb747 ≠ gb731)); clear HO720; clear HO724; clear HO729; clear HO741; clear HO745; clear BK721; clear BK731; clear HB; have HO720 := n0_; have HO724 := n1_; have HO729 := n2_; have HO741 := n3_; have HO745 := n4_; have BK721 := n5_; have BK731 := n6_; have HB := n7_; have BK747 := n8_; have GW747 := n9_; have GE747 := n10_; have NB721_747 := n11_; have NB747_721 := n12_; have NB731_747 := n13_; have NB747_731 := n14_; clear n0_ n1_ n2_ n3_ n4_ n5_ n6_ n7_ n8_ n9_ n10_ n11_ n12_ n13_ n14_; clear hb hbox hg; have hnb33 := NB747_721.out; have hnc33 := NB721_747.out; have hnb34 := NB747_731.out; have hnc34 := NB731_747.out; have hcz35_0 : w32.cell? ⟨gb747, 0, none⟩ = some (.string (⟨#[]⟩ : ByteArray)) := (blk_cell BK747.out 0).trans rfl; have hcz35_1 : w32.cell? ⟨gb747, 1, none⟩ = some (.slice none 0 0) := (blk_cell BK747.out 1).trans rfl; have hfz35_0 := blk_frozen BK747.out 0; have hfz35_1 := blk_frozen BK747.out 1; obtain ⟨Ao36, co36, eo36⟩ := Kd.R_slice HO745.out; subst eo36))
       go_ret
       exact ⟨by first | rfl | (simp [errW_none, errW_some] <;> rfl) | (simp [*, errW_none, errW_some] <;> rfl), bG⟩
      ·rw [if_neg c11] at H
       exact absurd H (by simp)
     ·rw [if_neg c10] at H
      exact absurd H (by simp)
    ·replace c9 := Bool.eq_false_iff.mpr c9
     subst c9
     have H1 : (some false) = some r := by rw [if_neg (show ¬ (false = true) by decide)] at H; exact H
     clear H
     have H := H1
     clear H1
     obtain rfl := Option.some.inj H
     exact absurd hr_ (by simp)
   ·rw [if_neg c7] at H
    have c7b0 : (t730 == 0) = false := beq_eq_false_iff_ne.mpr c7
    have c7b1 : (t730 != 0) = true := bne_iff_ne.mpr c7
    obtain rfl := Option.some.inj H
    exact absurd hr_ (by simp)
  ·replace c6 := Bool.eq_false_iff.mpr c6
   subst c6
   have H1 : (some false) = some r := by rw [if_neg (show ¬ (false = true) by decide)] at H; exact H
   clear H
   have H := H1
   clear H1
   obtain rfl := Option.some.inj H
   exact absurd hr_ (by simp)
end Go.Proofs.YtfiieppnpmodoaaDoor.Q
end
section
namespace Go.Proofs.YtfiieppnpmodoaaDoor.Q
open Go.RowKit Go.Proofs.YtfiieppnpmodoaaDoorW.PrintWords Go.Proofs.YtfiieppnpmodoaaDoorW.PrintLast Go.Proofs.YtfiieppnpmodoaaDoorW.PrintMore
set_option linter.unusedVariables false
set_option linter.unusedSimpArgs false
def narrow (l : List Int) : Int × Bool := if digs l = true ∧ l.length ≤ 18 then ((natFrom 0 l : Nat), true) else (0, false)
theorem impl_Narrow_at (s : ByteArray) (hs : s.size ≤ 140737488351232) : impl_Narrow.f s = some (narrow (bytesOf s)) := by
  unfold impl_Narrow.f narrow
  rw [if_pos hs, bytesOf_length]
def ubcd : List Int → List Int
  | [] => []
  | c :: t => (48 + c / 16) :: (48 + c % 16) :: ubcd t
theorem ubcd_append (a b : List Int) : ubcd (a ++ b) = ubcd a ++ ubcd b := by
  induction a with
  | nil => rfl
  | cons c t ih => simp [ubcd, ih]
theorem ubcd_length (a : List Int) : (ubcd a).length = 2 * a.length := by
  induction a with
  | nil => rfl
  | cons c t ih => simp [ubcd, ih]; omega
theorem ubcd_range (a : List Int) (h : ∀ c ∈ a, isByte c) : ∀ c ∈ ubcd a, isByte c := by
  induction a with
  | nil => intro c hc; simp [ubcd] at hc
  | cons x t ih =>
    intro c hc
    simp only [ubcd, List.mem_cons] at hc
    have hx := h x (by simp)
    unfold isByte at hx
    rcases hc with rfl | rfl | hc
    · unfold isByte; omega
    · unfold isByte; omega
    · exact ih (fun c hc => h c (by simp [hc])) c hc
theorem take_rd (l : List Int) (n : Nat) (h : n < l.length) : l.take (n + 1) = l.take n ++ [rd l (n : Int)] := by
  rw [List.take_succ_eq_append_getElem h, rd_nat l n h]
def cutAt (l : List Int) (a m : Nat) : List Int := (l.drop a).take m
theorem cutAt_take (l : List Int) (a m : Nat) : (l.take (a + m)).drop a = cutAt l a m := by
  unfold cutAt
  rw [List.drop_take]
  congr 1
  omega
theorem cutAt_length (l : List Int) (a m : Nat) (h : a + m ≤ l.length) : (cutAt l a m).length = m := by
  unfold cutAt
  simp
  omega
theorem cutAt_mem (l : List Int) (a m : Nat) : ∀ c ∈ cutAt l a m, c ∈ l := by
  intro c hc
  unfold cutAt at hc
  exact List.mem_of_mem_drop (List.mem_of_mem_take hc)
def isBcd (n : Nat) (u : List Int) : Bool := if n % 2 = 1 then decide (rd u 0 = 48) && digs (u.drop 1) else digs u
def inAt (l : List Int) (a1 n : Int) : Bool := decide (1 ≤ n ∧ n ≤ 38 ∧ 0 ≤ a1 ∧ a1 ≤ (l.length : Int) ∧ (n + 1) / 2 ≤ (l.length : Int) - a1)
def getBcd (l : List Int) (a1 n : Int) : List Int × Int × Bool :=
  if inAt l a1 n && isBcd n.toNat (ubcd (cutAt l a1.toNat ((n + 1) / 2).toNat)) then
    ((ubcd (cutAt l a1.toNat ((n + 1) / 2).toNat)).drop (n.toNat % 2), a1 + (n + 1) / 2, true)
  else ([], 0, false)
def asStr (r : List Int × Int × Bool) : ByteArray × Int × Bool := (strOfNums r.1, r.2.1, r.2.2)
theorem strOfNums_nil : strOfNums [] = (⟨#[]⟩ : ByteArray) := bytesOf_inj (by rw [bytesOf_strOfNums _ (by simp)]; rfl)
theorem asStr_none : asStr ([], 0, false) = ((⟨#[]⟩ : ByteArray), 0, false) := by unfold asStr; rw [strOfNums_nil]
theorem ubcd_digs (n m : Nat) (u : List Int) (hm : m = (n + 1) / 2) (hn : 1 ≤ n) (hu : u.length = 2 * m) : isBcd n u = (digs u && (decide (n % 2 = 0) || decide (rd u 0 = 48))) := by
  unfold isBcd
  by_cases h : n % 2 = 1
  · rw [if_pos h]
    have h0 : decide (n % 2 = 0) = false := decide_eq_false (by omega)
    rw [h0, Bool.false_or]
    have hd := drop_rd u 0 (by omega)
    simp only [List.drop_zero, Nat.zero_add] at hd
    have hp : 0 < (u.drop 1).length := by simp; omega
    by_cases h48 : rd u 0 = 48
    · have e1 : digs u = digs (u.drop 1) := by
        unfold digs
        have e2 : u.all isDig = (u.drop 1).all isDig := by
          have h7 : isDig (rd u ((0 : Nat) : Int)) = true := by simpa [h48] using (by decide : isDig 48 = true)
          have h8 : u.all isDig = (rd u ((0 : Nat) : Int) :: u.drop 1).all isDig := congrArg (fun x => List.all x isDig) hd
          rw [h8, List.all_cons, h7, Bool.true_and]
        have e3 : u.isEmpty = false := by cases u with | nil => simp at hu; omega | cons => rfl
        have e4 : (u.drop 1).isEmpty = false := by
          generalize u.drop 1 = v at hp
          cases v with | nil => simp at hp | cons => rfl
        rw [e2, e3, e4]
      simp [h48, e1]
    · simp [h48]
  · rw [if_neg h]
    have h0 : decide (n % 2 = 0) = true := decide_eq_true (by omega)
    rw [h0]
    simp
theorem impl_piece_at (l : List Int) (a1 m : Int) : impl_piece.f l a1 m = if 0 ≤ a1 ∧ a1 ≤ (l.length : Int) ∧ 0 ≤ m ∧ m ≤ (l.length : Int) - a1 then some (cutAt l a1.toNat m.toNat, true) else some ([], false) := by
  unfold impl_piece.f
  by_cases h : 0 ≤ a1 ∧ a1 ≤ (l.length : Int) ∧ 0 ≤ m ∧ m ≤ (l.length : Int) - a1
  · rw [if_pos h, if_pos h]
    have e : (a1 + m).toNat = a1.toNat + m.toNat := by omega
    rw [e, cutAt_take]
  · rw [if_neg h, if_neg h]
theorem impl_GetBcd_l (l : List Int) (hb : ∀ c ∈ l, isByte c) (hl : l.length ≤ 40) (a1 n : Int) (ok : Bool) (z : List Int) : ∀ (d i k : Nat), i + d = l.length → d < k → ∃ j, k = j + d + 1 ∧ 
    impl_GetBcd.l0 k a1 n z ok (ubcd (l.take i)) l (l.length : Int) (i : Int) = impl_GetBcd.l0 (j + 1) a1 n z ok (ubcd l) l (l.length : Int) (l.length : Int) := by
  intro d
  induction d with
  | zero =>
    intro i k hd hk
    refine ⟨k - 1, by omega, ?_⟩
    have hi : i = l.length := by omega
    subst hi
    have hk' : k - 1 + 1 = k := by omega
    rw [List.take_length, hk']
  | succ d ih =>
    intro i k hd hk
    obtain ⟨k, rfl⟩ : ∃ m, k = m + 1 := ⟨k - 1, by omega⟩
    obtain ⟨j, hj, ih'⟩ := ih (i + 1) k (by omega) (by omega)
    refine ⟨j, by omega, ?_⟩
    rw [← ih', take_rd l i (by omega), ubcd_append]
    have c1 : (i : Int) < (l.length : Int) := by omega
    have c2 : 0 ≤ (i : Int) := by omega
    have e4 : wrap64 ((i : Int) + 1) = ((i + 1 : Nat) : Int) := by unfold wrap64; omega
    obtain ⟨b0, b1⟩ := hb _ (rd_mem l i (by omega))
    have hz : (ubcd (l.take i)).length ≤ 80 := by rw [ubcd_length, List.length_take]; omega
    rw [impl_GetBcd.l0]
    simp only [e4, if_pos c1, if_pos c2, Option.bind_some]
    generalize rd l (i : Int) = b at b0 b1
    have q2 : Go.bits .and .u8 b 15 = b % 16 := u8_and15 b b0 (by omega)
    have q4 : (48 + b / 16) % 256 = 48 + b / 16 := by omega
    have q5 : (48 + b % 16) % 256 = 48 + b % 16 := by omega
    rw [q2, q4, q5]
    have q6 : (ubcd (l.take i)).length + [48 + b / 16, 48 + b % 16].length < 140737488355328 := by
      simp
      omega
    rw [if_pos q6]
    rfl
theorem impl_GetBcd_e (u : List Int) (hr : ∀ c ∈ u, isByte c) (a1 : Int) (n m : Nat) (z v : List Int) (hm : m = (n + 1) / 2) (h1 : 1 ≤ n) (h2 : n ≤ 38) (hz : z.length = m) (hu : u.length = 2 * m) (ha : 0 ≤ a1) (hb : a1 ≤ 140737488351232) (k : Nat) (hk : 50 < k) :
    impl_GetBcd.l0 (k + 1) a1 (n : Int) z true u v (v.length : Int) (v.length : Int) = some (asStr (if isBcd n u = true then (u.drop (n % 2), a1 + (m : Int), true) else ([], 0, false))) := by
  have c1 : ¬ (v.length : Int) < (v.length : Int) := by omega
  have hbs : bytesOf (strOfNums u) = u := bytesOf_strOfNums u hr
  have hsz : (strOfNums u).size = u.length := by rw [size_eq, hbs]
  simp only [impl_GetBcd.l0, if_neg c1, if_true]
  rw [impl_Digits_at _ (by omega) k (by omega), hbs, Option.bind_some, ubcd_digs n m u hm h1 hu]
  by_cases hg : digs u = true
  · have e1 : wrap64 ((u.length : Int) - (n : Int)) = ((n % 2 : Nat) : Int) := by unfold wrap64; omega
    have e2 : wrap64 (a1 + (z.length : Int)) = a1 + (m : Int) := by unfold wrap64; omega
    have e3 : (((n % 2 : Nat) : Int)).toNat = n % 2 := by omega
    have c2 : 0 ≤ ((n % 2 : Nat) : Int) := by omega
    have c3 : ((n % 2 : Nat) : Int) ≤ (u.length : Int) := by omega
    rw [if_pos hg, e1, e2, if_pos c2, if_pos c3, hg, Bool.true_and, e3]
    by_cases ho : n % 2 = 1
    · have c2 : Int.tmod (n : Int) 2 = 1 := by rw [Int.tmod_eq_emod_of_nonneg (by omega)]; omega
      have c3 : 0 < (u.length : Int) := by omega
      have h0 : decide (n % 2 = 0) = false := decide_eq_false (by omega)
      rw [if_pos c2, if_pos c3, h0, Bool.false_or]
      by_cases h48 : rd u 0 = 48
      · rw [if_pos h48, if_pos (decide_eq_true h48)]; rfl
      · rw [if_neg h48, if_neg (by simp [h48]), asStr_none]
    · have c2 : ¬ Int.tmod (n : Int) 2 = 1 := by rw [Int.tmod_eq_emod_of_nonneg (by omega)]; omega
      have h0 : decide (n % 2 = 0) = true := decide_eq_true (by omega)
      rw [if_neg c2, h0, Bool.true_or, if_pos rfl]; rfl
  · rw [if_neg hg]
    have : digs u = false := by simpa using hg
    rw [this, Bool.false_and, if_neg (by simp), asStr_none]
theorem impl_within_at (a b c : Int) : impl_within.f a b c = some (decide (b ≤ a ∧ a ≤ c)) := by
  unfold impl_within.f
  by_cases h : b ≤ a
  · rw [if_pos h]; simp [h]
  · rw [if_neg h]; simp [h]
theorem impl_GetBcd_at (l : List Int) (hl : l.length ≤ 140737488351232) (hb : ∀ c ∈ l, isByte c) (a1 n : Int) (w1 : -9223372036854775808 ≤ a1 ∧ a1 ≤ 9223372036854775807) (w2 : -9223372036854775808 ≤ n ∧ n ≤ 9223372036854775807) (k : Nat) (hk : 200 < k) :
    impl_GetBcd.f k l a1 n = some (asStr (getBcd l a1 n)) := by
  unfold impl_GetBcd.f
  rw [impl_within_at, Option.bind_some]
  by_cases h1 : 1 ≤ n ∧ n ≤ 38
  · rw [if_pos (decide_eq_true h1)]
    have e0 : wrap64 (n + 1) = n + 1 := by unfold wrap64; omega
    have e1 : Int.tdiv (n + 1) 2 = (n + 1) / 2 := Int.tdiv_eq_ediv_of_nonneg (by omega)
    have e2 : wrap64 ((n + 1) / 2) = (n + 1) / 2 := by unfold wrap64; omega
    rw [e0, e1, e2, impl_piece_at]
    by_cases h2 : 0 ≤ a1 ∧ a1 ≤ (l.length : Int) ∧ 0 ≤ (n + 1) / 2 ∧ (n + 1) / 2 ≤ (l.length : Int) - a1
    · rw [if_pos h2, Option.bind_some]
      have hz : (cutAt l a1.toNat ((n + 1) / 2).toNat).length = ((n + 1) / 2).toNat := cutAt_length _ _ _ (by omega)
      have hb' : ∀ c ∈ cutAt l a1.toNat ((n + 1) / 2).toNat, isByte c := fun c hc => hb c (cutAt_mem _ _ _ c hc)
      obtain ⟨j, hj, h⟩ := impl_GetBcd_l (cutAt l a1.toNat ((n + 1) / 2).toNat) hb' (by omega) a1 n true (cutAt l a1.toNat ((n + 1) / 2).toNat) (cutAt l a1.toNat ((n + 1) / 2).toNat).length 0 k (by omega) (by omega)
      have h' : impl_GetBcd.l0 k a1 n (cutAt l a1.toNat ((n + 1) / 2).toNat) true (([] : List Int)) (cutAt l a1.toNat ((n + 1) / 2).toNat) ((cutAt l a1.toNat ((n + 1) / 2).toNat).length : Int) 0 = _ := h
      simp only
      rw [h']
      have en : ((n.toNat : Nat) : Int) = n := by omega
      have h5 := impl_GetBcd_e (ubcd (cutAt l a1.toNat ((n + 1) / 2).toNat)) (ubcd_range _ hb') a1 n.toNat ((n + 1) / 2).toNat (cutAt l a1.toNat ((n + 1) / 2).toNat) (cutAt l a1.toNat ((n + 1) / 2).toNat) (by omega) (by omega) (by omega) hz (by rw [ubcd_length, hz]) h2.1 (by omega) j (by omega)
      rw [en] at h5
      rw [h5]
      unfold getBcd
      have e3 : inAt l a1 n = true := decide_eq_true (by omega)
      have e4 : ((((n + 1) / 2).toNat : Nat) : Int) = (n + 1) / 2 := by omega
      rw [e3, Bool.true_and, e4]
    · rw [if_neg h2, Option.bind_some]
      obtain ⟨k, rfl⟩ : ∃ m, k = m + 1 := ⟨k - 1, by omega⟩
      unfold getBcd
      have e3 : inAt l a1 n = false := decide_eq_false (by omega)
      rw [e3, Bool.false_and, if_neg (by simp), asStr_none]
      simp only
      rw [impl_GetBcd.l0]
      simp
  · rw [if_neg (by simpa using h1)]
    unfold getBcd
    have e3 : inAt l a1 n = false := decide_eq_false (by omega)
    rw [e3, Bool.false_and, if_neg (by simp), asStr_none]
theorem getBcd_ok (l : List Int) (a1 n : Int) (hb : ∀ c ∈ l, isByte c) (h : (getBcd l a1 n).2.2 = true) :
    digs (getBcd l a1 n).1 = true ∧ (getBcd l a1 n).1.length = n.toNat ∧ (∀ c ∈ (getBcd l a1 n).1, isByte c) ∧ (getBcd l a1 n).2.1 = a1 + (n + 1) / 2 ∧ 1 ≤ n ∧ n ≤ 38 ∧ 0 ≤ a1 ∧ a1 + (n + 1) / 2 ≤ (l.length : Int) := by
  unfold getBcd at h ⊢
  by_cases q : (inAt l a1 n && isBcd n.toNat (ubcd (cutAt l a1.toNat ((n + 1) / 2).toNat))) = true
  · rw [if_pos q] at h ⊢
    simp only [Bool.and_eq_true] at q
    obtain ⟨q1, q2⟩ := q
    have q3 := of_decide_eq_true q1
    have hlen : (ubcd (cutAt l a1.toNat ((n + 1) / 2).toNat)).length = 2 * ((n + 1) / 2).toNat := by rw [ubcd_length, cutAt_length _ _ _ (by omega)]
    have hr : ∀ c ∈ ubcd (cutAt l a1.toNat ((n + 1) / 2).toNat), isByte c := ubcd_range _ (fun c hc => hb c (cutAt_mem _ _ _ c hc))
    generalize ubcd (cutAt l a1.toNat ((n + 1) / 2).toNat) = u at q2 hlen hr
    refine ⟨?_, ?_, fun c hc => hr c (List.mem_of_mem_drop hc), rfl, q3.1, q3.2.1, q3.2.2.1, by omega⟩
    · unfold isBcd at q2
      by_cases o : n.toNat % 2 = 1
      · rw [if_pos o] at q2
        simp only [Bool.and_eq_true] at q2
        simp only [o]
        exact q2.2
      · rw [if_neg o] at q2
        have o' : n.toNat % 2 = 0 := by omega
        simp only [o', List.drop_zero]
        exact q2
    · simp only [List.length_drop]
      omega
  · rw [if_neg q] at h
    exact absurd h (by simp)
theorem getBcd_no (l : List Int) (a1 n : Int) (h : (getBcd l a1 n).2.2 = false) : getBcd l a1 n = ([], 0, false) := by
  unfold getBcd at h ⊢
  split
  · rename_i q
    rw [if_pos q] at h
    exact absurd h (by simp)
  · rfl
def getLen (l : List Int) (a1 w : Int) : Int × Int × Bool :=
  if (w = 2 ∨ w = 3) ∧ (getBcd l a1 w).2.2 = true then (((natFrom 0 (getBcd l a1 w).1 : Nat) : Int), (getBcd l a1 w).2.1, true) else (0, 0, false)
theorem impl_GetLen_at (l : List Int) (hl : l.length ≤ 140737488351232) (hb : ∀ c ∈ l, isByte c) (a1 w : Int) (w1 : -9223372036854775808 ≤ a1 ∧ a1 ≤ 9223372036854775807) (k : Nat) (hk : 300 < k) :
    impl_GetLen.f k l a1 w = some (getLen l a1 w) := by
  have hin : impl_within.f w 2 3 = some (decide (w = 2 ∨ w = 3)) := by
    unfold impl_within.f
    by_cases h : 2 ≤ w
    · rw [if_pos h]; congr 1; apply decide_eq_decide.2; omega
    · rw [if_neg h]; congr 1; symm; apply decide_eq_false; omega
  unfold impl_GetLen.f getLen
  rw [hin, Option.bind_some]
  by_cases h2 : w = 2 ∨ w = 3
  · rw [if_pos (decide_eq_true h2), impl_GetBcd_at l hl hb a1 w w1 (by omega) k (by omega), Option.bind_some]
    unfold asStr
    simp only
    cases hr : (getBcd l a1 w).2.2 with
    | true =>
      obtain ⟨p1, p2, p3, _⟩ := getBcd_ok l a1 w hb hr
      have hz : (strOfNums (getBcd l a1 w).1).size ≤ 18 := by rw [strOfNums_size]; omega
      rw [if_pos rfl, if_pos ⟨h2, rfl⟩, impl_Narrow_at _ (by omega), Option.bind_some, bytesOf_strOfNums _ p3]
      unfold narrow
      rw [if_pos ⟨p1, by omega⟩]
    | false => rw [if_neg (by simp), if_neg (by simp)]
  · rw [if_neg (by simpa using h2), if_neg (fun q => h2 q.1)]
theorem impl_FieldSize_at (x : Int) (k : Nat) (hk : 20 ≤ k) : impl_FieldSize.f k x = some (sizeOf_ x) := by
  obtain ⟨y, h⟩ := rowOf_at x k hk
  unfold impl_FieldSize.f
  rw [h]; rfl
def gfHead (l : List Int) (a1 x : Int) : Int × Int × Bool := if prefixed x = true then getLen l a1 (lenWidth x) else (sizeOf_ x, a1, true)
def pieceAt (l : List Int) (a n : Int) : List Int × Int × Bool := if 0 ≤ a ∧ a ≤ (l.length : Int) ∧ 0 ≤ n ∧ n ≤ (l.length : Int) - a then (cutAt l a.toNat n.toNat, a + n, true) else ([], 0, false)
def gfBody (l : List Int) (a n x : Int) : List Int × Int × Bool := if inDigits x = true then getBcd l a n else pieceAt l a n
def gfFin (x : Int) (r : List Int × Int × Bool) : List Int × Int × Bool := if r.2.2 = true ∧ fieldOk x r.1 = true then (r.1, r.2.1, true) else ([], 0, false)
def getField (l : List Int) (a1 x : Int) : List Int × Int × Bool :=
  if (gfHead l a1 x).2.2 = true then gfFin x (gfBody l (gfHead l a1 x).2.1 (gfHead l a1 x).1 x) else ([], 0, false)
theorem natFrom_le : ∀ (l : List Int) (a n : Nat), l.all isDig = true → a < 10 ^ n → natFrom a l < 10 ^ (n + l.length) := by
  intro l
  induction l with
  | nil => intro a n _ h; exact h
  | cons c t ih =>
    intro a n h ha
    simp only [List.all_cons, Bool.and_eq_true] at h
    have hc := dig_range' h.1
    rw [natFrom]
    have := ih (a * 10 + (c - 48).toNat) (n + 1) h.2 (by rw [Nat.pow_succ]; omega)
    rw [List.length_cons, show n + (t.length + 1) = n + 1 + t.length by omega]
    exact this
theorem getLen_ok (l : List Int) (a1 w : Int) (hb : ∀ c ∈ l, isByte c) (h : (getLen l a1 w).2.2 = true) :
    0 ≤ (getLen l a1 w).1 ∧ (getLen l a1 w).1 ≤ 999 ∧ 0 ≤ (getLen l a1 w).2.1 ∧ (getLen l a1 w).2.1 ≤ (l.length : Int) ∧ 0 ≤ a1 := by
  unfold getLen at h ⊢
  by_cases q : (w = 2 ∨ w = 3) ∧ (getBcd l a1 w).2.2 = true
  · rw [if_pos q]
    obtain ⟨p1, p2, p3, p4, p5, p6, p7, p8⟩ := getBcd_ok l a1 w hb q.2
    have hn := natFrom_le (getBcd l a1 w).1 0 0 (digs_and _ p1).1 (by decide)
    rw [p2] at hn
    have h3 : (10 : Nat) ^ (0 + w.toNat) ≤ 1000 := by
      rcases q.1 with rfl | rfl <;> decide
    simp only
    refine ⟨by omega, by omega, by omega, by omega, p7⟩
  · rw [if_neg q] at h
    exact absurd h (by simp)
theorem gfHead_ok (l : List Int) (a1 x : Int) (hb : ∀ c ∈ l, isByte c) (hl : l.length ≤ 140737488351232) (w1 : -9223372036854775808 ≤ a1 ∧ a1 ≤ 9223372036854775807) (h : (gfHead l a1 x).2.2 = true) :
    0 ≤ (gfHead l a1 x).1 ∧ (gfHead l a1 x).1 ≤ 999 ∧ -9223372036854775808 ≤ (gfHead l a1 x).2.1 ∧ (gfHead l a1 x).2.1 ≤ 9223372036854775807 := by
  unfold gfHead at h ⊢
  by_cases q : prefixed x = true
  · rw [if_pos q] at h ⊢
    obtain ⟨p1, p2, p3, p4, _⟩ := getLen_ok l a1 _ hb h
    omega
  · rw [if_neg q]
    have := sizeOf_range x
    simp only
    omega
theorem fin_impl (x : Int) (r : List Int × Int × Bool) (hr : ∀ c ∈ r.1, isByte c) (hz : r.1.length ≤ 140737488351232) (hno : r.2.2 = false → r = ([], 0, false)) (e : Int) (he : r.2.2 = true → e = r.2.1) (k : Nat) (hk : r.1.length + 30 ≤ k) :
    (if r.2.2 = true then (impl_FieldOk.f k x (strOfNums r.1)).bind fun t => (if t = true then some (strOfNums r.1, e, true) else some ((⟨#[]⟩ : ByteArray), 0, false)) else some ((⟨#[]⟩ : ByteArray), 0, false)) = some (asStr (gfFin x r)) := by
  unfold gfFin
  cases hr2 : r.2.2 with
  | true =>
    rw [if_pos rfl, impl_FieldOk_at x _ (by rw [strOfNums_size]; exact hz) k (by rw [strOfNums_size]; omega), Option.bind_some, bytesOf_strOfNums _ hr]
    cases hf : fieldOk x r.1 with
    | true => rw [if_pos rfl, if_pos ⟨rfl, rfl⟩, he hr2]; rfl
    | false => rw [if_neg (by simp), if_neg (by simp), asStr_none]
  | false => rw [if_neg (by simp), if_neg (by simp), asStr_none]
theorem getBcd_bytes (l : List Int) (a n : Int) (hb : ∀ c ∈ l, isByte c) : ∀ c ∈ (getBcd l a n).1, isByte c := by
  cases h : (getBcd l a n).2.2 with
  | true => exact (getBcd_ok l a n hb h).2.2.1
  | false => rw [getBcd_no l a n h]; simp
theorem getBcd_size (l : List Int) (a n : Int) (hb : ∀ c ∈ l, isByte c) : (getBcd l a n).1.length ≤ 38 := by
  cases h : (getBcd l a n).2.2 with
  | true =>
    obtain ⟨_, p2, _, _, _, p6, _⟩ := getBcd_ok l a n hb h
    omega
  | false => rw [getBcd_no l a n h]; simp
theorem pieceAt_facts (l : List Int) (a n : Int) (hb : ∀ c ∈ l, isByte c) :
    (∀ c ∈ (pieceAt l a n).1, isByte c) ∧ (pieceAt l a n).1.length ≤ n.toNat ∧ ((pieceAt l a n).2.2 = false → pieceAt l a n = ([], 0, false)) ∧ ((pieceAt l a n).2.2 = true → (pieceAt l a n).1.length = n.toNat ∧ (pieceAt l a n).2.1 = a + n) := by
  unfold pieceAt
  by_cases q : 0 ≤ a ∧ a ≤ (l.length : Int) ∧ 0 ≤ n ∧ n ≤ (l.length : Int) - a
  · rw [if_pos q]
    have := cutAt_length l a.toNat n.toNat (by omega)
    exact ⟨fun c hc => hb c (cutAt_mem _ _ _ c hc), by simp only; omega, fun h => absurd h (by simp), fun _ => ⟨this, rfl⟩⟩
  · rw [if_neg q]
    exact ⟨by simp, by simp, fun _ => rfl, fun h => absurd h (by simp)⟩
theorem impl_GetField_at (l : List Int) (hl : l.length ≤ 140737488351232) (hb : ∀ c ∈ l, isByte c) (a1 x : Int) (w1 : -9223372036854775808 ≤ a1 ∧ a1 ≤ 9223372036854775807) (k : Nat) (hk : 1100 < k) :
    impl_GetField.f k l a1 x = some (asStr (getField l a1 x)) := by
  obtain ⟨k, rfl⟩ : ∃ m, k = m + 3 := ⟨k - 3, by omega⟩
  have h2 : ∀ (a n : Int) (h : Bool), -9223372036854775808 ≤ a ∧ a ≤ 9223372036854775807 → 0 ≤ n ∧ n ≤ 999 → h = inDigits x → impl_GetField.j2 (k + 1) l a x n h = some (asStr (gfFin x (gfBody l a n x))) := by
    intro a n h ha hn e
    subst e
    rw [impl_GetField.j2]
    unfold gfBody
    by_cases q : inDigits x = true
    · rw [if_pos q, if_pos q, impl_GetBcd_at l hl hb a n ha (by omega) k (by omega), Option.bind_some]
      exact fin_impl x (getBcd l a n) (getBcd_bytes l a n hb) (by have := getBcd_size l a n hb; omega) (getBcd_no l a n) _ (fun _ => rfl) k (by have := getBcd_size l a n hb; omega)
    · rw [if_neg q, if_neg q, impl_piece_at]
      obtain ⟨f1, f2, f3, f4⟩ := pieceAt_facts l a n hb
      have h5 := fin_impl x (pieceAt l a n) f1 (by omega) f3 (wrap64 (a + n)) (fun h => by
        rw [(f4 h).2]
        unfold pieceAt at h
        split at h
        · rename_i z
          unfold wrap64
          omega
        · exact absurd h (by simp)) k (by omega)
      rw [← h5]
      unfold pieceAt
      split <;> rfl
  have h1 : ∀ (a n : Int) (ok : Bool), (ok = true → (-9223372036854775808 ≤ a ∧ a ≤ 9223372036854775807) ∧ (0 ≤ n ∧ n ≤ 999)) → impl_GetField.j1 (k + 2) l a x n (kindOf x) ok = some (asStr (if ok = true then gfFin x (gfBody l a n x) else ([], 0, false))) := by
    intro a n ok h
    rw [impl_GetField.j1]
    cases ok with
    | true =>
      obtain ⟨ha, hn⟩ := h rfl
      rw [if_pos rfl, if_pos rfl]
      by_cases q : kindOf x = 1
      · rw [if_pos q]; exact h2 a n true ha hn (by unfold inDigits; simp [q])
      · rw [if_neg q]
        refine h2 a n _ ha hn ?_
        unfold inDigits
        by_cases q3 : kindOf x = 3 <;> simp [q, q3]
    | false => rw [if_neg (by simp), if_neg (by simp), asStr_none]
  have hh := gfHead_ok l a1 x hb hl w1
  have h0 : ∀ h : Bool, h = prefixed x → impl_GetField.j0 (k + 3) l a1 x (sizeOf_ x) (kindOf x) true h = some (asStr (getField l a1 x)) := by
    intro h e
    subst e
    rw [impl_GetField.j0]
    unfold getField
    unfold gfHead at hh ⊢
    by_cases q : prefixed x = true
    · rw [if_pos q, impl_lenDigits_at x (k + 2) (by omega), Option.bind_some, impl_GetLen_at l hl hb a1 _ w1 (k + 2) (by omega), Option.bind_some, if_pos q]
      rw [if_pos q] at hh
      exact h1 _ _ _ (fun z => by have := hh z; omega)
    · rw [if_neg q, if_neg q]
      rw [if_neg q] at hh
      exact h1 a1 (sizeOf_ x) true (fun z => by have := hh rfl; simp only at this; omega)
  unfold impl_GetField.f
  rw [impl_FieldSize_at x _ (by omega), Option.bind_some, impl_FieldKind_at x _ (by omega), Option.bind_some]
  by_cases q3 : kindOf x = 3
  · rw [if_pos q3]; exact h0 true (by unfold prefixed; simp [q3])
  rw [if_neg q3]
  by_cases q4 : kindOf x = 4
  · rw [if_pos q4]; exact h0 true (by unfold prefixed; simp [q4])
  rw [if_neg q4]
  refine h0 _ ?_
  unfold prefixed
  by_cases q5 : kindOf x = 5 <;> simp [q3, q4, q5]
theorem pieceAt_yes (l : List Int) (a n : Int) (h : 0 ≤ a ∧ a ≤ (l.length : Int) ∧ 0 ≤ n ∧ n ≤ (l.length : Int) - a) : pieceAt l a n = (cutAt l a.toNat n.toNat, a + n, true) := if_pos h
theorem bcd_bytes : ∀ (n : Nat) (l : List Int), l.length = 2 * n → l.all isDig = true → ∀ c ∈ bcd l, isByte c
  | 0, l, h, _ => by
    have : l = [] := List.length_eq_zero_iff.1 (by omega)
    rw [this]; intro c hc; simp [bcd] at hc
  | n + 1, [], h, _ => by simp at h
  | n + 1, [a], h, _ => by simp at h; omega
  | n + 1, a :: b :: t, h, hd => by
    simp only [List.all_cons, Bool.and_eq_true] at hd
    have ha := dig_range' hd.1
    have hb := dig_range' hd.2.1
    intro c hc
    rw [bcd] at hc
    rcases List.mem_cons.1 hc with rfl | hc
    · unfold isByte; omega
    · exact bcd_bytes n t (by simp at h; omega) hd.2.2 c hc
theorem ubcd_bcd : ∀ (n : Nat) (l : List Int), l.length = 2 * n → l.all isDig = true → ubcd (bcd l) = l
  | 0, l, h, _ => by
    have : l = [] := List.length_eq_zero_iff.1 (by omega)
    rw [this]; rfl
  | n + 1, [], h, _ => by simp at h
  | n + 1, [a], h, _ => by simp at h; omega
  | n + 1, a :: b :: t, h, hd => by
    simp only [List.all_cons, Bool.and_eq_true] at hd
    have ha := dig_range' hd.1
    have hb := dig_range' hd.2.1
    rw [bcd, ubcd, ubcd_bcd n t (by simp at h; omega) hd.2.2]
    have e1 : 48 + ((a - 48) * 16 + (b - 48)) / 16 = a := by omega
    have e2 : 48 + ((a - 48) * 16 + (b - 48)) % 16 = b := by omega
    rw [e1, e2]
theorem cutAt_all (l : List Int) : cutAt l 0 l.length = l := by unfold cutAt; simp
theorem getBcd_putBcd (L : List Int) (hd : L.all isDig = true) (h1 : 1 ≤ L.length) (h2 : L.length ≤ 38) :
    putBcd L = (bcd (evened L), true) ∧ (bcd (evened L)).length = (L.length + 1) / 2 ∧ (∀ c ∈ bcd (evened L), isByte c) ∧ getBcd (bcd (evened L)) 0 (L.length : Int) = (L, (((L.length + 1) / 2 : Nat) : Int), true) := by
  have he := evened_length L
  have ha := evened_all L hd
  have hl := bcd_length _ _ he
  have hu := ubcd_bcd _ _ he ha
  have hg : digs L = true := by
    unfold digs; rw [hd]; cases L with
    | nil => simp at h1
    | cons => rfl
  have hge : digs (evened L) = true := by
    unfold digs; rw [ha]; cases hE : evened L with
    | nil => rw [hE] at he; simp at he; omega
    | cons => rfl
  refine ⟨by unfold putBcd; rw [hg]; simp [h2], hl, bcd_bytes _ _ he ha, ?_⟩
  unfold getBcd
  have en : (((L.length : Int) + 1) / 2).toNat = (bcd (evened L)).length := by omega
  have ei : inAt (bcd (evened L)) 0 (L.length : Int) = true := by unfold inAt; simp; omega
  rw [en, Int.toNat_zero, cutAt_all, hu, ei, Int.toNat_natCast]
  have eb : isBcd L.length (evened L) = true := by
    rw [ubcd_digs L.length ((L.length + 1) / 2) (evened L) rfl h1 he, hge]
    unfold evened
    by_cases q : L.length % 2 = 1
    · rw [if_pos q]; simp [rd]
    · simp; omega
  have ed : (evened L).drop (L.length % 2) = L := by
    unfold evened
    by_cases q : L.length % 2 = 1
    · rw [if_pos q, q]; rfl
    · rw [if_neg q, show L.length % 2 = 0 by omega]; rfl
  rw [eb, ed]
  simp
theorem wide3 (n : Nat) (h : n < 1000) : bytesOf (wide (n : Int) 3) = [48 + ((n / 100 : Nat) : Int), 48 + ((n / 10 % 10 : Nat) : Int), 48 + ((n % 10 : Nat) : Int)] := by
  have hs : (decS n).size = (decL n).length := decS_size n
  unfold wide
  rw [Int.toNat_natCast]
  by_cases q1 : n < 10
  · have e := decL_small n q1
    rw [e] at hs
    rw [if_pos ⟨by omega, by omega, by omega, by rw [hs]; simp⟩, bytesOf_append, bytesOf_rep, bytesOf_decS, e, hs]
    have : n / 100 = 0 := by omega
    have : n / 10 % 10 = 0 := by omega
    have : n % 10 = n := by omega
    simp_all [List.replicate]
    omega
  · have e := decL_step n q1
    by_cases q2 : n < 100
    · rw [decL_small (n / 10) (by omega)] at e
      rw [e] at hs
      rw [if_pos ⟨by omega, by omega, by omega, by rw [hs]; simp⟩, bytesOf_append, bytesOf_rep, bytesOf_decS, e, hs]
      have : n / 100 = 0 := by omega
      have : n / 10 % 10 = n / 10 := by omega
      simp_all [List.replicate]
      omega
    · rw [decL_step (n / 10) (by omega), decL_small (n / 10 / 10) (by omega)] at e
      rw [e] at hs
      rw [if_pos ⟨by omega, by omega, by omega, by rw [hs]; simp⟩, bytesOf_append, bytesOf_rep, bytesOf_decS, e, hs]
      have : n / 10 / 10 = n / 100 := by omega
      simp_all [List.replicate]
theorem cutAt_mid (p b q : List Int) : cutAt (p ++ b ++ q) p.length b.length = b := by
  unfold cutAt
  rw [List.append_assoc, List.drop_left, List.take_left]
theorem getBcd_mid (p q L : List Int) (hd : L.all isDig = true) (h1 : 1 ≤ L.length) (h2 : L.length ≤ 38) :
    getBcd (p ++ bcd (evened L) ++ q) (p.length : Int) (L.length : Int) = (L, ((p.length + (bcd (evened L)).length : Nat) : Int), true) := by
  obtain ⟨_, g2, _, g4⟩ := getBcd_putBcd L hd h1 h2
  have he : ((L.length : Int) + 1) / 2 = ((bcd (evened L)).length : Int) := by omega
  unfold getBcd at g4 ⊢
  rw [he] at g4 ⊢
  rw [Int.toNat_natCast (bcd (evened L)).length, Int.toNat_zero, cutAt_all] at g4
  rw [Int.toNat_natCast (bcd (evened L)).length, Int.toNat_natCast p.length, cutAt_mid]
  have i1 : inAt (bcd (evened L)) 0 (L.length : Int) = true := by unfold inAt; simp; omega
  have i2 : inAt (p ++ bcd (evened L) ++ q) (p.length : Int) (L.length : Int) = true := by unfold inAt; simp; omega
  rw [i1, Bool.true_and] at g4
  rw [i2, Bool.true_and]
  by_cases z : isBcd (L.length : Int).toNat (ubcd (bcd (evened L))) = true
  · rw [if_pos z] at g4 ⊢
    have := congrArg Prod.fst g4
    simp only at this
    rw [this]
    congr 2
  · rw [if_neg z] at g4
    have := congrArg (fun r => r.2.2) g4
    simp at this
theorem wide2 (n : Nat) (h : n < 100) : bytesOf (wide (n : Int) 2) = [48 + ((n / 10 : Nat) : Int), 48 + ((n % 10 : Nat) : Int)] := by
  have hs : (decS n).size = (decL n).length := decS_size n
  unfold wide
  rw [Int.toNat_natCast]
  by_cases q1 : n < 10
  · have e := decL_small n q1
    rw [e] at hs
    rw [if_pos ⟨by omega, by omega, by omega, by rw [hs]; simp⟩, bytesOf_append, bytesOf_rep, bytesOf_decS, e, hs]
    have z1 : n / 10 = 0 := by omega
    have z2 : n % 10 = n := by omega
    rw [z1, z2]
    simp [List.replicate]
  · have e := decL_step n q1
    rw [decL_small (n / 10) (by omega)] at e
    rw [e] at hs
    rw [if_pos ⟨by omega, by omega, by omega, by rw [hs]; simp⟩, bytesOf_append, bytesOf_rep, bytesOf_decS, e, hs]
    simp_all [List.replicate]
theorem wide_facts (n w : Int) (h0 : 0 ≤ n) (hw : (w = 2 ∧ n < 100) ∨ (w = 3 ∧ n < 1000)) : (bytesOf (wide n w)).all isDig = true ∧ ((bytesOf (wide n w)).length : Int) = w ∧ ((natFrom 0 (bytesOf (wide n w)) : Nat) : Int) = n := by
  obtain ⟨m, rfl⟩ := Int.eq_ofNat_of_zero_le h0
  rcases hw with ⟨rfl, h⟩ | ⟨rfl, h⟩
  · rw [wide2 m (by omega)]
    refine ⟨by unfold isDig; simp; omega, rfl, ?_⟩
    simp [natFrom]; omega
  · rw [wide3 m (by omega)]
    refine ⟨by unfold isDig; simp; omega, rfl, ?_⟩
    simp [natFrom]; omega
theorem putLen_facts (n w : Int) (h0 : 0 ≤ n) (hw : (w = 2 ∧ n < 100) ∨ (w = 3 ∧ n < 1000)) : putLen n w = (bcd (evened (bytesOf (wide n w))), true) ∧ (∀ c ∈ (putLen n w).1, isByte c) ∧ (putLen n w).1.length = ((w + 1) / 2).toNat := by
  obtain ⟨d1, d2, d3⟩ := wide_facts n w h0 hw
  obtain ⟨p1, p2, p3, _⟩ := getBcd_putBcd _ d1 (by omega) (by omega)
  have hp : putLen n w = (bcd (evened (bytesOf (wide n w))), true) := by unfold putLen; rw [if_pos (by omega), p1]
  refine ⟨hp, ?_, ?_⟩
  · rw [hp]; exact p3
  · rw [hp]; simp only; omega
theorem getLen_mid (p q : List Int) (n w : Int) (h0 : 0 ≤ n) (hw : (w = 2 ∧ n < 100) ∨ (w = 3 ∧ n < 1000)) :
    getLen (p ++ (putLen n w).1 ++ q) (p.length : Int) w = (n, ((p.length + (putLen n w).1.length : Nat) : Int), true) := by
  obtain ⟨d1, d2, d3⟩ := wide_facts n w h0 hw
  obtain ⟨hp, _, _⟩ := putLen_facts n w h0 hw
  have g := getBcd_mid p q _ d1 (by omega) (by omega)
  rw [d2] at g
  rw [hp]
  unfold getLen
  simp only
  rw [g, if_pos ⟨by omega, rfl⟩]
  simp only
  rw [d3]
theorem lenWidth_fit (x : Int) (n : Nat) (hn : (n : Int) ≤ sizeOf_ x) (hp : prefixed x = true) : (lenWidth x = 2 ∧ (n : Int) < 100) ∨ (lenWidth x = 3 ∧ (n : Int) < 1000) := by
  have := sizeOf_range x
  unfold lenWidth
  split
  · right; exact ⟨rfl, by omega⟩
  · left; exact ⟨rfl, by omega⟩
theorem fieldOk_fixed (x : Int) (L : List Int) (h : fieldOk x L = true) (hp : prefixed x = false) : (L.length : Int) = sizeOf_ x := by
  have hp' := of_decide_eq_false hp
  have kr := kind_range x
  unfold fieldOk at h
  by_cases q : kindOf x = 1
  · rw [if_pos q] at h
    simp only [Bool.and_eq_true, beq_iff_eq] at h
    exact h.2
  rw [if_neg q] at h
  by_cases q2 : kindOf x = 2
  · rw [if_pos q2] at h
    simp only [Bool.and_eq_true, beq_iff_eq] at h
    exact h.2
  rw [if_neg q2, if_neg (by omega), if_neg (by omega)] at h
  exact absurd h (by simp)
theorem getField_mid (p q L : List Int) (x : Int) (h : fieldOk x L = true) :
    getField (p ++ (putField x L).1 ++ q) (p.length : Int) x = (L, ((p.length + (putField x L).1.length : Nat) : Int), true) := by
  have hl := fieldOk_len x L h
  have hput : (putField x L).1 = pfHead x L.length ++ pfBody x L := by unfold putField; rw [if_pos h]
  have hhead : gfHead (p ++ (putField x L).1 ++ q) (p.length : Int) x = ((L.length : Int), ((p.length + (pfHead x L.length).length : Nat) : Int), true) := by
    unfold gfHead
    rw [hput]
    by_cases hp : prefixed x = true
    · have hf := lenWidth_fit x L.length hl.2 hp
      have g := getLen_mid p (pfBody x L ++ q) (L.length : Int) (lenWidth x) (by omega) hf
      have e : pfHead x L.length = (putLen (L.length : Int) (lenWidth x)).1 := by unfold pfHead; rw [if_pos hp]
      rw [if_pos hp, e, List.append_assoc p, List.append_assoc, ← List.append_assoc p, g]
    · have e : pfHead x L.length = [] := by unfold pfHead; rw [if_neg hp]
      rw [if_neg hp, e, fieldOk_fixed x L h (by simpa using hp)]
      simp
  have hbody : gfBody (p ++ (putField x L).1 ++ q) ((p.length + (pfHead x L.length).length : Nat) : Int) (L.length : Int) x = (L, ((p.length + (putField x L).1.length : Nat) : Int), true) := by
    have el : p ++ (putField x L).1 ++ q = (p ++ pfHead x L.length) ++ pfBody x L ++ q := by rw [hput]; simp
    have ez : p.length + (pfHead x L.length).length = (p ++ pfHead x L.length).length := by simp
    have ew : p.length + (putField x L).1.length = (p ++ pfHead x L.length).length + (pfBody x L).length := by rw [hput]; simp; omega
    rw [el, ez, ew]
    generalize p ++ pfHead x L.length = P
    unfold gfBody pfBody
    by_cases hd : inDigits x = true
    · rw [if_pos hd, if_pos hd]
      obtain ⟨d1, d2, d3⟩ := fieldOk_digits x L h hd
      exact getBcd_mid P q L d1 d2 d3
    · rw [if_neg hd, if_neg hd, pieceAt_yes _ _ _ ⟨by omega, by simp; omega, by omega, by simp; omega⟩, Int.toNat_natCast, Int.toNat_natCast, cutAt_mid]
      congr 2
  unfold getField
  rw [hhead]
  simp only [if_true]
  rw [hbody]
  unfold gfFin
  exact if_pos ⟨rfl, h⟩
theorem putField_bytes (x : Int) (L : List Int) (hb : ∀ c ∈ L, isByte c) : ∀ c ∈ (putField x L).1, isByte c := by
  unfold putField
  split
  · rename_i h
    have hl := fieldOk_len x L h
    intro c hc
    simp only [List.mem_append] at hc
    rcases hc with hc | hc
    · unfold pfHead at hc
      split at hc
      · rename_i hp
        exact (putLen_facts _ _ (by omega) (lenWidth_fit x L.length hl.2 hp)).2.1 c hc
      · cases hc
    · unfold pfBody at hc
      split at hc
      · rename_i hd
        obtain ⟨d1, d2, d3⟩ := fieldOk_digits x L h hd
        exact (getBcd_putBcd L d1 d2 d3).2.2.1 c hc
      · exact hb c hc
  · intro c hc; cases hc
theorem putField_len (x : Int) (L : List Int) : (putField x L).1.length ≤ 100 := by
  unfold putField
  split
  · rename_i h
    have hl := fieldOk_len x L h
    have := sizeOf_range x
    have h1 : (pfHead x L.length).length ≤ 38 := by
      unfold pfHead
      split
      · exact putLen_short _ _
      · simp
    have h2 : (pfBody x L).length ≤ 60 := by
      unfold pfBody
      split
      · rename_i hd
        obtain ⟨d1, d2, d3⟩ := fieldOk_digits x L h hd
        have := (getBcd_putBcd L d1 d2 d3).2.1
        omega
      · omega
    simp only [List.length_append]
    omega
  · simp
def bitOn (b : Int) (j : Nat) : Bool := decide ((b / 2 ^ (7 - j)) % 2 = 1)
theorem bit_impl (b : Int) (j : Nat) (h0 : 0 ≤ b) (h1 : b ≤ 255) (h2 : j < 8) : (Go.bits .and .u8 b (shr .u8 128 (j : Int)) = 0) ↔ bitOn b j = false := by
  have h : ∀ (j : Fin 8) (b : Fin 256), decide (Go.bits .and .u8 ((b.val : Nat) : Int) (shr .u8 128 ((j.val : Nat) : Int)) = 0) = !bitOn ((b.val : Nat) : Int) j.val := by decide +kernel
  have := h ⟨j, h2⟩ ⟨b.toNat, by omega⟩
  have e : ((b.toNat : Nat) : Int) = b := by omega
  simp only [e] at this
  constructor
  · intro q
    rw [decide_eq_true q] at this
    simpa using this.symm
  · intro q
    rw [q] at this
    simpa using this
def bitsOf (l : List Int) (m : Nat) : List Int := ((List.range m).filter fun i => bitOn (rd l ((i / 8 : Nat) : Int)) (i % 8)).map fun i => ((i + 1 : Nat) : Int)
theorem bitsOf_succ (l : List Int) (m : Nat) : bitsOf l (m + 1) = bitsOf l m ++ (if bitOn (rd l ((m / 8 : Nat) : Int)) (m % 8) = true then [((m + 1 : Nat) : Int)] else []) := by
  unfold bitsOf
  rw [List.range_succ, List.filter_append, List.map_append]
  congr 1
  by_cases h : bitOn (rd l ((m / 8 : Nat) : Int)) (m % 8) = true
  · rw [if_pos h]; simp only [List.filter, h, List.map]
  · have h' : bitOn (rd l ((m / 8 : Nat) : Int)) (m % 8) = false := by simpa using h
    rw [if_neg h]; simp only [List.filter, h', List.map]
theorem bitsOf_length (l : List Int) (m : Nat) : (bitsOf l m).length ≤ m := by
  unfold bitsOf
  rw [List.length_map]
  have := List.length_filter_le (fun i => bitOn (rd l ((i / 8 : Nat) : Int)) (i % 8)) (List.range m)
  simpa using this
def getBits (l : List Int) (a1 : Int) : List Int × Int × Bool :=
  if 0 ≤ a1 ∧ a1 ≤ (l.length : Int) - 8 then (bitsOf (cutAt l a1.toNat 8) 64, a1 + 8, true) else ([], 0, false)
theorem impl_GetBits_l (l : List Int) (h3 : l.length = 8) (hb : ∀ c ∈ l, isByte c) (a1 : Int) (ha : 0 ≤ a1) (ha2 : a1 ≤ 140737488351232) : ∀ (d i k : Nat), i + d = 64 → d < k →
    impl_GetBits.l0 k a1 l (bitsOf l i) ((i + 1 : Nat) : Int) = some (bitsOf l 64, a1 + 8, true) := by
  intro d
  induction d with
  | zero =>
    intro i k hd hk
    obtain ⟨k, rfl⟩ : ∃ m, k = m + 1 := ⟨k - 1, by omega⟩
    have hi : i = 64 := by omega
    subst hi
    have e : wrap64 (a1 + 8) = a1 + 8 := by unfold wrap64; omega
    simp only [impl_GetBits.l0, e]
    rfl
  | succ d ih =>
    intro i k hd hk
    obtain ⟨k, rfl⟩ : ∃ m, k = m + 1 := ⟨k - 1, by omega⟩
    have ih' := ih (i + 1) k (by omega) (by omega)
    have hz := bitsOf_length l i
    have c0 : ((i + 1 : Nat) : Int) ≤ 64 := by omega
    have c1 : 0 ≤ ((i / 8 : Nat) : Int) := by omega
    have c2 : ((i / 8 : Nat) : Int) < (l.length : Int) := by omega
    have c3 : 0 ≤ ((i % 8 : Nat) : Int) := by omega
    have c4 : (bitsOf l i).length < 17592186044416 := by omega
    obtain ⟨b0, b1⟩ := hb _ (rd_mem l (i / 8) (by omega))
    rw [bitsOf_succ] at ih'
    have hbit := Aside0.mk (bit_impl (rd l ((i / 8 : Nat) : Int)) (i % 8) b0 b1 (by omega))
    have e1 : True → wrap64 (((i + 1 : Nat) : Int) - 1) = ((i : Nat) : Int) := by intro _; unfold wrap64; omega
    have e2 : True → Int.tdiv (i : Int) 8 = ((i / 8 : Nat) : Int) := by intro _; rw [Int.tdiv_eq_ediv_of_nonneg (by omega)]; omega
    have e3 : True → Int.tmod (i : Int) 8 = ((i % 8 : Nat) : Int) := by intro _; rw [Int.tmod_eq_emod_of_nonneg (by omega)]; omega
    have e4 : True → wrap64 ((i / 8 : Nat) : Int) = ((i / 8 : Nat) : Int) := fun _ => w64id (by omega) (by omega)
    have e7 : True → wrap64 (((i + 1 : Nat) : Int) + 1) = ((i + 1 + 1 : Nat) : Int) := by intro _; rw [w64id (by omega) (by omega)]; omega
    simp only [impl_GetBits.l0, if_pos c0, e1 trivial, e2 trivial, e3 trivial, e4 trivial, e7 trivial, if_pos c1, if_pos c2, if_pos c3, if_pos c4]
    generalize rd l ((i / 8 : Nat) : Int) = b at hbit ih'
    by_cases h : bitOn b (i % 8) = true
    · rw [if_neg (fun q => by rw [hbit.out.1 q] at h; exact Bool.false_ne_true h)]
      rw [if_pos h] at ih'
      exact ih'
    · rw [if_pos (hbit.out.2 (by simpa using h))]
      rw [if_neg h, List.append_nil] at ih'
      exact ih'
theorem impl_GetBits_at (l : List Int) (hl : l.length ≤ 140737488351232) (hb : ∀ c ∈ l, isByte c) (a1 : Int) (w1 : -9223372036854775808 ≤ a1 ∧ a1 ≤ 9223372036854775807) (k : Nat) (hk : 100 < k) :
    impl_GetBits.f k l a1 = some (getBits l a1) := by
  unfold impl_GetBits.f getBits
  rw [impl_piece_at]
  by_cases h2 : 0 ≤ a1 ∧ a1 ≤ (l.length : Int) - 8
  · rw [if_pos (by omega), if_pos h2, Option.bind_some, if_pos rfl]
    exact impl_GetBits_l (cutAt l a1.toNat 8) (cutAt_length _ _ _ (by omega)) (fun c hc => hb c (cutAt_mem _ _ _ c hc)) a1 h2.1 (by omega) 64 0 k (by omega) (by omega)
  · rw [if_neg (by omega), if_neg h2, Option.bind_some, if_neg (by simp)]
def orBit (x : List Int) (b : Int) : List Int := if 1 ≤ b ∧ b ≤ 64 then x.set ((b - 1) / 8).toNat (Go.bits .or .u8 (rd x ((b - 1) / 8)) (shr .u8 128 ((b - 1) % 8))) else x
def putBits (l : List Int) : List Int := l.foldl orBit (List.replicate 8 0)
theorem orBit_length (x : List Int) (b : Int) : (orBit x b).length = x.length := by
  unfold orBit
  split
  · simp
  · rfl
theorem putBits_foldl_length (l : List Int) : ∀ x : List Int, (l.foldl orBit x).length = x.length := by
  induction l with
  | nil => intro x; rfl
  | cons b t ih => intro x; rw [List.foldl_cons, ih, orBit_length]
theorem putBits_length (l : List Int) : (putBits l).length = 8 := by
  unfold putBits
  rw [putBits_foldl_length]
  simp
theorem or_bit (b : Int) (i j : Nat) (h0 : 0 ≤ b) (h1 : b ≤ 255) (h2 : i < 8) (h3 : j < 8) : bitOn (Go.bits .or .u8 b (shr .u8 128 (i : Int))) j = (bitOn b j || decide (i = j)) := by
  have h : ∀ (i j : Fin 8) (b : Fin 256), bitOn (Go.bits .or .u8 ((b.val : Nat) : Int) (shr .u8 128 ((i.val : Nat) : Int))) j.val = (bitOn ((b.val : Nat) : Int) j.val || decide (i.val = j.val)) := by decide +kernel
  have := h ⟨i, h2⟩ ⟨j, h3⟩ ⟨b.toNat, by omega⟩
  have e : ((b.toNat : Nat) : Int) = b := by omega
  simpa only [e] using this
theorem or_byte (b : Int) (i : Nat) (h0 : 0 ≤ b) (h1 : b ≤ 255) (h2 : i < 8) : isByte (Go.bits .or .u8 b (shr .u8 128 (i : Int))) := by
  have h : ∀ (i : Fin 8) (b : Fin 256), decide (0 ≤ Go.bits .or .u8 ((b.val : Nat) : Int) (shr .u8 128 ((i.val : Nat) : Int)) ∧ Go.bits .or .u8 ((b.val : Nat) : Int) (shr .u8 128 ((i.val : Nat) : Int)) ≤ 255) = true := by decide +kernel
  have := h ⟨i, h2⟩ ⟨b.toNat, by omega⟩
  have e : ((b.toNat : Nat) : Int) = b := by omega
  rw [e] at this
  have h3 := of_decide_eq_true this
  exact h3
theorem orBit_bytes (x : List Int) (hx : x.length = 8) (hb : ∀ c ∈ x, isByte c) (b : Int) : ∀ c ∈ orBit x b, isByte c := by
  unfold orBit
  split
  · rename_i h
    intro c hc
    rcases List.mem_or_eq_of_mem_set hc with hc | rfl
    · exact hb c hc
    · have e1 : (b - 1) / 8 = (((b - 1) / 8).toNat : Int) := by omega
      have e2 : (b - 1) % 8 = (((b - 1) % 8).toNat : Int) := by omega
      have hr := hb _ (rd_mem x ((b - 1) / 8).toNat (by omega))
      rw [e1, e2]
      exact or_byte _ _ hr.1 hr.2 (by omega)
  · exact hb
theorem orBit_bit (x : List Int) (hx : x.length = 8) (hb : ∀ c ∈ x, isByte c) (b : Int) (n : Nat) (hn : n < 64) : bitOn (rd (orBit x b) ((n / 8 : Nat) : Int)) (n % 8) = (bitOn (rd x ((n / 8 : Nat) : Int)) (n % 8) || decide (b = ((n + 1 : Nat) : Int))) := by
  unfold orBit
  by_cases h : 1 ≤ b ∧ b ≤ 64
  · rw [if_pos h]
    obtain ⟨m, hm⟩ : ∃ m : Nat, b = ((m + 1 : Nat) : Int) := ⟨(b - 1).toNat, by omega⟩
    subst hm
    have e1 : (((m + 1 : Nat) : Int) - 1) / 8 = ((m / 8 : Nat) : Int) := by omega
    have e2 : (((m + 1 : Nat) : Int) - 1) % 8 = ((m % 8 : Nat) : Int) := by omega
    rw [e1, e2, Int.toNat_natCast]
    by_cases q : n / 8 = m / 8
    · rw [q, rd_set_same _ _ _ (by omega)]
      have hr := hb _ (rd_mem x (m / 8) (by omega))
      rw [or_bit _ _ _ hr.1 hr.2 (by omega) (by omega)]
      congr 1
      apply decide_eq_decide.2
      omega
    · rw [rd_set_other _ _ _ _ q]
      have : decide (((m + 1 : Nat) : Int) = ((n + 1 : Nat) : Int)) = false := decide_eq_false (by omega)
      rw [this, Bool.or_false]
  · rw [if_neg h]
    have : decide (b = ((n + 1 : Nat) : Int)) = false := decide_eq_false (by omega)
    rw [this, Bool.or_false]
theorem putBits_fold (l : List Int) : ∀ (x : List Int), x.length = 8 → (∀ c ∈ x, isByte c) → (∀ c ∈ l.foldl orBit x, isByte c) ∧ ∀ n : Nat, n < 64 → bitOn (rd (l.foldl orBit x) ((n / 8 : Nat) : Int)) (n % 8) = (bitOn (rd x ((n / 8 : Nat) : Int)) (n % 8) || decide (((n + 1 : Nat) : Int) ∈ l)) := by
  induction l with
  | nil => intro x hx hb; exact ⟨hb, fun n _ => by simp⟩
  | cons b t ih =>
    intro x hx hb
    obtain ⟨h1, h2⟩ := ih (orBit x b) (by rw [orBit_length, hx]) (orBit_bytes x hx hb b)
    refine ⟨h1, fun n hn => ?_⟩
    rw [List.foldl_cons, h2 n hn, orBit_bit x hx hb b n hn, Bool.or_assoc]
    congr 1
    rw [← Bool.decide_or]
    apply decide_eq_decide.2
    rw [List.mem_cons]
    exact ⟨fun h => h.imp Eq.symm id, fun h => h.imp Eq.symm id⟩
theorem putBits_bytes (l : List Int) : ∀ c ∈ putBits l, isByte c :=
  (putBits_fold l (List.replicate 8 0) (by simp) (fun c hc => by rw [(List.mem_replicate.1 hc).2]; exact ⟨by decide, by decide⟩)).1
theorem putBits_bit (l : List Int) (n : Nat) (hn : n < 64) : bitOn (rd (putBits l) ((n / 8 : Nat) : Int)) (n % 8) = decide (((n + 1 : Nat) : Int) ∈ l) := by
  have h := (putBits_fold l (List.replicate 8 0) (by simp) (fun c hc => by rw [(List.mem_replicate.1 hc).2]; exact ⟨by decide, by decide⟩)).2 n hn
  have z : bitOn (rd (List.replicate 8 0) ((n / 8 : Nat) : Int)) (n % 8) = false := by
    have h : ∀ n : Fin 64, bitOn (rd (List.replicate 8 0) ((n.val / 8 : Nat) : Int)) (n.val % 8) = false := by decide +kernel
    exact h ⟨n, hn⟩
  unfold putBits
  rw [h, z, Bool.false_or]
theorem sorted_ext : ∀ (a b : List Int), a.Pairwise (fun x y => x < y) → b.Pairwise (fun x y => x < y) → (∀ c, c ∈ a ↔ c ∈ b) → a = b := by
  intro a
  induction a with
  | nil =>
    intro b _ _ h
    cases b with
    | nil => rfl
    | cons y t => exact absurd ((h y).2 List.mem_cons_self) (by simp)
  | cons x s ih =>
    intro b ha hb h
    cases b with
    | nil => exact absurd ((h x).1 List.mem_cons_self) (by simp)
    | cons y t =>
      obtain ⟨a1, a2⟩ := List.pairwise_cons.1 ha
      obtain ⟨b1, b2⟩ := List.pairwise_cons.1 hb
      have e : x = y := by
        rcases List.mem_cons.1 ((h x).1 List.mem_cons_self) with e | h1
        · exact e
        · rcases List.mem_cons.1 ((h y).2 List.mem_cons_self) with e | h2
          · exact e.symm
          · have := b1 x h1
            have := a1 y h2
            omega
      subst e
      congr 1
      refine ih t a2 b2 (fun c => ⟨fun hc => ?_, fun hc => ?_⟩)
      · rcases List.mem_cons.1 ((h c).1 (List.mem_cons_of_mem _ hc)) with e | h1
        · have := a1 c hc; omega
        · exact h1
      · rcases List.mem_cons.1 ((h c).2 (List.mem_cons_of_mem _ hc)) with e | h1
        · have := b1 c hc; omega
        · exact h1
theorem bitsOf_sorted (l : List Int) (m : Nat) : (bitsOf l m).Pairwise (fun x y => x < y) := by
  unfold bitsOf
  rw [List.pairwise_map]
  refine List.Pairwise.filter _ (List.Pairwise.imp ?_ List.pairwise_lt_range)
  intro a b h
  omega
theorem mem_bitsOf (l : List Int) (n : Nat) (hn : n < 64) : ((n + 1 : Nat) : Int) ∈ bitsOf l 64 ↔ bitOn (rd l ((n / 8 : Nat) : Int)) (n % 8) = true := by
  unfold bitsOf
  rw [List.mem_map]
  constructor
  · rintro ⟨i, hi, e⟩
    have : i = n := by omega
    subst this
    exact (List.mem_filter.1 hi).2
  · intro h
    exact ⟨n, List.mem_filter.2 ⟨List.mem_range.2 hn, h⟩, rfl⟩
theorem bitsOf_in (l : List Int) (m : Nat) : ∀ c ∈ bitsOf l m, 1 ≤ c ∧ c ≤ (m : Int) := by
  intro c hc
  unfold bitsOf at hc
  obtain ⟨i, hi, rfl⟩ := List.mem_map.1 hc
  have := List.mem_range.1 (List.mem_filter.1 hi).1
  omega
theorem bitsOf_putBits (l s : List Int) (hs : s.Pairwise (fun x y => x < y)) (hm : ∀ c, c ∈ s ↔ c ∈ l) (hr : ∀ c ∈ l, 1 ≤ c ∧ c ≤ 64) : bitsOf (putBits l) 64 = s := by
  refine sorted_ext _ _ (bitsOf_sorted _ _) hs (fun c => ?_)
  by_cases h : 1 ≤ c ∧ c ≤ 64
  · obtain ⟨n, hn⟩ : ∃ n : Nat, c = ((n + 1 : Nat) : Int) := ⟨(c - 1).toNat, by omega⟩
    subst hn
    rw [mem_bitsOf _ n (by omega), putBits_bit l n (by omega), decide_eq_true_eq, hm]
  · constructor
    · intro hc; exact absurd (bitsOf_in _ _ c hc) h
    · intro hc; exact absurd (hr c ((hm c).1 hc)) h
abbrev IF := S79
theorem rdF_nat (l : List IF) (n : Nat) (h : n < l.length) : rd_T79 l (n : Int) = l[n] := by
  unfold rd_T79
  simp [List.getD, h]
theorem dropF (l : List IF) (n : Nat) (h : n < l.length) : l.drop n = rd_T79 l (n : Int) :: l.drop (n + 1) := by
  rw [List.drop_eq_getElem_cons h, rdF_nat l n h]
theorem rdF_mem (l : List IF) (n : Nat) (h : n < l.length) : rd_T79 l (n : Int) ∈ l := by
  rw [rdF_nat l n h]
  exact List.getElem_mem h
theorem w64s {n : Nat} (h : n ≤ 140737488351232) : wrap64 ((n : Int) + 1) = ((n + 1 : Nat) : Int) := by unfold wrap64; omega
def okFrom : Option Int → List IF → Bool
  | _, [] => true
  | p, f :: t => fieldOk f.f0 (bytesOf f.f1) && (match p with | none => true | some q => decide (q < f.f0)) && okFrom (some f.f0) t
theorem okFrom_cons (p : Option Int) (f : IF) (t : List IF) : okFrom p (f :: t) = (fieldOk f.f0 (bytesOf f.f1) && (match p with | none => true | some q => decide (q < f.f0)) && okFrom (some f.f0) t) := by
  cases p <;> rfl
def isMti (m : ByteArray) : Bool := digs (bytesOf m) && decide (m.size = 4)
def msgOk (m : ByteArray) (l : List IF) : Bool := isMti m && okFrom none l
def prevOf (l : List IF) (n : Nat) : Option Int := if n = 0 then none else some (rd_T79 l (((n - 1 : Nat)) : Int)).f0
theorem impl_MsgOk_l (m : ByteArray) (hm : m.size ≤ 10000000) (l : List IF) (hl : l.length ≤ 10000000) (B : Nat) (hB : B ≤ 10000000) (hw : ∀ f ∈ l, f.f1.size ≤ B) : ∀ (d n k : Nat), n + d = l.length → d + B + m.size + 30 < k →
    impl_MsgOk.l0 k l (l.length : Int) (n : Int) m l = some (okFrom (prevOf l n) (l.drop n) && isMti m) := by
  intro d
  induction d with
  | zero =>
    intro n k hd hk
    obtain ⟨k, rfl⟩ : ∃ m, k = m + 1 := ⟨k - 1, by omega⟩
    have c1 : ¬ (n : Int) < (l.length : Int) := by omega
    simp only [impl_MsgOk.l0, if_neg c1]
    rw [List.drop_of_length_le (by omega)]
    unfold impl_isWide.f isMti
    rw [impl_Digits_at m (by omega) k (by omega), Option.bind_some]
    have e : ((m.size : Int) == 4) = decide (m.size = 4) := by
      by_cases h : m.size = 4
      · rw [h]; rfl
      · have h' : ¬ (m.size : Int) = 4 := by omega
        rw [decide_eq_false h]
        simpa using h'
    rw [e]
    cases digs (bytesOf m) <;> simp [okFrom]
  | succ d ih =>
    intro n k hd hk
    obtain ⟨k, rfl⟩ : ∃ m, k = m + 1 := ⟨k - 1, by omega⟩
    have c1 : (n : Int) < (l.length : Int) := by omega
    have c2 : 0 ≤ (n : Int) := by omega
    have hs := hw _ (rdF_mem l n (by omega))
    have hp : prevOf l (n + 1) = some (rd_T79 l (n : Int)).f0 := by unfold prevOf; rw [if_neg (by omega)]; rfl
    have ih' := ih (n + 1) k (by omega) (by omega)
    rw [hp] at ih'
    rw [dropF l n (by omega), okFrom_cons]
    simp only [impl_MsgOk.l0, if_pos c1, if_pos c2, w64s (n := n) (by omega)]
    rw [impl_FieldOk_at _ _ (by omega) k (by omega), Option.bind_some]
    by_cases h : fieldOk (rd_T79 l (n : Int)).f0 (bytesOf (rd_T79 l (n : Int)).f1) = true
    · rw [if_pos h, h, Bool.true_and]
      by_cases h0 : n = 0
      · have hpn : prevOf l n = none := by unfold prevOf; rw [if_pos h0]
        rw [if_neg (by omega), hpn, ih', Bool.true_and]
      · have hpn : prevOf l n = some (rd_T79 l ((n - 1 : Nat) : Int)).f0 := by unfold prevOf; rw [if_neg h0]
        have e : wrap64 ((n : Int) - 1) = ((n - 1 : Nat) : Int) := by rw [w64id (by omega) (by omega)]; omega
        rw [if_pos (by omega), e, if_pos (by omega), if_pos (by omega), hpn, ih']
        generalize (rd_T79 l (n : Int)).f0 = u
        generalize (rd_T79 l ((n - 1 : Nat) : Int)).f0 = v
        by_cases g : u ≤ v
        · rw [if_pos g]
          have : decide (v < u) = false := decide_eq_false (by omega)
          simp only [this, Bool.false_and]
        · rw [if_neg g]
          have : decide (v < u) = true := decide_eq_true (by omega)
          simp only [this, Bool.true_and]
    · rw [if_neg h]
      simp [h]
theorem impl_MsgOk_at (m : ByteArray) (l : List IF) (hm : m.size ≤ 10000000) (hl : l.length ≤ 10000000) (B : Nat) (hB : B ≤ 10000000) (hw : ∀ f ∈ l, f.f1.size ≤ B) (k : Nat) (hk : l.length + B + m.size + 40 < k) : impl_MsgOk.f k m l = some (msgOk m l) := by
  unfold impl_MsgOk.f
  have h := impl_MsgOk_l m hm l hl B hB hw l.length 0 k (by omega) (by omega)
  unfold msgOk
  rw [Bool.and_comm]
  exact h
def lowOf (l : List IF) : List Int := (l.filter fun f => decide (f.f0 ≤ 64)).map fun f => f.f0
def highOf (l : List IF) : List Int := (l.filter fun f => !decide (f.f0 ≤ 64)).map fun f => f.f0 - 64
def bodyOf : List IF → List Int
  | [] => []
  | f :: t => (putField f.f0 (bytesOf f.f1)).1 ++ bodyOf t
def headOf (l : List IF) : List Int := if highOf l = [] then putBits (lowOf l) else putBits (lowOf l ++ [1]) ++ putBits (highOf l)
def encode (m : ByteArray) (l : List IF) : List Int × Bool := if msgOk m l = true then (bcd (evened (bytesOf m)) ++ headOf l ++ bodyOf l, true) else ([], false)
theorem headOf_bytes (l : List IF) : ∀ c ∈ headOf l, isByte c := by
  unfold headOf
  split
  · exact putBits_bytes _
  · intro c hc
    rcases List.mem_append.1 hc with hc | hc
    · exact putBits_bytes _ c hc
    · exact putBits_bytes _ c hc
theorem headOf_length (l : List IF) : (headOf l).length = if highOf l = [] then 8 else 16 := by
  unfold headOf
  split
  · exact putBits_length _
  · rw [List.length_append, putBits_length, putBits_length]
theorem bodyOf_bytes : ∀ (l : List IF), ∀ c ∈ bodyOf l, isByte c := by
  intro l
  induction l with
  | nil => intro c hc; cases hc
  | cons f t ih =>
    intro c hc
    rw [bodyOf] at hc
    rcases List.mem_append.1 hc with hc | hc
    · exact putField_bytes _ _ (bytesOf_range _) c hc
    · exact ih c hc
theorem bodyOf_len : ∀ (l : List IF), (bodyOf l).length ≤ 100 * l.length := by
  intro l
  induction l with
  | nil => simp [bodyOf]
  | cons f t ih =>
    rw [bodyOf, List.length_append, List.length_cons]
    have := putField_len f.f0 (bytesOf f.f1)
    omega
theorem isMti_facts (m : ByteArray) (h : isMti m = true) : (bytesOf m).all isDig = true ∧ (bytesOf m).length = 4 := by
  unfold isMti at h
  simp only [Bool.and_eq_true, decide_eq_true_eq] at h
  exact ⟨(digs_and _ h.1).1, by rw [bytesOf_length]; exact h.2⟩
theorem encode_bytes (m : ByteArray) (l : List IF) : ∀ c ∈ (encode m l).1, isByte c := by
  unfold encode
  split
  · rename_i h
    unfold msgOk at h
    simp only [Bool.and_eq_true] at h
    obtain ⟨h1, h2⟩ := isMti_facts m h.1
    intro c hc
    simp only [List.mem_append] at hc
    rcases hc with (hc | hc) | hc
    · exact (getBcd_putBcd _ h1 (by omega) (by omega)).2.2.1 c hc
    · exact headOf_bytes l c hc
    · exact bodyOf_bytes l c hc
  · intro c hc; cases hc
theorem encode_len (m : ByteArray) (l : List IF) (h : msgOk m l = true) : 10 ≤ (encode m l).1.length ∧ (encode m l).1.length ≤ 18 + 100 * l.length := by
  unfold encode
  rw [if_pos h]
  unfold msgOk at h
  simp only [Bool.and_eq_true] at h
  obtain ⟨h1, h2⟩ := isMti_facts m h.1
  have p := (getBcd_putBcd _ h1 (by omega) (by omega)).2.1
  have q := headOf_length l
  have r := bodyOf_len l
  simp only [List.length_append]
  split at q <;> omega
def lowNos (l : List Int) : List Int := l.filter fun c => !decide (c = 1)
def kindsOk (l : List Int) : Bool := l.all fun c => !decide (kindOf c = 0)
def above (l : List Int) : List Int := l.map fun c => c + 64
def parseNos (l : List Int) : List Int × Int × Bool :=
  if (getBits l 2).2.2 = true then
    (if decide (1 ∈ (getBits l 2).1) = true then
      (if (getBits l (getBits l 2).2.1).2.2 = true ∧ ¬ (getBits l (getBits l 2).2.1).1 = [] ∧ kindsOk (lowNos (getBits l 2).1 ++ above (getBits l (getBits l 2).2.1).1) = true then
        (lowNos (getBits l 2).1 ++ above (getBits l (getBits l 2).2.1).1, (getBits l (getBits l 2).2.1).2.1, true) else ([], 0, false))
     else if kindsOk (lowNos (getBits l 2).1) = true then (lowNos (getBits l 2).1, (getBits l 2).2.1, true) else ([], 0, false))
  else ([], 0, false)
def parseFields (l : List Int) (m : ByteArray) : List Int → Int → List IF → ByteArray × List IF × Int
  | [], a, y => if a = (l.length : Int) then (m, y, 0) else (⟨#[]⟩, [], 4)
  | x :: t, a, y => if (getField l a x).2.2 = true then parseFields l m t (getField l a x).2.1 (y ++ [⟨x, strOfNums (getField l a x).1⟩]) else (⟨#[]⟩, [], 3)
def parse (l : List Int) : ByteArray × List IF × Int :=
  if (getBcd l 0 4).2.2 = true then
    (if (parseNos l).2.2 = true then parseFields l (strOfNums (getBcd l 0 4).1) (parseNos l).1 (parseNos l).2.1 [] else (⟨#[]⟩, [], 2))
  else (⟨#[]⟩, [], 1)
theorem getField_at (l : List Int) (a x : Int) (hb : ∀ c ∈ l, isByte c) (h : (getField l a x).2.2 = true) : 0 ≤ (getField l a x).2.1 ∧ (getField l a x).2.1 ≤ (l.length : Int) := by
  unfold getField at h ⊢
  split at h
  · rename_i q
    rw [if_pos q]
    unfold gfFin at h ⊢
    split at h
    · rename_i z
      rw [if_pos z]
      have z1 := z.1
      revert z1
      generalize (gfHead l a x).2.1 = b
      generalize (gfHead l a x).1 = n
      intro z1
      simp only
      unfold gfBody at z1 ⊢
      split at z1
      · rename_i d
        rw [if_pos d]
        obtain ⟨_, _, _, p4, p5, p6, p7, p8⟩ := getBcd_ok l b n hb z1
        omega
      · rename_i d
        rw [if_neg d]
        unfold pieceAt at z1 ⊢
        split at z1
        · rename_i g
          rw [if_pos g]
          simp only
          omega
        · exact absurd z1 (by simp)
    · exact absurd h (by simp)
  · exact absurd h (by simp)
theorem bitsOf_mem (l : List Int) (m : Nat) : ∀ c ∈ bitsOf l m, 1 ≤ c ∧ c ≤ (m : Int) := by
  intro c hc
  unfold bitsOf at hc
  obtain ⟨i, hi, rfl⟩ := List.mem_map.1 hc
  have := List.mem_range.1 (List.mem_filter.1 hi).1
  omega
theorem getBits_facts (l : List Int) (a : Int) : (getBits l a).1.length ≤ 64 ∧ (∀ c ∈ (getBits l a).1, 1 ≤ c ∧ c ≤ 64) ∧ ((getBits l a).2.2 = true → (getBits l a).2.1 = a + 8 ∧ a + 8 ≤ (l.length : Int) ∧ 0 ≤ a) ∧ ((getBits l a).2.2 = false → getBits l a = ([], 0, false)) := by
  unfold getBits
  by_cases q : 0 ≤ a ∧ a ≤ (l.length : Int) - 8
  · rw [if_pos q]
    exact ⟨bitsOf_length _ _, bitsOf_mem _ _, fun _ => ⟨rfl, by omega, q.1⟩, fun h => absurd h (by simp)⟩
  · rw [if_neg q]
    exact ⟨by simp, by simp, fun h => absurd h (by simp), fun _ => rfl⟩
theorem impl_Parse_l2 (l : List Int) (hl : l.length ≤ 140737488351232) (hb : ∀ c ∈ l, isByte c) (m : ByteArray) (nos : List Int) (hn : nos.length ≤ 1000) : ∀ (d n k : Nat) (a : Int) (y : List IF), n + d = nos.length → y.length ≤ n → 0 ≤ a → a ≤ (l.length : Int) → d + 1200 < k →
    impl_Parse.l2 k l a nos (nos.length : Int) (n : Int) m y = some (parseFields l m (nos.drop n) a y) := by
  intro d
  induction d with
  | zero =>
    intro n k a y hd hy h0 h1 hk
    obtain ⟨k, rfl⟩ : ∃ m, k = m + 1 := ⟨k - 1, by omega⟩
    rw [impl_Parse.l2, if_neg (by omega), List.drop_eq_nil_of_le (by omega), parseFields]
    split <;> rfl
  | succ d ih =>
    intro n k a y hd hy h0 h1 hk
    obtain ⟨k, rfl⟩ : ∃ m, k = m + 1 := ⟨k - 1, by omega⟩
    rw [impl_Parse.l2, if_pos (by omega), if_pos (by omega), if_pos (by omega), drop_rd nos n (by omega), parseFields, impl_GetField_at l hl hb a _ (by omega) k (by omega), Option.bind_some]
    unfold asStr
    simp only
    by_cases q : (getField l a (rd nos (n : Int))).2.2 = true
    · have e : wrap64 ((n : Int) + 1) = ((n + 1 : Nat) : Int) := by unfold wrap64; omega
      have hp := getField_at l a _ hb q
      rw [if_pos q, if_pos q, if_pos (by omega), e]
      exact ih (n + 1) k _ _ (by omega) (by simp; omega) hp.1 hp.2 (by omega)
    · rw [if_neg q, if_neg q]
theorem w64n {n : Nat} (h : n ≤ 1000000) : wrap64 ((n : Int) + 1) = ((n + 1 : Nat) : Int) := by unfold wrap64; omega
theorem lowNos_cons (c : Int) (t : List Int) : lowNos (c :: t) = if c = 1 then lowNos t else c :: lowNos t := by
  unfold lowNos
  by_cases h : c = 1 <;> simp [h]
theorem kindsOk_cons (c : Int) (t : List Int) : kindsOk (c :: t) = (!decide (kindOf c = 0) && kindsOk t) := by simp [kindsOk]
theorem kindsOk_append (s t : List Int) : kindsOk (s ++ t) = (kindsOk s && kindsOk t) := by simp [kindsOk, List.all_append]
theorem impl_Parse_l0 (l : List Int) (m : ByteArray) (a : Int) (u : List Int) (hu : u.length ≤ 100) : ∀ (d n k : Nat) (x : List Int) (more : Bool), n + d = u.length → x.length ≤ n → 30 ≤ k →
    impl_Parse.l0 (k + d) l m a x more u (u.length : Int) (n : Int) = if kindsOk (lowNos (u.drop n)) = true then impl_Parse.l0 k l m a (x ++ lowNos (u.drop n)) (more || decide (1 ∈ u.drop n)) u (u.length : Int) (u.length : Int) else some (⟨#[]⟩, [], 2) := by
  intro d
  induction d with
  | zero =>
    intro n k x more hd hx hk
    have e : n = u.length := by omega
    subst e
    rw [List.drop_eq_nil_of_le (Nat.le_refl _)]
    simp [lowNos, kindsOk]
  | succ d ih =>
    intro n k x more hd hx hk
    rw [show k + (d + 1) = (k + d) + 1 by omega, impl_Parse.l0, if_pos (by omega), if_pos (by omega), if_pos (by omega), drop_rd u n (by omega), lowNos_cons, w64n (by omega)]
    by_cases q : rd u (n : Int) = 1
    · rw [if_pos q, if_pos q, ih (n + 1) k x true (by omega) (by omega) hk]
      simp [q]
    · rw [if_neg q, if_neg q, impl_FieldKind_at _ _ (by omega), Option.bind_some, kindsOk_cons]
      by_cases z : kindOf (rd u (n : Int)) = 0
      · rw [if_pos z, if_neg (by simp [z])]
      · have e : decide (1 ∈ rd u (n : Int) :: u.drop (n + 1)) = decide (1 ∈ u.drop (n + 1)) := by
          apply decide_eq_decide.2
          rw [List.mem_cons]
          exact ⟨fun h => h.resolve_left (fun z => q z.symm), Or.inr⟩
        rw [if_neg z, if_pos (by omega), ih (n + 1) k _ more (by omega) (by simp; omega) hk, List.append_assoc, List.singleton_append, e, decide_eq_false z, Bool.not_false, Bool.true_and]
theorem impl_Parse_l1 (l : List Int) (m : ByteArray) (a : Int) (u : List Int) (hu : u.length ≤ 100) (hr : ∀ c ∈ u, 1 ≤ c ∧ c ≤ 64) : ∀ (d n k : Nat) (x : List Int), n + d = u.length → x.length ≤ n + 100 → 30 ≤ k →
    impl_Parse.l1 (k + d) l m a x u (u.length : Int) (n : Int) = if kindsOk (above (u.drop n)) = true then impl_Parse.l1 k l m a (x ++ above (u.drop n)) u (u.length : Int) (u.length : Int) else some (⟨#[]⟩, [], 2) := by
  intro d
  induction d with
  | zero =>
    intro n k x hd hx hk
    have e : n = u.length := by omega
    subst e
    rw [List.drop_eq_nil_of_le (Nat.le_refl _)]
    simp [above, kindsOk]
  | succ d ih =>
    intro n k x hd hx hk
    have h := hr _ (rd_mem u n (by omega))
    have e : wrap64 (rd u (n : Int) + 64) = rd u (n : Int) + 64 := by unfold wrap64; omega
    have ea : above (rd u (n : Int) :: u.drop (n + 1)) = (rd u (n : Int) + 64) :: above (u.drop (n + 1)) := rfl
    rw [show k + (d + 1) = (k + d) + 1 by omega, impl_Parse.l1, if_pos (by omega), if_pos (by omega), if_pos (by omega), e, impl_FieldKind_at _ _ (by omega), Option.bind_some, drop_rd u n (by omega), ea, kindsOk_cons]
    by_cases z : kindOf (rd u (n : Int) + 64) = 0
    · rw [if_pos z, if_neg (by simp [z])]
    · rw [if_neg z, if_pos (by omega), w64n (by omega), ih (n + 1) k _ (by omega) (by simp; omega) hk, List.append_assoc, List.singleton_append, decide_eq_false z, Bool.not_false, Bool.true_and]
theorem getBcd4_at (l : List Int) (hb : ∀ c ∈ l, isByte c) (h : (getBcd l 0 4).2.2 = true) : (getBcd l 0 4).2.1 = 2 := by
  have := (getBcd_ok l 0 4 hb h).2.2.2.1
  omega
theorem impl_Parse_at (l : List Int) (hl : l.length ≤ 140737488351232) (hb : ∀ c ∈ l, isByte c) (k : Nat) (hk : 2000 ≤ k) : impl_Parse.f k l = some (parse l) := by
  unfold impl_Parse.f parse
  rw [impl_GetBcd_at l hl hb 0 4 (by omega) (by omega) k (by omega), Option.bind_some]
  unfold asStr
  simp only
  by_cases q : (getBcd l 0 4).2.2 = true
  · rw [if_pos q, if_pos q, getBcd4_at l hb q, impl_GetBits_at l hl hb 2 (by omega) k (by omega), Option.bind_some]
    generalize strOfNums (getBcd l 0 4).1 = m
    unfold parseNos
    obtain ⟨b1, b2, b3, _⟩ := getBits_facts l 2
    cases hg : (getBits l 2).2.2 with
    | false =>
      rw [if_neg (by simp)]
      simp
    | true =>
      obtain ⟨b4, b5, _⟩ := b3 hg
      rw [if_pos rfl]
      simp only [if_true]
      rw [b4]
      generalize (getBits l 2).1 = u at b1 b2
      have h0 := impl_Parse_l0 l m (2 + 8) u (by omega) u.length 0 (k - u.length) [] false (by omega) (by simp) (by omega)
      rw [show k - u.length + u.length = k by omega, List.drop_zero, List.nil_append, Bool.false_or] at h0
      refine h0.trans ?_
      have hk2 : 1900 ≤ k - u.length := by omega
      generalize k - u.length = k at hk2
      obtain ⟨k, rfl⟩ : ∃ m, k = m + 2 := ⟨k - 2, by omega⟩
      have hz : (lowNos u).length ≤ 64 := Nat.le_trans (List.length_filter_le _ _) b1
      have hj3 : ∀ (k : Nat) (a : Int) (x : List Int), x.length ≤ 200 → 1500 ≤ k → 0 ≤ a → a ≤ (l.length : Int) → impl_Parse.j3 k l m a x = some (parseFields l m x a []) := by
        intro k a x hx hk ha1 ha2
        obtain ⟨k, rfl⟩ : ∃ m, k = m + 1 := ⟨k - 1, by omega⟩
        rw [impl_Parse.j3]
        exact impl_Parse_l2 l hl hb m x (by omega) x.length 0 k a [] (by omega) (by simp) ha1 ha2 (by omega)
      by_cases hlow : kindsOk (lowNos u) = true
      · rw [if_pos hlow, impl_Parse.l0, if_neg (by omega)]
        by_cases hm : decide (1 ∈ u) = true
        · rw [if_pos hm, if_pos hm, impl_GetBits_at l hl hb (2 + 8) (by omega) (k + 1) (by omega), Option.bind_some]
          obtain ⟨c1, c2, c3, _⟩ := getBits_facts l (2 + 8)
          cases hg2 : (getBits l (2 + 8)).2.2 with
          | false => rw [if_neg (by simp), impl_Parse.j1, if_pos rfl]; simp
          | true =>
            obtain ⟨c4, c5, _⟩ := c3 hg2
            rw [if_pos rfl, impl_Parse.j1, c4]
            generalize (getBits l (2 + 8)).1 = v at c1 c2
            by_cases hv : v = []
            · subst hv
              rw [if_pos (show ((([] : List Int).length : Int) == 0) = true from rfl)]
              simp
            · have hv2 : ((v.length : Int) == 0) = false := by
                have : v.length ≠ 0 := fun h => hv (List.length_eq_zero_iff.1 h)
                simp only [beq_eq_false_iff_ne]
                omega
              rw [hv2, if_neg (by simp)]
              have h1 := impl_Parse_l1 l m (2 + 8 + 8) v (by omega) c2 v.length 0 (k - v.length) (lowNos u) (by omega) (by omega) (by omega)
              rw [show k - v.length + v.length = k by omega, List.drop_zero] at h1
              refine h1.trans ?_
              have hz2 : (lowNos u ++ above v).length ≤ 200 := by
                rw [List.length_append]
                unfold above
                rw [List.length_map]
                omega
              obtain ⟨q, hq⟩ : ∃ q, k - v.length = q + 1 := ⟨k - v.length - 1, by omega⟩
              rw [kindsOk_append, hlow, Bool.true_and]
              by_cases z : kindsOk (above v) = true
              · rw [if_pos z, hq, impl_Parse.l1, if_neg (by omega), hj3 q _ _ hz2 (by omega) (by omega) (by omega)]
                simp [z, hv]
              · rw [if_neg z]
                simp [z]
        · rw [if_neg hm, if_neg hm, hj3 (k + 1) _ _ (by omega) (by omega) (by omega) (by omega)]
          simp [hlow]
      · rw [if_neg hlow]
        by_cases hm : decide (1 ∈ u) = true
        · rw [if_pos hm, kindsOk_append]
          simp [hlow]
        · rw [if_neg hm]
          simp [hlow]
  · rw [if_neg q, if_neg q]
theorem okFrom_iff : ∀ (l : List IF) (p : Option Int), okFrom p l = true ↔ ((∀ f ∈ l, fieldOk f.f0 (bytesOf f.f1) = true) ∧ l.Pairwise (fun a b => a.f0 < b.f0) ∧ ∀ q, p = some q → ∀ f ∈ l, q < f.f0) := by
  intro l
  induction l with
  | nil => intro p; simp [okFrom]
  | cons g t ih =>
    intro p
    rw [okFrom_cons]
    simp only [Bool.and_eq_true, ih (some g.f0), List.pairwise_cons, List.mem_cons, Option.some.injEq]
    constructor
    · rintro ⟨⟨h1, h2⟩, h3, h4, h5⟩
      refine ⟨fun f hf => ?_, ⟨fun f hf => h5 _ rfl f hf, h4⟩, fun q hq f hf => ?_⟩
      · rcases hf with rfl | hf
        · exact h1
        · exact h3 f hf
      · subst hq
        simp only [decide_eq_true_eq] at h2
        rcases hf with rfl | hf
        · exact h2
        · have := h5 _ rfl f hf
          omega
    · rintro ⟨h1, ⟨h2, h3⟩, h4⟩
      refine ⟨⟨h1 g (.inl rfl), ?_⟩, fun f hf => h1 f (.inr hf), h3, fun q hq f hf => by rw [← hq]; exact h2 f hf⟩
      cases p with
      | none => rfl
      | some q => simp only [decide_eq_true_eq]; exact h4 q rfl g (.inl rfl)
theorem known_range (x : Int) (h : ¬ kindOf x = 0) : 2 ≤ x ∧ x ≤ 103 := by
  rcases known x h with rfl | (rfl | rfl | rfl | rfl | rfl | rfl) | (rfl | rfl | rfl | rfl | rfl) | (rfl | rfl) | (rfl | rfl) <;> decide
theorem getBits_mid (p b q : List Int) (hb : b.length = 8) : getBits (p ++ b ++ q) (p.length : Int) = (bitsOf b 64, ((p.length + 8 : Nat) : Int), true) := by
  unfold getBits
  have e := cutAt_mid p b q
  rw [hb] at e
  rw [if_pos ⟨by omega, by simp; omega⟩, Int.toNat_natCast, e]
  congr 2
theorem lowNos_id (l : List Int) (h : ∀ c ∈ l, 2 ≤ c) : lowNos l = l := by
  unfold lowNos
  refine List.filter_eq_self.2 (fun c hc => ?_)
  have := h c hc
  simp
  omega
theorem low_high : ∀ (l : List IF), l.Pairwise (fun a b => a.f0 < b.f0) → lowOf l ++ above (highOf l) = l.map fun f => f.f0 := by
  intro l
  induction l with
  | nil => intro _; rfl
  | cons f t ih =>
    intro h
    obtain ⟨h1, h2⟩ := List.pairwise_cons.1 h
    have ih' := ih h2
    by_cases q : f.f0 ≤ 64
    · have e1 : lowOf (f :: t) = f.f0 :: lowOf t := by unfold lowOf; rw [List.filter_cons_of_pos (by simpa using q)]; rfl
      have e2 : highOf (f :: t) = highOf t := by unfold highOf; rw [List.filter_cons_of_neg (by simpa using q)]
      rw [e1, e2, List.cons_append, ih']
      rfl
    · have e1 : lowOf (f :: t) = [] := by
        unfold lowOf
        rw [List.map_eq_nil_iff, List.filter_eq_nil_iff]
        intro g hg
        rcases List.mem_cons.1 hg with rfl | hg
        · simpa using q
        · have := h1 g hg
          simp
          omega
      have e1' : lowOf t = [] := by
        unfold lowOf
        rw [List.map_eq_nil_iff, List.filter_eq_nil_iff]
        intro g hg
        have := h1 g hg
        simp
        omega
      have e2 : highOf (f :: t) = (f.f0 - 64) :: highOf t := by unfold highOf; rw [List.filter_cons_of_pos (by simpa using q)]; rfl
      rw [e1', List.nil_append] at ih'
      rw [e1, e2, List.nil_append, List.map_cons, ← ih']
      unfold above
      rw [List.map_cons]
      congr 1
      omega
theorem lowOf_sorted (l : List IF) (h : l.Pairwise (fun a b => a.f0 < b.f0)) : (lowOf l).Pairwise (fun x y => x < y) := by
  unfold lowOf
  rw [List.pairwise_map]
  exact h.filter _
theorem highOf_sorted (l : List IF) (h : l.Pairwise (fun a b => a.f0 < b.f0)) : (highOf l).Pairwise (fun x y => x < y) := by
  unfold highOf
  rw [List.pairwise_map]
  exact List.Pairwise.imp (fun h => by omega) (h.filter _)
theorem lowOf_range (l : List IF) (h : ∀ f ∈ l, 2 ≤ f.f0 ∧ f.f0 ≤ 103) : ∀ c ∈ lowOf l, 2 ≤ c ∧ c ≤ 64 := by
  intro c hc
  unfold lowOf at hc
  obtain ⟨f, hf, rfl⟩ := List.mem_map.1 hc
  obtain ⟨h1, h2⟩ := List.mem_filter.1 hf
  have := h f h1
  simp at h2
  omega
theorem highOf_range (l : List IF) (h : ∀ f ∈ l, 2 ≤ f.f0 ∧ f.f0 ≤ 103) : ∀ c ∈ highOf l, 1 ≤ c ∧ c ≤ 64 := by
  intro c hc
  unfold highOf at hc
  obtain ⟨f, hf, rfl⟩ := List.mem_map.1 hc
  obtain ⟨h1, h2⟩ := List.mem_filter.1 hf
  have := h f h1
  simp at h2
  omega
theorem parseNos_head (p q : List Int) (l : List IF) (hp : p.length = 2) (hs : l.Pairwise (fun a b => a.f0 < b.f0)) (hk : ∀ f ∈ l, ¬ kindOf f.f0 = 0) :
    parseNos (p ++ headOf l ++ q) = (l.map fun f => f.f0, ((p.length + (headOf l).length : Nat) : Int), true) := by
  have hr : ∀ f ∈ l, 2 ≤ f.f0 ∧ f.f0 ≤ 103 := fun f hf => known_range _ (hk f hf)
  have r1 := lowOf_range l hr
  have r2 := highOf_range l hr
  have s1 := lowOf_sorted l hs
  have s2 := highOf_sorted l hs
  have hlow : ¬ (1 : Int) ∈ lowOf l := fun h => by have := r1 1 h; omega
  have hall := low_high l hs
  have hkinds : kindsOk (l.map fun f => f.f0) = true := by
    unfold kindsOk
    rw [List.all_eq_true]
    intro c hc
    obtain ⟨f, hf, rfl⟩ := List.mem_map.1 hc
    simpa using hk f hf
  have e2 : (2 : Int) = (p.length : Int) := by omega
  unfold parseNos
  rw [e2]
  unfold headOf
  by_cases hh : highOf l = []
  · have b1 := bitsOf_putBits (lowOf l) (lowOf l) s1 (fun c => Iff.rfl) (fun c hc => by have := r1 c hc; omega)
    have g := getBits_mid p (putBits (lowOf l)) q (putBits_length _)
    rw [hh] at hall
    unfold above at hall
    rw [List.map_nil, List.append_nil] at hall
    rw [if_pos hh, g, b1]
    simp only [if_true]
    rw [if_neg (by simpa using hlow), lowNos_id _ (fun c hc => (r1 c hc).1), hall, if_pos hkinds, putBits_length]
  · have b1 := bitsOf_putBits (lowOf l ++ [1]) (1 :: lowOf l) (List.pairwise_cons.2 ⟨fun c hc => by have := r1 c hc; omega, s1⟩) (fun c => by simp [or_comm]) (fun c hc => by
      rcases List.mem_append.1 hc with hc | hc
      · have := r1 c hc; omega
      · rw [List.mem_singleton.1 hc]; omega)
    have b2 := bitsOf_putBits (highOf l) (highOf l) s2 (fun c => Iff.rfl) r2
    have g1 := getBits_mid p (putBits (lowOf l ++ [1])) (putBits (highOf l) ++ q) (putBits_length _)
    have g2 := getBits_mid (p ++ putBits (lowOf l ++ [1])) (putBits (highOf l)) q (putBits_length _)
    have ez : p.length + 8 = (p ++ putBits (lowOf l ++ [1])).length := by rw [List.length_append, putBits_length]
    have el : p ++ (putBits (lowOf l ++ [1]) ++ putBits (highOf l)) ++ q = p ++ putBits (lowOf l ++ [1]) ++ (putBits (highOf l) ++ q) := by simp
    have el2 : p ++ putBits (lowOf l ++ [1]) ++ (putBits (highOf l) ++ q) = p ++ putBits (lowOf l ++ [1]) ++ putBits (highOf l) ++ q := by simp
    rw [if_neg hh, el, g1, b1]
    simp only [if_true]
    rw [ez, el2, g2, b2, lowNos_cons, if_pos rfl, lowNos_id _ (fun c hc => (r1 c hc).1), hall, if_pos (by simp), if_pos ⟨rfl, hh, hkinds⟩]
    congr 2
    simp only [List.length_append, putBits_length]
theorem parseFields_body (m : ByteArray) (q : List Int) : ∀ (l : List IF) (p : List Int) (y : List IF), (∀ f ∈ l, fieldOk f.f0 (bytesOf f.f1) = true) →
    parseFields (p ++ bodyOf l ++ q) m (l.map fun f => f.f0) (p.length : Int) y = if q = [] then (m, y ++ l, 0) else (⟨#[]⟩, [], 4) := by
  intro l
  induction l with
  | nil =>
    intro p y _
    rw [List.map_nil, parseFields, bodyOf, List.append_nil]
    by_cases h : q = []
    · subst h
      rw [if_pos (by simp), if_pos rfl, List.append_nil]
    · have : q.length ≠ 0 := fun z => h (List.length_eq_zero_iff.1 z)
      rw [if_neg (by simp; omega), if_neg h]
  | cons f t ih =>
    intro p y h
    have g := getField_mid p (bodyOf t ++ q) (bytesOf f.f1) f.f0 (h f List.mem_cons_self)
    have e : p ++ bodyOf (f :: t) ++ q = p ++ (putField f.f0 (bytesOf f.f1)).1 ++ (bodyOf t ++ q) := by rw [bodyOf]; simp
    rw [List.map_cons, parseFields, e, g]
    simp only [if_true]
    have ih' := ih (p ++ (putField f.f0 (bytesOf f.f1)).1) (y ++ [f]) (fun u hu => h u (List.mem_cons_of_mem _ hu))
    have e2 : p ++ (putField f.f0 (bytesOf f.f1)).1 ++ (bodyOf t ++ q) = p ++ (putField f.f0 (bytesOf f.f1)).1 ++ bodyOf t ++ q := by simp
    rw [strOfNums_bytesOf, e2, ← List.length_append, ih']
    simp
theorem parse_encode (m : ByteArray) (l : List IF) (h : msgOk m l = true) (q : List Int) : parse ((encode m l).1 ++ q) = if q = [] then (m, l, 0) else (⟨#[]⟩, [], 4) := by
  have hd : (encode m l).1 = bcd (evened (bytesOf m)) ++ headOf l ++ bodyOf l := by unfold encode; rw [if_pos h]
  unfold msgOk at h
  simp only [Bool.and_eq_true] at h
  obtain ⟨h1, h2⟩ := isMti_facts m h.1
  obtain ⟨o1, o2, _⟩ := (okFrom_iff l none).1 h.2
  obtain ⟨_, p2, _⟩ := getBcd_putBcd _ h1 (by omega) (by omega)
  have g1 := getBcd_mid [] (headOf l ++ bodyOf l ++ q) (bytesOf m) h1 (by omega) (by omega)
  rw [h2] at g1
  have g2 := parseNos_head (bcd (evened (bytesOf m))) (bodyOf l ++ q) l (by omega) o2 (fun f hf => fieldOk_kind _ _ (o1 f hf))
  have g3 := parseFields_body m q l (bcd (evened (bytesOf m)) ++ headOf l) [] o1
  have e1 : (encode m l).1 ++ q = [] ++ bcd (evened (bytesOf m)) ++ (headOf l ++ bodyOf l ++ q) := by rw [hd]; simp
  have e2 : (encode m l).1 ++ q = bcd (evened (bytesOf m)) ++ headOf l ++ (bodyOf l ++ q) := by rw [hd]; simp
  have e3 : (encode m l).1 ++ q = bcd (evened (bytesOf m)) ++ headOf l ++ bodyOf l ++ q := by rw [hd]
  rw [← e1] at g1
  rw [← e2] at g2
  rw [← e3, List.length_append] at g3
  unfold parse
  rw [show (4 : Int) = ((4 : Nat) : Int) from rfl, show (0 : Int) = (([] : List Int).length : Int) from rfl, g1]
  simp only [if_true]
  rw [g2]
  simp only [if_true]
  rw [strOfNums_bytesOf, g3]
  simp
end Go.Proofs.YtfiieppnpmodoaaDoor.Q
end
section
namespace Go.Proofs.YtfiieppnpmodoaaDoor.Q
open Go.RowKit Go.Proofs.YtfiieppnpmodoaaDoorW.PrintWords Go.Proofs.YtfiieppnpmodoaaDoorW.PrintLast Go.Proofs.YtfiieppnpmodoaaDoorW.PrintMore
attribute [local go_sem] max2_int min2_int max_two min_two max_three min_three max_four min_four
set_option linter.unusedVariables false
set_option linter.unusedSimpArgs false
def spec_PutBits.l0 : Nat → List Int → List Int → Int → Int → Option (List Int)
 | 0, _, _, _, _ => none
 | k + 1, x3, x7, x8, x9 => if x9 < x8 then (if 0 ≤ x9 then (if x9 < (x7.length : Int) then ((spec_l01In.f (rd x7 x9) 1 64).bind fun t346 => (if t346 = true then (if 0 ≤ (wrap64 (Int.tdiv (wrap64 ((rd x7 x9) - 1)) 8)) then (if (wrap64 (Int.tdiv (wrap64 ((rd x7 x9) - 1)) 8)) < (x3.length : Int) then (if 0 ≤ (Int.tmod (wrap64 ((rd x7 x9) - 1)) 8) then (spec_PutBits.l0 k (x3.set ((wrap64 (Int.tdiv (wrap64 ((rd x7 x9) - 1)) 8)) : Int).toNat (Go.bits .or .u8 (rd x3 (wrap64 (Int.tdiv (wrap64 ((rd x7 x9) - 1)) 8))) (shr .u8 128 (Int.tmod (wrap64 ((rd x7 x9) - 1)) 8)))) x7 x8 (wrap64 (x9 + 1))) else (none)) else (none)) else (none)) else (spec_PutBits.l0 k x3 x7 x8 (wrap64 (x9 + 1))))) else (none)) else (none)) else (some x3)
def spec_PutBits.f (k : Nat) (l0 : List Int) : Option (List Int) := if 8 ≤ 281474976710656 then (spec_PutBits.l0 k (List.replicate 8 0) l0 (l0.length : Int) 0) else (none)
def spec_PutBits.T6 : Bool × List (List Nat × List Nat) := (true, [([], []), ([], []), ([1], [1]), ([2], [2]), ([], []), ([], []), ([5], [5]), ([6], [6]), ([4, 7], [4, 7]), ([8], [8]), ([], []), ([10], [10]), ([11], [11]), ([12], [12]), ([9, 13], [9, 13]), ([0, 3, 0, 1, 2, 3, 4, 5, 6, 7, 8, 9, 10, 11, 12, 13, 14], [0, 3]), ([15, 14, 0, 1, 2, 3, 4, 5, 6, 7, 8, 9, 10, 11, 12, 13, 14], [14, 15])])
def spec_PutBits.B6 : List Nat := [0, 0, 2, 6, 0, 0, 32, 96, 240, 496, 0, 1024, 3072, 7168, 16368, 32767, 65535]
theorem spec_PutBits.tab6 : rtab .any (opsOf Tryd.f59 6) = spec_PutBits.T6 := by kernel_rfl
theorem spec_PutBits.bits6 : waitsOk spec_PutBits.T6.2 spec_PutBits.B6 = true := by kernel_rfl
set_option maxHeartbeats 8000000 in
set_option maxRecDepth 100000 in
theorem spec_PutBits.calls (k : Nat) (A0 : Option Addr) (c0 : Nat) (l0 : List Int) (r : List Int) (w : World) (hr0 : Kd.C (Kd.int .i64) w A0 l0.length l0) (hc0 : l0.length ≤ c0) (h : spec_PutBits.f k l0 = some r) :
  Calls Tryd.prog 59 #[.slice A0 l0.length c0] w fun e w' => ∃ v0_ : Value, e = .returned (v0_) ∧ Kd.R (Kd.int .u8) 5 w' w.heap.size (fun _ => True) v0_ r ∧ Below w.heap.size w w' := by
 have HR0 := Aside0.mk hr0
 have HC0 := Aside0.mk hc0
 clear hr0 hc0
 have HB := Aside0.mk (Below.refl w.heap.size w)
 have H : (if 8 ≤ 281474976710656 then (spec_PutBits.l0 k (List.replicate 8 0) l0 (l0.length : Int) 0) else (none)) = some r := h
 clear h
 by_cases c2 : 8 ≤ 281474976710656
 ·rw [if_pos c2] at H
  have c2b0 := eq_true c2
  have c2b1 : decide (8 ≤ 281474976710656) = true := decide_eq_true c2
  clear c2
  obtain ⟨y342, hy342⟩ : ∃ y_ : List Int, y_ = (List.replicate 8 0) := ⟨_, rfl⟩
  replace H : (spec_PutBits.l0 k y342 l0 (l0.length : Int) 0) = some r := by first | (rw [hy342]; with_reducible exact H) | (have H2_ := (Option.bind_some _ _).symm.trans H; rw [hy342]; with_reducible exact H2_) | (have H2_ := (Option.bind_some _ _).symm.trans H; with_reducible exact H2_) | with_reducible exact H | (rw [hy342]; exact H) | exact H
  have Ny342 := Aside0.mk hy342
  clear hy342
  have H' := Aside0.mk H
  clear H
  go_enter Tryd.func59, Tryd.ntmps59
  go_wp2_with (first | ((with_reducible refine gate_dst (N := 6) rfl ?_); refine Kd.R_make (Kd.int .u8) _ 5 rfl (N := 6) rfl 22 _ _ rfl 8 rfl rfl Tryd.underlying22 (.int .u8 0) 1 info5 rfl (by decide) (by omega) 0 (ok := fun _ => True) (okp := fun _ => True) rfl (fun _ hk => hk) trivial (by omega) (by omega) (Below.refl _ _) (Nat.le_refl _) ?_; intro v343 w3 ho4 hb hg_ hnew_; clear hg_ hnew_; (first | rw [← Ny342.out] at ho4 | (simp only [Int.reduceToNat] at ho4; rw [← Ny342.out] at ho4)); have n0_ := Aside0.mk (Kd.R_lower ho4 (below_size bB)); have n1_ := Aside0.mk (below_step bB hb); clear HB; have HO344 := n0_; have HB := n1_; clear n0_ n1_; clear hb ho4))
  go_loopg [9] k (fun kq v9 w' => ∃ (x3_1 : List Int) (x9_1 : Int), v9 = .int .i64 x9_1 ∧ Aside0 (spec_PutBits.l0 kq x3_1 l0 (l0.length : Int) x9_1 = some r) ∧ Aside0 (kq ≤ k) ∧ Aside0 (Kd.R (Kd.int .u8) 5 w' w.heap.size (fun _ => True) v343 x3_1) ∧ Aside0 (Below w.heap.size w w'))
  case atStart => exact ⟨(y342), (0), (by first | rfl | (simp; done) | (simp [*]; done) | (simp [i64_w, IntKind.wrap_u8, e256_]; done) | (simp; generalize ByteArray.toList _ = zz_; cases zz_ <;> rfl)), H', ⟨Nat.le_refl _⟩, ⟨rA HO344.out⟩, ⟨bB⟩⟩
  case round =>
   clear H'
   try clear c2
   try clear c2b0
   try clear c2b1
   try clear p2
   obtain ⟨x3_1, x9_1, rfl, HA, HK1, HO_3, HB⟩ := hrel
   cases gk with
   | zero => exact absurd HA.out (by simp [spec_PutBits.l0])
   | succ k1 =>
    have H := HA.out
    clear HA
    simp only [spec_PutBits.l0] at H
    by_cases c5 : x9_1 < (l0.length : Int)
    ·rw [if_pos c5] at H
     have c5b0 : decide (x9_1 < (l0.length : Int)) = true := decide_eq_true c5
     clear c5
     by_cases c6 : 0 ≤ x9_1
     ·rw [if_pos c6] at H
      have c6b0 : decide (0 ≤ x9_1) = true := decide_eq_true c6
      clear c6
      by_cases c7 : x9_1 < (l0.length : Int)
      ·rw [if_pos c7] at H
       have c7b0 : decide (x9_1 < (l0.length : Int)) = true := decide_eq_true c7
       clear c7
       replace H := Option.bind_eq_some_iff.mp H
       obtain ⟨t346, A80, H⟩ := H
       replace H : (if t346 = true then (if 0 ≤ (wrap64 (Int.tdiv (wrap64 ((rd l0 x9_1) - 1)) 8)) then (if (wrap64 (Int.tdiv (wrap64 ((rd l0 x9_1) - 1)) 8)) < (x3_1.length : Int) then (if 0 ≤ (Int.tmod (wrap64 ((rd l0 x9_1) - 1)) 8) then (spec_PutBits.l0 k1 (x3_1.set ((wrap64 (Int.tdiv (wrap64 ((rd l0 x9_1) - 1)) 8)) : Int).toNat (Go.bits .or .u8 (rd x3_1 (wrap64 (Int.tdiv (wrap64 ((rd l0 x9_1) - 1)) 8))) (shr .u8 128 (Int.tmod (wrap64 ((rd l0 x9_1) - 1)) 8)))) l0 (l0.length : Int) (wrap64 (x9_1 + 1))) else (none)) else (none)) else (none)) else (spec_PutBits.l0 k1 x3_1 l0 (l0.length : Int) (wrap64 (x9_1 + 1)))) = some r := H
       have A8 := Aside0.mk A80
       clear A80
       by_cases c9 : t346 = true
       ·subst c9
        have H1 : (if 0 ≤ (wrap64 (Int.tdiv (wrap64 ((rd l0 x9_1) - 1)) 8)) then (if (wrap64 (Int.tdiv (wrap64 ((rd l0 x9_1) - 1)) 8)) < (x3_1.length : Int) then (if 0 ≤ (Int.tmod (wrap64 ((rd l0 x9_1) - 1)) 8) then (spec_PutBits.l0 k1 (x3_1.set ((wrap64 (Int.tdiv (wrap64 ((rd l0 x9_1) - 1)) 8)) : Int).toNat (Go.bits .or .u8 (rd x3_1 (wrap64 (Int.tdiv (wrap64 ((rd l0 x9_1) - 1)) 8))) (shr .u8 128 (Int.tmod (wrap64 ((rd l0 x9_1) - 1)) 8)))) l0 (l0.length : Int) (wrap64 (x9_1 + 1))) else (none)) else (none)) else (none)) = some r := by rw [if_pos rfl] at H; exact H
        clear H
        have H := H1
        clear H1
        obtain ⟨ji10, hji10⟩ : ∃ j_ : Int, (wrap64 (Int.tdiv (wrap64 ((rd l0 x9_1) - 1)) 8)) = j_ := ⟨_, rfl⟩
        replace H : (if 0 ≤ (ji10) then (if (ji10) < (x3_1.length : Int) then (if 0 ≤ (Int.tmod (wrap64 ((rd l0 x9_1) - 1)) 8) then (spec_PutBits.l0 k1 (x3_1.set ((ji10) : Int).toNat (Go.bits .or .u8 (rd x3_1 (ji10)) (shr .u8 128 (Int.tmod (wrap64 ((rd l0 x9_1) - 1)) 8)))) l0 (l0.length : Int) (wrap64 (x9_1 + 1))) else (none)) else (none)) else (none)) = some r := by first | (rw [hji10] at H; exact H) | (simp only [hji10] at H ⊢; exact H)
        (try rw [hji10] at A8)
        have hji10w : (IntKind.i64.wrap (Int.tdiv (wrap64 ((rd l0 x9_1) - 1)) 8)) = ji10 := (i64_w _).trans hji10
        by_cases c11 : 0 ≤ (ji10)
        ·rw [if_pos c11] at H
         have c11b0 : decide (0 ≤ (ji10)) = true := decide_eq_true c11
         clear c11
         by_cases c12 : (ji10) < (x3_1.length : Int)
         ·rw [if_pos c12] at H
          have c12b0 : decide ((ji10) < (x3_1.length : Int)) = true := decide_eq_true c12
          clear c12
          obtain ⟨ji13, hji13⟩ : ∃ j_ : Int, (Int.tmod (wrap64 ((rd l0 x9_1) - 1)) 8) = j_ := ⟨_, rfl⟩
          replace H : (if 0 ≤ (ji13) then (spec_PutBits.l0 k1 (x3_1.set ((ji10) : Int).toNat (Go.bits .or .u8 (rd x3_1 (ji10)) (shr .u8 128 (ji13)))) l0 (l0.length : Int) (wrap64 (x9_1 + 1))) else (none)) = some r := by first | (rw [hji13] at H; exact H) | (simp only [hji13] at H ⊢; exact H)
          (try rw [hji13] at A8)
          by_cases c14 : 0 ≤ (ji13)
          ·rw [if_pos c14] at H
           have c14b0 := eq_true c14
           have c14b1 : decide (0 ≤ (ji13)) = true := decide_eq_true c14
           clear c14
           obtain ⟨ji15, hji15⟩ : ∃ j_ : Int, (shr .u8 128 (ji13)) = j_ := ⟨_, rfl⟩
           replace H : (spec_PutBits.l0 k1 (x3_1.set ((ji10) : Int).toNat (Go.bits .or .u8 (rd x3_1 (ji10)) (ji15))) l0 (l0.length : Int) (wrap64 (x9_1 + 1))) = some r := by first | (rw [hji15] at H; exact H) | (simp only [hji15] at H ⊢; exact H)
           (try rw [hji15] at A8)
           have hji15_ : (128 / 2 ^ min (ji13).toNat 8) = ji15 := hji15
           have hji15z : (ji13) ≤ 8 → (128 / 2 ^ (ji13).toNat) = ji15 := shr_small hji15
           obtain ⟨y348, hy348⟩ : ∃ y_ : List Int, y_ = (x3_1.set ((ji10) : Int).toNat (Go.bits .or .u8 (rd x3_1 (ji10)) (ji15))) := ⟨_, rfl⟩
           replace H : (spec_PutBits.l0 k1 y348 l0 (l0.length : Int) (wrap64 (x9_1 + 1))) = some r := by first | (rw [hy348]; with_reducible exact H) | (have H2_ := (Option.bind_some _ _).symm.trans H; rw [hy348]; with_reducible exact H2_) | (have H2_ := (Option.bind_some _ _).symm.trans H; with_reducible exact H2_) | with_reducible exact H | (rw [hy348]; exact H) | exact H
           have Ny348 := Aside0.mk hy348
           clear hy348
           have H' := Aside0.mk H
           clear H
           have p345 : 0 ≤ (x9_1 : Int) := of_decide_eq_true (by first | (with_reducible assumption) | assumption)
           have q345 : x9_1 < (l0.length : Int) := of_decide_eq_true (by first | (with_reducible assumption) | assumption)
           obtain ⟨ad345, e345, hx345_0⟩ := Kd.at_int HR0.out x9_1 p345 q345
           cases e345
           replace hx345_0 := (HB.out.cell (World.block_lt_of_cell? w _ hx345_0)).trans hx345_0
           replace p345 := eq_true p345
           replace q345 := eq_true q345
           try go_wp2_with (first | ((with_reducible refine gate_callee (f := 83) rfl ?_); refine goesM_ (some 14) rfl rfl Tryd.func83 (by kernel_rfl) rfl #[.int .i64 (rd l0 x9_1), .int .i64 1, .int .i64 64] rfl ?_; (with_reducible refine (spec_l01In.calls (rd l0 x9_1) 1 64 true _ A8.out).mono ?_); rintro e w' ⟨rfl, ⟨nd, rfl⟩⟩; refine ⟨_, rfl, ?_⟩; (try (rw [drewN_self wr]; generalize hq_ : World.drewN wr _ = wr; have n0_ : Aside0 (Kd.R (Kd.int .u8) 5 wr w.heap.size (fun _ => True) v343 x3_1) := ⟨by rw [← hq_]; exact (rA HO_3.out)⟩; have n1_ : Aside0 (Below w.heap.size w wr) := ⟨by rw [← hq_]; exact bB⟩; clear HO_3 HB hq_; have HO_3 := n0_; have HB := n1_; clear n0_ n1_))))
           have n0_ := Aside0.mk (Kd.R_drew HO_3.out)
           have n1_ := Aside0.mk (below_drew1 HB.out)
           clear HO_3
           clear HB
           have HO_3 := n0_
           have HB := n1_
           clear n0_ n1_
           obtain ⟨Ao18, co18, eo18⟩ := Kd.R_slice HO_3.out
           (first | subst eo18 | (injection eo18 with f1_ f2_ f3_; have f4_ := f1_.symm; have f5_ := f3_.symm; clear f1_ f2_ f3_; subst f4_; subst f5_))
           have p347 : 0 ≤ ((ji10) : Int) := of_decide_eq_true (by first | (with_reducible assumption) | assumption)
           have q347 : (ji10) < (x3_1.length : Int) := of_decide_eq_true (by first | (with_reducible assumption) | assumption)
           obtain ⟨ad347, e347, hx347_0⟩ := Kd.at_int (Kd.R_reads' HO_3.out).2.2 (ji10) p347 q347
           cases e347
           replace p347 := eq_true p347
           replace q347 := eq_true q347
           have p16 : 0 ≤ ((ji10) : Int) := of_decide_eq_true (by first | (with_reducible assumption) | assumption)
           have q16 : ((ji10) : Int) < ((x3_1.length : Int) : Int) := of_decide_eq_true (by first | (with_reducible assumption) | assumption)
           obtain ⟨go16, co16, eo16, gb16, gl16, cl16, HG16⟩ := Kd.R_form HO_3.out (by omega)
           (first | cases eo16 | (injection eo16 with ea_ en_ ec_; (first | subst ea_ | (injection ea_ with ea_; subst ea_)); subst ec_; clear en_))
           have GB16 := Aside0.mk gb16
           have GG16 := Aside0.mk HG16
           clear gb16 gl16 HG16
           (first | simp only [add_plain] at hx347_0 | skip)
           obtain ⟨hx16_0, hf16_0⟩ := Kd.R_celln 0 HO_3.out ((ji10) : Int) p16 q16
           replace p16 := eq_true p16
           replace q16 := eq_true q16
           have HP19 := Kd.R_putn HO_3.out ((ji10) : Int) (Go.bits .or .u8 (rd x3_1 (ji10)) (ji15))
           rw [← Ny348.out] at HP19
           have HQ19 := Aside0.mk HP19
           clear HP19
           refine start_ (n := 17) (S := fun w' => w'.cell? ⟨go16, ((ji10)).toNat, none⟩ = some (.int .u8 (rd x3_1 (ji10)))) (ds := [16]) #[false, false, false, false, false, false, false, false, false, false, false, false, false, false, false, false, false] (by kernel_rfl) rfl rfl (hx347_0) (fun hHeld => ?_); refine with_tabW spec_PutBits.tab6 spec_PutBits.bits6 (fun HT_ HW_ => ?_)
           generalize wr.drew = w17 at HO_3 HB GG16 HQ19 hf16_0 hx16_0 hx347_0 hHeld ⊢
           refine pure_ (i := 0) (N := some 15) (v := ?_) (a' := ?_) #[true, false, false, false, false, false, false, false, false, false, false, false, false, false, false, false, false] rfl rfl (any_of HT_.out (by kernel_rfl)) (fun _ _ _ h => h) (Or.inl ⟨by rfl, ?_⟩) ?_ ?_
           rotate_left
           ·intro w'
            go_simp
            with_reducible rfl
           rotate_left
           ·simp only [Act.put, List.setIfInBounds_toArray, List.set_cons_zero, List.set_cons_succ, i64_w, i32_w]
            rfl
           refine pure_ (i := 1) (N := some 16) (v := ?_) (a' := ?_) #[true, true, false, false, false, false, false, false, false, false, false, false, false, false, false, false, false] rfl rfl (any_of HT_.out (by kernel_rfl)) (fun _ _ _ h => h) (Or.inl ⟨by rfl, ?_⟩) ?_ ?_
           rotate_left
           ·intro w'
            go_simp
            with_reducible rfl
           rotate_left
           ·simp only [Act.put, List.setIfInBounds_toArray, List.set_cons_zero, List.set_cons_succ, i64_w, i32_w]
            rfl
           refine pure_ (i := 2) (N := some 17) (v := ?_) (a' := ?_) #[true, true, true, false, false, false, false, false, false, false, false, false, false, false, false, false, false] rfl rfl (any_of HT_.out (by kernel_rfl)) (fun _ _ _ h => h) (Or.inl ⟨by rfl, ?_⟩) ?_ ?_
           rotate_left
           ·intro w'
            go_simp
            with_reducible rfl
           rotate_left
           ·simp only [Act.put, List.setIfInBounds_toArray, List.set_cons_zero, List.set_cons_succ, i64_w, i32_w]
            rfl
           refine pure_ (i := 3) (N := some 18) (v := ?_) (a' := ?_) #[true, true, true, true, false, false, false, false, false, false, false, false, false, false, false, false, false] rfl rfl (any_of HT_.out (by kernel_rfl)) (fun _ _ _ h => h) (Or.inl ⟨by rfl, ?_⟩) ?_ ?_
           rotate_left
           ·intro w'
            go_simp
            with_reducible rfl
           rotate_left
           ·simp only [Act.put, List.setIfInBounds_toArray, List.set_cons_zero, List.set_cons_succ, i64_w, i32_w]
            rfl
           refine pure_ (i := 4) (N := some 19) (v := ?_) (a' := ?_) #[true, true, true, true, true, false, false, false, false, false, false, false, false, false, false, false, false] rfl rfl (any_of HT_.out (by kernel_rfl)) (fun _ _ _ h => h) (Or.inl ⟨by rfl, ?_⟩) ?_ ?_
           rotate_left
           ·intro w'
            go_simp
            with_reducible rfl
           rotate_left
           ·simp only [Act.put, List.setIfInBounds_toArray, List.set_cons_zero, List.set_cons_succ, i64_w, i32_w]
            rfl
           refine pure_ (i := 5) (N := some 20) (v := ?_) (a' := ?_) #[true, true, true, true, true, true, false, false, false, false, false, false, false, false, false, false, false] rfl rfl (any_of HT_.out (by kernel_rfl)) (fun _ _ _ h => h) (Or.inl ⟨by rfl, ?_⟩) ?_ ?_
           rotate_left
           ·intro w'
            go_simp
            with_reducible rfl
           rotate_left
           ·simp only [Act.put, List.setIfInBounds_toArray, List.set_cons_zero, List.set_cons_succ, i64_w, i32_w]
            rfl
           refine pure_ (i := 6) (N := some 21) (v := ?_) (a' := ?_) #[true, true, true, true, true, true, true, false, false, false, false, false, false, false, false, false, false] rfl rfl (any_of HT_.out (by kernel_rfl)) (fun _ _ _ h => h) (Or.inl ⟨by rfl, ?_⟩) ?_ ?_
           rotate_left
           ·intro w'
            go_simp
            with_reducible rfl
           rotate_left
           ·simp only [Act.put, List.setIfInBounds_toArray, List.set_cons_zero, List.set_cons_succ, i64_w, i32_w]
            rfl
           refine pure_ (i := 7) (N := some 22) (v := ?_) (a' := ?_) #[true, true, true, true, true, true, true, true, false, false, false, false, false, false, false, false, false] rfl rfl (any_of HT_.out (by kernel_rfl)) (fun _ _ _ h => h) (Or.inl ⟨by rfl, ?_⟩) ?_ ?_
           rotate_left
           ·intro w'
            go_simp
            with_reducible rfl
           rotate_left
           ·simp only [Act.put, List.setIfInBounds_toArray, List.set_cons_zero, List.set_cons_succ, i64_w, i32_w]
            rfl
           refine pure_ (i := 8) (N := some 23) (v := ?_) (a' := ?_) #[true, true, true, true, true, true, true, true, true, false, false, false, false, false, false, false, false] rfl rfl (any_of HT_.out (by kernel_rfl)) (fun _ _ _ h => h) (Or.inl ⟨by rfl, ?_⟩) ?_ ?_
           rotate_left
           ·intro w'
            go_simp
            with_reducible rfl
           rotate_left
           ·simp only [Act.put, List.setIfInBounds_toArray, List.set_cons_zero, List.set_cons_succ, i64_w, i32_w]
            rfl
           refine pure_ (i := 10) (N := some 25) (v := ?_) (a' := ?_) #[true, true, true, true, true, true, true, true, true, false, true, false, false, false, false, false, false] rfl rfl (any_of HT_.out (by kernel_rfl)) (fun _ _ _ h => h) (Or.inl ⟨by rfl, ?_⟩) ?_ ?_
           rotate_left
           ·intro w'
            go_simp
            with_reducible rfl
           rotate_left
           ·simp only [Act.put, List.setIfInBounds_toArray, List.set_cons_zero, List.set_cons_succ, i64_w, i32_w]
            rfl
           refine pure_ (i := 11) (N := some 26) (v := ?_) (a' := ?_) #[true, true, true, true, true, true, true, true, true, false, true, true, false, false, false, false, false] rfl rfl (any_of HT_.out (by kernel_rfl)) (fun _ _ _ h => h) (Or.inl ⟨by rfl, ?_⟩) ?_ ?_
           rotate_left
           ·intro w'
            go_simp
            with_reducible rfl
           rotate_left
           ·simp only [Act.put, List.setIfInBounds_toArray, List.set_cons_zero, List.set_cons_succ, i64_w, i32_w]
            rfl
           refine pure_ (i := 12) (N := some 27) (v := ?_) (a' := ?_) #[true, true, true, true, true, true, true, true, true, false, true, true, true, false, false, false, false] rfl rfl (any_of HT_.out (by kernel_rfl)) (fun _ _ _ h => h) (Or.inl ⟨by rfl, ?_⟩) ?_ ?_
           rotate_left
           ·intro w'
            go_simp
            with_reducible rfl
           rotate_left
           ·simp only [Act.put, List.setIfInBounds_toArray, List.set_cons_zero, List.set_cons_succ, i64_w, i32_w]
            rfl
           refine pure_ (i := 13) (N := some 28) (v := ?_) (a' := ?_) #[true, true, true, true, true, true, true, true, true, false, true, true, true, true, false, false, false] rfl rfl (any_of HT_.out (by kernel_rfl)) (fun _ _ _ h => h) (Or.inl ⟨by rfl, ?_⟩) ?_ ?_
           rotate_left
           ·intro w'
            go_simp
            with_reducible rfl
           rotate_left
           ·simp only [Act.put, List.setIfInBounds_toArray, List.set_cons_zero, List.set_cons_succ, i64_w, i32_w]
            rfl
           refine take_ (i := 9) (N := some 24) (v := ?_) (a' := ?_) #[true, true, true, true, true, true, true, true, true, true, true, true, true, true, false, false, false] rfl rfl (take_ofW HT_.out HW_.out (by kernel_rfl)) (fun _ _ _ h => h) (Or.inl ⟨by rfl, ?_⟩) hHeld ?_ ?_
           rotate_left
           ·intro w' s0
            go_simp
            with_reducible rfl
           rotate_left
           ·simp only [Act.put, List.setIfInBounds_toArray, List.set_cons_zero, List.set_cons_succ, i64_w, i32_w]
            rfl
           refine pure_ (i := 14) (N := some 29) (v := ?_) (a' := ?_) #[true, true, true, true, true, true, true, true, true, true, true, true, true, true, true, false, false] rfl rfl (any_of HT_.out (by kernel_rfl)) (fun _ _ _ h => h) (Or.inl ⟨by rfl, ?_⟩) ?_ ?_
           rotate_left
           ·intro w'
            go_simp
            with_reducible rfl
           rotate_left
           ·simp only [Act.put, List.setIfInBounds_toArray, List.set_cons_zero, List.set_cons_succ, i64_w, i32_w]
            rfl
           refine pure_ (i := 15) (N := some 30) (v := ?_) (a' := ?_) #[true, true, true, true, true, true, true, true, true, true, true, true, true, true, true, true, false] rfl rfl (any_of HT_.out (by kernel_rfl)) (fun _ _ _ h => h) (Or.inl ⟨by rfl, ?_⟩) ?_ ?_
           rotate_left
           ·intro w'
            go_simp
            with_reducible rfl
           rotate_left
           ·simp only [Act.put, List.setIfInBounds_toArray, List.set_cons_zero, List.set_cons_succ, i64_w, i32_w]
            rfl
           refine last_ (i := 16) (N := none) #[true, true, true, true, true, true, true, true, true, true, true, true, true, true, true, true, true] rfl rfl (one_of HT_.out (by kernel_rfl)) (by decide) (fun K hK => ?_)
           refine skip_ (w1 := ?_) (by rfl) rfl ?_ ?_
           rotate_left
           ·go_simp
            rfl
           refine hK.out _ _ ?_
           clear hK K
           refine done_ (done_of HT_.out (by kernel_rfl)) ?_
           try go_wp2
           go_roundg k1
           case measure => have := HK1.out; omega
           case rel => exact ⟨(y348), (wrap64 (x9_1 + 1)), (by first | rfl | (simp; done) | (simp [*]; done) | (simp [i64_w, IntKind.wrap_u8, e256_]; done) | (simp; generalize ByteArray.toList _ = zz_; cases zz_ <;> rfl)), H', ⟨by have := HK1.out; omega⟩, ⟨rA HQ19.out⟩, ⟨by repeat (first | (with_reducible first | exact HB.out | apply below_alloc | apply pw_below_drewN | apply below_drew1 | refine below_set ?_ GB16.out) | exact HB.out)⟩⟩
          ·rw [if_neg c14] at H
           exact absurd H (by simp)
         ·rw [if_neg c12] at H
          exact absurd H (by simp)
        ·rw [if_neg c11] at H
         exact absurd H (by simp)
       ·replace c9 := Bool.eq_false_iff.mpr c9
        subst c9
        have H1 : (spec_PutBits.l0 k1 x3_1 l0 (l0.length : Int) (wrap64 (x9_1 + 1))) = some r := by rw [if_neg (show ¬ (false = true) by decide)] at H; exact H
        clear H
        have H := H1
        clear H1
        have H' := Aside0.mk H
        clear H
        have p345 : 0 ≤ (x9_1 : Int) := of_decide_eq_true (by first | (with_reducible assumption) | assumption)
        have q345 : x9_1 < (l0.length : Int) := of_decide_eq_true (by first | (with_reducible assumption) | assumption)
        obtain ⟨ad345, e345, hx345_0⟩ := Kd.at_int HR0.out x9_1 p345 q345
        cases e345
        replace hx345_0 := (HB.out.cell (World.block_lt_of_cell? w _ hx345_0)).trans hx345_0
        replace p345 := eq_true p345
        replace q345 := eq_true q345
        go_wp2_with (first | ((with_reducible refine gate_callee (f := 83) rfl ?_); refine goesM_ (some 14) rfl rfl Tryd.func83 (by kernel_rfl) rfl #[.int .i64 (rd l0 x9_1), .int .i64 1, .int .i64 64] rfl ?_; (with_reducible refine (spec_l01In.calls (rd l0 x9_1) 1 64 false _ A8.out).mono ?_); rintro e w' ⟨rfl, ⟨nd, rfl⟩⟩; refine ⟨_, rfl, ?_⟩))
        go_roundg k1
        case measure => have := HK1.out; omega
        case rel => exact ⟨(x3_1), (wrap64 (x9_1 + 1)), (by first | rfl | (simp; done) | (simp [*]; done) | (simp [i64_w, IntKind.wrap_u8, e256_]; done) | (simp; generalize ByteArray.toList _ = zz_; cases zz_ <;> rfl)), H', ⟨by have := HK1.out; omega⟩, ⟨rA HO_3.out⟩, ⟨bB⟩⟩
      ·rw [if_neg c7] at H
       exact absurd H (by simp)
     ·rw [if_neg c6] at H
      exact absurd H (by simp)
    ·rw [if_neg c5] at H
     have c5b0 : decide (x9_1 < (l0.length : Int)) = false := decide_eq_false c5
     clear c5
     obtain rfl := Option.some.inj H
     go_wp2
     go_ret
     exact ⟨_, by first | rfl | (simp [errW_none, errW_some] <;> rfl) | (simp [*, errW_none, errW_some] <;> rfl), rA HO_3.out, bB⟩
 ·rw [if_neg c2] at H
  exact absurd H (by simp)
end Go.Proofs.YtfiieppnpmodoaaDoor.Q
end
section
namespace Go.Proofs.YtfiieppnpmodoaaDoor.Q
open Go.RowKit Go.Proofs.YtfiieppnpmodoaaDoorW.PrintWords Go.Proofs.YtfiieppnpmodoaaDoorW.PrintLast Go.Proofs.YtfiieppnpmodoaaDoorW.PrintMore
set_option linter.unusedVariables false
set_option linter.unusedSimpArgs false
theorem spec_PutBits_l (l : List Int) (hl : l.length ≤ 1000000000) : ∀ (d n k : Nat) (x : List Int), n + d = l.length → x.length = 8 → d < k →
    spec_PutBits.l0 k x l (l.length : Int) (n : Int) = some ((l.drop n).foldl orBit x) ∧ impl_PutBits.l0 k x l (l.length : Int) (n : Int) = some ((l.drop n).foldl orBit x) := by
  intro d
  induction d with
  | zero =>
    intro n k x hd hx hk
    obtain ⟨k, rfl⟩ : ∃ m, k = m + 1 := ⟨k - 1, by omega⟩
    have c1 : ¬ (n : Int) < (l.length : Int) := by omega
    rw [List.drop_eq_nil_of_le (by omega)]
    simp only [spec_PutBits.l0, impl_PutBits.l0, if_neg c1]
    exact ⟨rfl, rfl⟩
  | succ d ih =>
    intro n k x hd hx hk
    obtain ⟨k, rfl⟩ : ∃ m, k = m + 1 := ⟨k - 1, by omega⟩
    have c1 : (n : Int) < (l.length : Int) := by omega
    have c2 : 0 ≤ (n : Int) := by omega
    have ih' := ih (n + 1) k (orBit x (rd l (n : Int))) (by omega) (by rw [orBit_length, hx]) (by omega)
    rw [drop_rd l n (by omega), List.foldl_cons]
    have en : wrap64 ((n : Int) + 1) = ((n + 1 : Nat) : Int) := by unfold wrap64; omega
    simp only [spec_PutBits.l0, impl_PutBits.l0, if_pos c1, if_pos c2, en]
    generalize rd l (n : Int) = b at ih' ⊢
    unfold spec_l01In.f impl_within.f
    by_cases h1 : 1 ≤ b
    · have h1' : b ≥ 1 := h1
      simp only [if_pos h1, if_pos h1', Option.bind_some]
      by_cases h2 : b ≤ 64
      · simp only [h2, decide_true, if_true]
        have e1 : wrap64 (b - 1) = b - 1 := by unfold wrap64; omega
        have e2 : Int.tdiv (b - 1) 8 = (b - 1) / 8 := Int.tdiv_eq_ediv_of_nonneg (by omega)
        have e3 : Int.tmod (b - 1) 8 = (b - 1) % 8 := Int.tmod_eq_emod_of_nonneg (by omega)
        have e4 : wrap64 ((b - 1) / 8) = (b - 1) / 8 := by unfold wrap64; omega
        have c3 : 0 ≤ (b - 1) / 8 := by omega
        have c4 : (b - 1) / 8 < (x.length : Int) := by omega
        have c5 : 0 ≤ (b - 1) % 8 := by omega
        have eo : orBit x b = x.set ((b - 1) / 8).toNat (Go.bits .or .u8 (rd x ((b - 1) / 8)) (shr .u8 128 ((b - 1) % 8))) := by unfold orBit; rw [if_pos ⟨h1, h2⟩]
        simp only [e1, e2, e3, e4, if_pos c3, if_pos c4, if_pos c5]
        rw [← eo]
        exact ih'
      · have eo : orBit x b = x := by unfold orBit; rw [if_neg (fun h => h2 h.2)]
        simp only [h2, decide_false, Bool.false_eq_true, if_false]
        rw [eo] at ih' ⊢
        exact ih'
    · have h1' : ¬ b ≥ 1 := h1
      have eo : orBit x b = x := by unfold orBit; rw [if_neg (fun h => h1 h.1)]
      simp only [if_neg h1, if_neg h1', Option.bind_some, Bool.false_eq_true, if_false]
      rw [eo] at ih' ⊢
      exact ih'
theorem impl_PutBits_at (l : List Int) (hl : l.length ≤ 1000000000) (k : Nat) (hk : l.length < k) : impl_PutBits.f k l = some (putBits l) := by
  unfold impl_PutBits.f
  rw [if_pos (by omega)]
  exact (spec_PutBits_l l hl l.length 0 k _ (by omega) (by simp) hk).2
theorem impl_PutField_at (x : Int) (s : ByteArray) (h : s.size ≤ 140737488351232) : impl_PutField.f x s = some (putField x (bytesOf s)) := by
  unfold impl_PutField.f
  rw [if_pos h]
theorem low_cons (f : IF) (t : List IF) : lowOf (f :: t) = if f.f0 > 64 then lowOf t else f.f0 :: lowOf t := by
  unfold lowOf
  by_cases h : f.f0 > 64
  · rw [if_pos h, List.filter_cons_of_neg (by simp; omega)]
  · rw [if_neg h, List.filter_cons_of_pos (by simp; omega)]; rfl
theorem high_cons (f : IF) (t : List IF) : highOf (f :: t) = if f.f0 > 64 then (f.f0 - 64) :: highOf t else highOf t := by
  unfold highOf
  by_cases h : f.f0 > 64
  · rw [if_pos h, List.filter_cons_of_pos (by simp; omega)]; rfl
  · rw [if_neg h, List.filter_cons_of_neg (by simp; omega)]
theorem impl_Encode_l (m : ByteArray) (l : List IF) (hl : l.length ≤ 10000000) (hw : ∀ f ∈ l, f.f1.size ≤ 10000000) (hr : ∀ f ∈ l, 2 ≤ f.f0 ∧ f.f0 ≤ 103) : ∀ (d n k : Nat) (x4 x5 x6 : List Int), n + d = l.length → x4.length ≤ n → x5.length ≤ n → x6.length ≤ 100 * n →
    impl_Encode.l0 (k + d) x4 x5 x6 l (l.length : Int) (n : Int) m l = impl_Encode.l0 k (x4 ++ lowOf (l.drop n)) (x5 ++ highOf (l.drop n)) (x6 ++ bodyOf (l.drop n)) l (l.length : Int) (l.length : Int) m l := by
  intro d
  induction d with
  | zero =>
    intro n k x4 x5 x6 hd h4 h5 h6
    have e : n = l.length := by omega
    subst e
    rw [List.drop_eq_nil_of_le (Nat.le_refl _)]
    simp [lowOf, highOf, bodyOf]
  | succ d ih =>
    intro n k x4 x5 x6 hd h4 h5 h6
    have hm := rdF_mem l n (by omega)
    have hs := hw _ hm
    have hx := hr _ hm
    rw [show k + (d + 1) = (k + d) + 1 by omega, impl_Encode.l0, if_pos (by omega), if_pos (by omega), if_pos (by omega), dropF l n (by omega), low_cons, high_cons, bodyOf, impl_PutField_at _ _ (by omega), w64s (by omega)]
    have hb := putField_len (rd_T79 l (n : Int)).f0 (bytesOf (rd_T79 l (n : Int)).f1)
    generalize rd_T79 l (n : Int) = f at hs hx hb
    rw [Option.bind_some]
    by_cases q : f.f0 > 64
    · have e : wrap64 (f.f0 - 64) = f.f0 - 64 := by unfold wrap64; omega
      rw [if_pos q, if_pos q, if_pos q, if_pos (by omega), if_pos (by omega), e, ih (n + 1) k _ _ _ (by omega) (by omega) (by simp; omega) (by simp; omega)]
      simp
    · rw [if_neg q, if_neg q, if_neg q, if_pos (by omega), Option.bind_some, if_pos (by omega), ih (n + 1) k _ _ _ (by omega) (by simp; omega) (by omega) (by simp; omega)]
      simp
theorem low_len : ∀ (l : List IF), (lowOf l).length ≤ l.length := by
  intro l
  unfold lowOf
  rw [List.length_map]
  exact List.length_filter_le _ _
theorem high_len : ∀ (l : List IF), (highOf l).length ≤ l.length := by
  intro l
  unfold highOf
  rw [List.length_map]
  exact List.length_filter_le _ _
theorem mti_bcd (m : ByteArray) (h : isMti m = true) : putBcd (bytesOf m) = (bcd (evened (bytesOf m)), true) ∧ (bcd (evened (bytesOf m))).length = 2 ∧ m.size = 4 := by
  obtain ⟨h1, h2⟩ := isMti_facts m h
  have := bcd_length _ _ (evened_length (bytesOf m))
  exact ⟨putBcd_digits _ h1 (by omega) (by omega), by omega, by rw [← bytesOf_length]; exact h2⟩
theorem msg_parts (m : ByteArray) (l : List IF) (h : msgOk m l = true) : isMti m = true ∧ ∀ f ∈ l, 2 ≤ f.f0 ∧ f.f0 ≤ 103 := by
  unfold msgOk at h
  simp only [Bool.and_eq_true] at h
  obtain ⟨o1, _, _⟩ := (okFrom_iff l none).1 h.2
  exact ⟨h.1, fun f hf => known_range _ (fieldOk_kind _ _ (o1 f hf))⟩
theorem impl_Encode_at (m : ByteArray) (l : List IF) (hm : m.size ≤ 10000000) (hl : l.length ≤ 10000000) (hw : ∀ f ∈ l, f.f1.size ≤ 10000000) (k : Nat) (hk : 2 * l.length + m.size + 20000000 < k) : impl_Encode.f k m l = some (encode m l) := by
  unfold impl_Encode.f encode
  rw [impl_MsgOk_at m l hm hl 10000000 (by omega) hw k (by omega), Option.bind_some]
  by_cases h : msgOk m l = true
  · obtain ⟨hmti, hr⟩ := msg_parts m l h
    obtain ⟨b1, b2, b3⟩ := mti_bcd m hmti
    rw [if_pos h, if_pos h]
    have hz := impl_Encode_l m l hl hw hr l.length 0 (k - l.length) [] [] [] (by omega) (by simp) (by simp) (by simp)
    rw [show k - l.length + l.length = k by omega] at hz
    refine hz.trans ?_
    rw [List.drop_zero, List.nil_append, List.nil_append, List.nil_append]
    obtain ⟨k, rfl⟩ : ∃ q, k = q + 1 + l.length := ⟨k - 1 - l.length, by omega⟩
    have z4 := low_len l
    have z5 := high_len l
    have z6 := bodyOf_len l
    have p1 := putBits_length (lowOf l)
    have p2 := putBits_length (lowOf l ++ [1])
    have p3 := putBits_length (highOf l)
    rw [show k + 1 + l.length - l.length = k + 1 by omega, impl_Encode.l0, if_neg (by omega), impl_PutBcd_at m (by omega) k (by omega), b1, Option.bind_some]
    unfold headOf
    by_cases q : highOf l = []
    · rw [q, if_neg (by simp), impl_PutBits_at _ (by omega) k (by omega), Option.bind_some, if_pos rfl]
      simp only
      rw [if_pos (by omega), Option.bind_some, if_pos (by rw [List.length_append]; omega)]
    · have q2 : (highOf l).length ≠ 0 := fun z => q (List.length_eq_zero_iff.1 z)
      rw [if_pos (by omega), if_pos (by omega), impl_PutBits_at _ (by simp; omega) k (by simp; omega), Option.bind_some, if_neg q]
      simp only
      rw [if_pos (by omega), Option.bind_some, impl_PutBits_at _ (by omega) k (by omega), Option.bind_some, if_pos (by rw [List.length_append]; omega), Option.bind_some, if_pos (by rw [List.length_append, List.length_append]; omega)]
      simp
  · rw [if_neg h, if_neg h]
theorem and255 (x : Int) : 0 ≤ Go.bits .and .i64 x 255 ∧ Go.bits .and .i64 x 255 ≤ 255 := by
  have h : ∃ n : Nat, n ≤ 255 ∧ Go.bits .and .i64 x 255 = IntKind.i64.wrap (n : Int) := by
    refine ⟨(BitVec.ofInt 64 x).toNat &&& 255, Nat.and_le_right, ?_⟩
    simp only [Go.bits, BitVec.toNat_and]
    rfl
  obtain ⟨n, h1, h2⟩ := h
  rw [h2, IntKind.wrap_i64]
  omega
theorem l01New_l (b : List Int) (hb : b.length ≤ 10000000) : ∀ (d n k : Nat) (h : Int), n + d = b.length → d < k → ∃ h', spec_l01New.l0 k b h (n : Int) = some (b, 0, h') := by
  intro d
  induction d with
  | zero =>
    intro n k h hd hk
    obtain ⟨k, rfl⟩ : ∃ m, k = m + 1 := ⟨k - 1, by omega⟩
    exact ⟨h, by rw [spec_l01New.l0, if_neg (by omega)]⟩
  | succ d ih =>
    intro n k h hd hk
    obtain ⟨k, rfl⟩ : ∃ m, k = m + 1 := ⟨k - 1, by omega⟩
    by_cases q : (n : Int) < 4000
    · have e : wrap64 ((n : Int) + 1) = ((n + 1 : Nat) : Int) := by unfold wrap64; omega
      obtain ⟨h', hh⟩ := ih (n + 1) k (Go.bits .and .i64 (wrap64 ((wrap64 ((wrap64 (h * 31)) + (wrap64 (rd b (n : Int))))) + 7)) 1073741823) (by omega) (by omega)
      exact ⟨h', by rw [spec_l01New.l0, if_pos (by omega), if_pos q, if_pos (by omega), e]; exact hh⟩
    · exact ⟨h, by rw [spec_l01New.l0, if_pos (by omega), if_neg q]⟩
theorem l01New_at (b : List Int) (hb : b.length ≤ 10000000) (k : Nat) (hk : b.length < k) : ∃ h, spec_l01New.f k b = some (b, 0, h) := by
  unfold spec_l01New.f
  exact l01New_l b hb b.length 0 k _ (by omega) hk
theorem l01Byte_at (b : List Int) (i h : Int) (hb : b.length ≤ 10000000) (h0 : 0 ≤ i) (h1 : i ≤ (b.length : Int)) : ∃ r i' h', spec_l01Byte.f b i h = some (r, i', h') ∧ 0 ≤ r ∧ r ≤ 255 ∧ 0 ≤ i' ∧ i' ≤ (b.length : Int) := by
  unfold spec_l01Byte.f
  by_cases q : i < (b.length : Int)
  · rw [if_pos q, if_pos h0]
    have e : wrap64 (i + 1) = i + 1 := by unfold wrap64; omega
    exact ⟨_, _, _, rfl, (and255 _).1, (and255 _).2, by rw [e]; omega, by rw [e]; omega⟩
  · rw [if_neg q]
    exact ⟨_, _, _, rfl, (and255 _).1, (and255 _).2, h0, h1⟩
theorem l01Below_at (b : List Int) (i h n : Int) (hb : b.length ≤ 10000000) (h0 : 0 ≤ i) (h1 : i ≤ (b.length : Int)) (n0 : 0 < n) (n1 : n ≤ 256) : ∃ r i' h', spec_l01Below.f b i h n = some (r, i', h') ∧ 0 ≤ r ∧ r < n ∧ 0 ≤ i' ∧ i' ≤ (b.length : Int) := by
  obtain ⟨r, i', h', e, r0, r1, q0, q1⟩ := l01Byte_at b i h hb h0 h1
  unfold spec_l01Below.f
  rw [if_neg (by omega), if_pos n1, e, Option.bind_some, if_neg (by omega)]
  exact ⟨_, _, _, rfl, Int.tmod_nonneg _ r0, Int.tmod_lt_of_pos _ n0, q0, q1⟩
theorem l01Str_at (b : List Int) (i h : Int) (l : List ByteArray) (hb : b.length ≤ 10000000) (h0 : 0 ≤ i) (h1 : i ≤ (b.length : Int)) (n0 : 0 < l.length) (n1 : l.length ≤ 256) : ∃ s i' h', spec_l01Str.f b i h l = some (s, i', h') ∧ s ∈ l ∧ 0 ≤ i' ∧ i' ≤ (b.length : Int) := by
  obtain ⟨r, i', h', e, r0, r1, q0, q1⟩ := l01Below_at b i h (l.length : Int) hb h0 h1 (by omega) (by omega)
  unfold spec_l01Str.f
  rw [e, Option.bind_some, if_pos r0, if_pos r1]
  refine ⟨_, _, _, rfl, ?_, q0, q1⟩
  obtain ⟨n, rfl⟩ := Int.eq_ofNat_of_zero_le r0
  have hn : n < l.length := by omega
  unfold rdOf
  simp [List.getD, hn]
theorem l01Once_at (b : List Int) (i h n : Int) (hb : b.length ≤ 10000000) (h0 : 0 ≤ i) (h1 : i ≤ (b.length : Int)) (n0 : 0 < n) (n1 : n ≤ 256) : ∃ r i' h', spec_l01Once.f b i h n = some (r, i', h') ∧ 0 ≤ i' ∧ i' ≤ (b.length : Int) := by
  obtain ⟨r, i', h', e, r0, r1, q0, q1⟩ := l01Below_at b i h n hb h0 h1 n0 n1
  unfold spec_l01Once.f
  rw [e, Option.bind_some]
  exact ⟨_, _, _, rfl, q0, q1⟩
theorem l03Text_l (b : List Int) (hb : b.length ≤ 10000000) (N : Nat) (hN : N ≤ 1000) (t : Int) : ∀ (d k : Nat) (s : ByteArray) (i h : Int), s.size + d = N → 0 ≤ i → i ≤ (b.length : Int) → ((t = 1 ∨ t = 3) → (bytesOf s).all isDig = true) → (¬ (t = 1 ∨ t = 3) → (bytesOf s).all isPri = true) → 2 * d < k →
    ∃ s' i' h', spec_l03Text.l0 k (N : Int) t s b i h = some (s', i', h') ∧ s'.size = N ∧ ((t = 1 ∨ t = 3) → (bytesOf s').all isDig = true) ∧ (¬ (t = 1 ∨ t = 3) → (bytesOf s').all isPri = true) ∧ 0 ≤ i' ∧ i' ≤ (b.length : Int) := by
  intro d
  induction d with
  | zero =>
    intro k s i h hd h0 h1 hp1 hp2 hk
    obtain ⟨k, rfl⟩ : ∃ m, k = m + 1 := ⟨k - 1, by omega⟩
    rw [spec_l03Text.l0, if_neg (by omega)]
    exact ⟨s, i, h, rfl, by omega, hp1, hp2, h0, h1⟩
  | succ d ih =>
    intro k s i h hd h0 h1 hp1 hp2 hk
    obtain ⟨k, rfl⟩ : ∃ m, k = m + 2 := ⟨k - 2, by omega⟩
    have hgo : ∀ q : Bool, q = decide (t = 1 ∨ t = 3) → ∃ s' i' h', spec_l03Text.j2 (k + 1) (N : Int) t s q b i h = some (s', i', h') ∧ s'.size = N ∧ ((t = 1 ∨ t = 3) → (bytesOf s').all isDig = true) ∧ (¬ (t = 1 ∨ t = 3) → (bytesOf s').all isPri = true) ∧ 0 ≤ i' ∧ i' ≤ (b.length : Int) := by
      intro q hq
      subst hq
      by_cases z : t = 1 ∨ t = 3
      · obtain ⟨r, i', h', e, r0, r1, q0, q1⟩ := l01Below_at b i h 10 hb h0 h1 (by omega) (by omega)
        have e48 : wrap64 (48 + r) % 256 = 48 + r := by unfold wrap64; omega
        rw [spec_l03Text.j2, if_pos (decide_eq_true z), e, Option.bind_some, Option.bind_some]
        simp only
        rw [e48, strOfNums_size, if_pos (by simp; omega)]
        refine ih k _ i' h' (by rw [ByteArray.size_append, strOfNums_size]; simp; omega) q0 q1 (fun _ => ?_) (fun z' => absurd z z') (by omega)
        rw [bytesOf_append, List.all_append, hp1 z, bytesOf_strOfNums [48 + r] (fun c hc => by rw [List.mem_singleton.1 hc]; unfold isByte; omega)]
        unfold isDig
        simp; omega
      · obtain ⟨u, i', h', e, hu, q0, q1⟩ := l01Str_at b i h [(⟨#[97]⟩ : ByteArray), (⟨#[98]⟩ : ByteArray), (⟨#[55]⟩ : ByteArray), (⟨#[32]⟩ : ByteArray), (⟨#[126]⟩ : ByteArray)] hb h0 h1 (by decide) (by decide)
        have hu1 : u.size = 1 ∧ (bytesOf u).all isPri = true := by
          simp only [List.mem_cons, List.not_mem_nil, or_false] at hu
          rcases hu with rfl | rfl | rfl | rfl | rfl <;> exact ⟨rfl, rfl⟩
        rw [spec_l03Text.j2, if_neg (by simpa using z), e, Option.bind_some]
        simp only
        rw [if_pos (by omega)]
        refine ih k _ i' h' (by rw [ByteArray.size_append]; omega) q0 q1 (fun z' => absurd z' z) (fun _ => ?_) (by omega)
        rw [bytesOf_append, List.all_append, hp2 z, hu1.2]
        rfl
    rw [spec_l03Text.l0, if_pos (by omega)]
    by_cases z1 : t = 1
    · rw [if_pos z1]; exact hgo true (by simp [z1])
    · rw [if_neg z1]
      refine hgo _ ?_
      by_cases z3 : t = 3 <;> simp [z1, z3]
theorem l03Text_at (b : List Int) (i h x : Int) (hb : b.length ≤ 10000000) (h0 : 0 ≤ i) (h1 : i ≤ (b.length : Int)) (hx : ¬ kindOf x = 0) (k : Nat) (hk : 300 < k) : ∃ s i' h', spec_l03Text.f k b i h x = some (s, i', h') ∧ fieldOk x (bytesOf s) = true ∧ s.size ≤ 60 ∧ 0 ≤ i' ∧ i' ≤ (b.length : Int) := by
  have s0 := sizeOf_range x
  have s1 := size_pos x hx
  have kr := kind_range x
  obtain ⟨k, rfl⟩ : ∃ m, k = m + 1 := ⟨k - 1, by omega⟩
  have hgo : ∀ (N : Nat) (i h : Int), 1 ≤ N → (N : Int) ≤ sizeOf_ x → ((kindOf x = 1 ∨ kindOf x = 2) → (N : Int) = sizeOf_ x) → 0 ≤ i → i ≤ (b.length : Int) →
      ∃ s i' h', spec_l03Text.j0 (k + 1) (N : Int) (kindOf x) b i h = some (s, i', h') ∧ fieldOk x (bytesOf s) = true ∧ s.size ≤ 60 ∧ 0 ≤ i' ∧ i' ≤ (b.length : Int) := by
    intro N i h hN1 hN2 hN3 h0 h1
    obtain ⟨s, i', h', e, hz, p1, p2, q0, q1⟩ := l03Text_l b hb N (by omega) (kindOf x) N k ⟨#[]⟩ i h (by have : (⟨#[]⟩ : ByteArray).size = 0 := rfl; omega) h0 h1 (fun _ => rfl) (fun _ => rfl) (by omega)
    rw [spec_l03Text.j0]
    refine ⟨s, i', h', e, ?_, by omega, q0, q1⟩
    have hlen : ((bytesOf s).length : Int) = N := by rw [bytesOf_length, hz]
    have hne : digs (bytesOf s) = (bytesOf s).all isDig := by
      unfold digs
      have : (bytesOf s).isEmpty = false := by
        cases hh : bytesOf s with
        | nil => rw [hh] at hlen; simp at hlen; omega
        | cons a t => rfl
      rw [this]; simp
    unfold fieldOk
    rw [hlen, hne]
    by_cases z1 : kindOf x = 1
    · rw [if_pos z1, p1 (.inl z1), hN3 (.inl z1)]; simp
    rw [if_neg z1]
    by_cases z2 : kindOf x = 2
    · rw [if_pos z2, p2 (by omega), hN3 (.inr z2)]; simp
    rw [if_neg z2]
    by_cases z3 : kindOf x = 3
    · rw [if_pos z3, p1 (.inr z3)]; simp; omega
    rw [if_neg z3, if_pos (by omega), p2 (by omega)]
    simp; omega
  unfold spec_l03Text.f
  rw [spec_FieldSize_at x _ (by omega), Option.bind_some, spec_FieldKind_at x _ (by omega), Option.bind_some, spec_l03Width_at _ _ (by omega), Option.bind_some]
  by_cases z : kindOf x = 3 ∨ kindOf x = 4 ∨ kindOf x = 5
  · have hpos : (if kindOf x = 3 ∨ kindOf x = 4 then (2 : Int) else if kindOf x = 5 then 3 else 0) > 0 := by
      by_cases z5 : kindOf x = 5
      · rw [if_neg (by omega), if_pos z5]; omega
      · rw [if_pos (by omega)]; omega
    obtain ⟨r, i', h', e, r0, r1, q0, q1⟩ := l01Below_at b i h (sizeOf_ x) hb h0 h1 (by omega) (by omega)
    obtain ⟨n, rfl⟩ := Int.eq_ofNat_of_zero_le r0
    have ew : wrap64 (1 + (n : Int)) = ((n + 1 : Nat) : Int) := by unfold wrap64; omega
    rw [if_pos hpos, e, Option.bind_some]
    simp only
    rw [ew]
    exact hgo (n + 1) i' h' (by omega) (by omega) (by omega) q0 q1
  · rw [if_neg (by omega)]
    obtain ⟨n, hn⟩ := Int.eq_ofNat_of_zero_le s0.1
    rw [hn]
    rw [hn] at s0 s1 hgo
    exact hgo n i h (by omega) (by omega) (fun _ => rfl) h0 h1
def nosL : List Int := [2, 3, 4, 7, 11, 14, 37, 38, 39, 41, 48, 49, 54, 95, 102, 103]
theorem spec_FieldNos_at (k : Nat) (hk : 150 ≤ k) : spec_FieldNos.f k = some nosL :=
  later (g := fun k => spec_FieldNos.f k) (fun k => spec_FieldNos.mono k) (k0 := 150) (by decide +kernel) k hk
theorem nosL_sorted : nosL.Pairwise (fun a b => a < b) := by unfold nosL; decide
theorem nosL_kind : ∀ c ∈ nosL, ¬ kindOf c = 0 := by unfold nosL; decide
theorem okFrom_snoc : ∀ (y : List IF) (p : Option Int) (f : IF), okFrom p y = true → fieldOk f.f0 (bytesOf f.f1) = true → (∀ q, p = some q → q < f.f0) → (∀ g ∈ y, g.f0 < f.f0) → okFrom p (y ++ [f]) = true := by
  intro y
  induction y with
  | nil =>
    intro p f _ h2 h3 _
    rw [List.nil_append, okFrom_cons, h2]
    cases p with
    | none => rfl
    | some q => simp [h3 q rfl, okFrom]
  | cons g t ih =>
    intro p f h1 h2 h3 h4
    rw [okFrom_cons] at h1
    simp only [Bool.and_eq_true] at h1
    rw [List.cons_append, okFrom_cons, ih (some g.f0) f h1.2 h2 (fun q hq => by cases hq; exact h4 g List.mem_cons_self) (fun u hu => h4 u (List.mem_cons_of_mem _ hu))]
    simp only [Bool.and_true, Bool.and_eq_true]
    exact h1.1
theorem l04Draw_l (b : List Int) (hb : b.length ≤ 10000000) (m : ByteArray) (nos : List Int) (hn : nos.length ≤ 1000) (hs : nos.Pairwise (fun a b => a < b)) (hk0 : ∀ c ∈ nos, ¬ kindOf c = 0) : ∀ (d n k : Nat) (y : List IF) (i h : Int), n + d = nos.length → y.length ≤ n → okFrom none y = true → (∀ f ∈ y, f.f1.size ≤ 60 ∧ ∀ c ∈ nos.drop n, f.f0 < c) → 0 ≤ i → i ≤ (b.length : Int) → d + 400 < k →
    ∃ z i' h', spec_l04Draw.l0 k nos (nos.length : Int) (n : Int) b i h m y = some (m, z, i', h') ∧ okFrom none z = true ∧ z.length ≤ nos.length ∧ (∀ f ∈ z, f.f1.size ≤ 60) ∧ 0 ≤ i' ∧ i' ≤ (b.length : Int) := by
  intro d
  induction d with
  | zero =>
    intro n k y i h hd hy h1 h2 h3 h4 hk
    obtain ⟨k, rfl⟩ : ∃ m, k = m + 1 := ⟨k - 1, by omega⟩
    rw [spec_l04Draw.l0, if_neg (by omega)]
    exact ⟨y, i, h, rfl, h1, by omega, fun f hf => (h2 f hf).1, h3, h4⟩
  | succ d ih =>
    intro n k y i h hd hy h1 h2 h3 h4 hk
    obtain ⟨k, rfl⟩ : ∃ m, k = m + 1 := ⟨k - 1, by omega⟩
    have hlt : n < nos.length := by omega
    have hdr := drop_rd nos n hlt
    have hmem := rd_mem nos n hlt
    have hsd : (nos.drop n).Pairwise (fun a b => a < b) := hs.sublist (List.drop_sublist _ _)
    rw [hdr] at hsd
    have hhead := (List.pairwise_cons.1 hsd).1
    have ew : wrap64 ((n : Int) + 1) = ((n + 1 : Nat) : Int) := by unfold wrap64; omega
    obtain ⟨r, i', h', e, q0, q1⟩ := l01Once_at b i h 3 hb h3 h4 (by omega) (by omega)
    rw [spec_l04Draw.l0, if_pos (by omega), if_pos (by omega), if_pos (by omega), e, Option.bind_some]
    simp only
    rw [ew]
    cases r with
    | true =>
      obtain ⟨s, i2, h2', e2, f1, f2, f3, f4⟩ := l03Text_at b i' h' (rd nos (n : Int)) hb q0 q1 (hk0 _ hmem) k (by omega)
      rw [if_pos rfl, e2, Option.bind_some]
      simp only
      rw [if_pos (by omega)]
      refine ih (n + 1) k _ i2 h2' (by omega) (by simp; omega) (okFrom_snoc y none ⟨rd nos (n : Int), s⟩ h1 f1 (fun q hq => by cases hq) (fun g hg => (h2 g hg).2 _ (by rw [hdr]; exact List.mem_cons_self))) (fun f hf => ?_) f3 f4 (by omega)
      rcases List.mem_append.1 hf with hf | hf
      · exact ⟨(h2 f hf).1, fun c hc => (h2 f hf).2 c (by rw [hdr]; exact List.mem_cons_of_mem _ hc)⟩
      · rw [List.mem_singleton.1 hf]
        exact ⟨f2, fun c hc => hhead c hc⟩
    | false =>
      rw [if_neg (by simp)]
      exact ih (n + 1) k y i' h' (by omega) (by omega) h1 (fun f hf => ⟨(h2 f hf).1, fun c hc => (h2 f hf).2 c (by rw [hdr]; exact List.mem_cons_of_mem _ hc)⟩) q0 q1 (by omega)
theorem l04Draw_at (b : List Int) (i h : Int) (hb : b.length ≤ 10000000) (h0 : 0 ≤ i) (h1 : i ≤ (b.length : Int)) (k : Nat) (hk : 500 < k) : ∃ m z i' h', spec_l04Draw.f k b i h = some (m, z, i', h') ∧ msgOk m z = true ∧ m.size = 4 ∧ z.length ≤ 16 ∧ (∀ f ∈ z, f.f1.size ≤ 60) ∧ 0 ≤ i' ∧ i' ≤ (b.length : Int) := by
  unfold spec_l04Draw.f
  obtain ⟨m, i', h', e, hm, q0, q1⟩ := l01Str_at b i h [(⟨#[48, 49, 48, 48]⟩ : ByteArray), (⟨#[48, 50, 48, 48]⟩ : ByteArray), (⟨#[48, 50, 50, 48]⟩ : ByteArray), (⟨#[48, 49, 49, 48]⟩ : ByteArray), (⟨#[48, 56, 48, 48]⟩ : ByteArray), (⟨#[49, 50, 51, 52]⟩ : ByteArray), (⟨#[48, 48, 48, 48]⟩ : ByteArray)] hb h0 h1 (by decide) (by decide)
  have hm1 : isMti m = true ∧ m.size = 4 := by
    simp only [List.mem_cons, List.not_mem_nil, or_false] at hm
    rcases hm with rfl | rfl | rfl | rfl | rfl | rfl | rfl <;> exact ⟨rfl, rfl⟩
  rw [e, Option.bind_some, spec_FieldNos_at k (by omega), Option.bind_some]
  simp only
  obtain ⟨z, i2, h2, e2, f1, f2, f3, f4, f5⟩ := l04Draw_l b hb m nosL (by decide) nosL_sorted nosL_kind nosL.length 0 k [] i' h' (by simp) (by simp) rfl (fun f hf => by cases hf) q0 q1 (by have : nosL.length = 16 := rfl; omega)
  exact ⟨m, z, i2, h2, e2, by unfold msgOk; rw [hm1.1, f1]; rfl, hm1.2, f2, f3, f4, f5⟩
theorem MakeMsg_at (b : List Int) (hb : b.length ≤ 10000000) (k : Nat) (hk : b.length + 500 < k) : ∃ m z, (∀ j, k ≤ j → spec_MakeMsg.f j b = some (m, z)) ∧ msgOk m z = true ∧ m.size = 4 ∧ z.length ≤ 16 ∧ (∀ f ∈ z, f.f1.size ≤ 60) := by
  obtain ⟨h, e⟩ := l01New_at b hb k (by omega)
  obtain ⟨m, z, i', h', e2, f1, f2, f3, f4, _⟩ := l04Draw_at b 0 h hb (by omega) (by omega) k (by omega)
  refine ⟨m, z, fun j hj => ?_, f1, f2, f3, f4⟩
  have h1 : spec_MakeMsg.f k b = some (m, z) := by
    unfold spec_MakeMsg.f
    rw [e, Option.bind_some]
    simp only
    rw [e2, Option.bind_some]
  exact later (g := fun k => spec_MakeMsg.f k b) (fun k => spec_MakeMsg.mono b k) h1 j hj
theorem impl_Equal_l (l : List IF) (hl : l.length ≤ 10000000) : ∀ (d n k : Nat), n + d = l.length → d < k → impl_Field.l0 k l l (l.length : Int) (n : Int) = some true := by
  intro d
  induction d with
  | zero =>
    intro n k hd hk
    obtain ⟨k, rfl⟩ : ∃ m, k = m + 1 := ⟨k - 1, by omega⟩
    rw [impl_Field.l0, if_neg (by omega)]
  | succ d ih =>
    intro n k hd hk
    obtain ⟨k, rfl⟩ : ∃ m, k = m + 1 := ⟨k - 1, by omega⟩
    rw [impl_Field.l0, if_pos (by omega), if_pos (by omega), if_pos (by omega), if_pos (by omega), if_neg (by simp), w64s (by omega)]
    exact ih (n + 1) k (by omega) (by omega)
theorem impl_MsgSame_self (m : ByteArray) (l : List IF) (hl : l.length ≤ 10000000) (k : Nat) (hk : l.length < k) : impl_MsgSame.f k m l m l = some true := by
  unfold impl_MsgSame.f impl_Field.f
  rw [if_pos rfl, if_pos rfl]
  have h := impl_Equal_l l hl l.length 0 k (by omega) hk
  rw [show ((0 : Nat) : Int) = 0 from rfl] at h
  rw [h]
  rfl
theorem FnParse : ∀ (l0 : List Int), l0.length ≤ maxLen → l0.length * 1 ≤ 140737488351232 → (∀ x ∈ l0, (Lit.int .u8 x).wf = true) → ∃ k, laws_FnParse.f k l0 = some true := by
  intro b _ _ _
  by_cases hb : (b.length : Int) > 1048576
  · exact ⟨0, by unfold laws_FnParse.f; rw [if_pos hb]⟩
  obtain ⟨K, hK⟩ : ∃ K : Nat, b.length + 100000000 ≤ K := ⟨_, Nat.le_refl _⟩
  refine ⟨K, ?_⟩
  obtain ⟨m, l, e1, m1, m2, m3, m4⟩ := MakeMsg_at b (by omega) K (by omega)
  have e1 := e1 K (Nat.le_refl _)
  have h1 := impl_Encode_at m l (by omega) (by omega) (fun f hf => Nat.le_trans (m4 f hf) (by omega)) K (by omega)
  have hby := encode_bytes m l
  have hle := encode_len m l m1
  have p1 := parse_encode m l m1 []
  have p2 := parse_encode m l m1 [0]
  have ht : (encode m l).2 = true := by unfold encode; rw [if_pos m1]
  generalize encode m l = v at h1 hby hle p1 p2 ht
  obtain ⟨v1, v2⟩ := v
  simp only at hby hle ht p1 p2
  subst ht
  rw [if_pos trivial, List.append_nil] at p1
  rw [if_neg (by simp)] at p2
  have h2 := impl_Parse_at v1 (by omega) hby K (by omega)
  have h3 := impl_Parse_at (v1 ++ [0]) (by simp; omega) (fun c hc => by
    rcases List.mem_append.1 hc with hc | hc
    · exact hby c hc
    · rw [List.mem_singleton.1 hc]; exact ⟨by decide, by decide⟩) K (by omega)
  rw [p1] at h2
  rw [p2] at h3
  have h4 := impl_MsgSame_self m l (by omega) K (by omega)
  unfold laws_FnParse.f
  rw [if_neg hb, e1, Option.bind_some]
  simp only
  rw [h1, Option.bind_some]
  simp only
  rw [h2, Option.bind_some]
  simp only
  rw [if_pos trivial, if_pos trivial, h4, Option.bind_some, if_pos rfl, Option.bind_some, List.nil_append, if_pos (by simp; omega), Option.bind_some, if_pos (by omega), h3, Option.bind_some]
  rfl
end Go.Proofs.YtfiieppnpmodoaaDoor.Q
end
section
/- The start that fits a row that lists the three tables and the two sentinels of strconv, and what the rows' list gives the walks: for rows of tied cards. -/
namespace Go.Proofs.YtfiieppnpmodoaaDoor.Laid
open Go.ChangeShapes Go.WideShapes Go.ChangeAt Go.RowKit
def valsOf (d : DataW Unit) : Array Value := match d with
  | .agg l => (l.map fun | .lit (.int k z) => Value.int k z | _ => .bool false).toArray
  | _ => #[]
def put (d : DataW Unit) : Obj → Obj
  | .cells _ t frozen => .cells (valsOf d) t frozen
  | o => o
def point (b : Nat) : Obj → Obj
  | .cells _ t frozen => .cells #[.iface 151 (.pointer (some ⟨b, 0, none⟩))] t frozen
  | o => o
abbrev synS : ByteArray := { data := #[105, 110, 118, 97, 108, 105, 100, 32, 115, 121, 110, 116, 97, 120] }
abbrev rngS : ByteArray := { data := #[118, 97, 108, 117, 101, 32, 111, 117, 116, 32, 111, 102, 32, 114, 97, 110, 103, 101] }
/-- So many blocks has the settled world. -/
noncomputable def low : Nat := (World.holding Tryd.prog default ⟨#[], #[], []⟩).heap.size
/-- The settled world with the three tables laid, and two blocks more for the sentinels. -/
noncomputable def world (os : Os) : World :=
  let w0 := World.holding Tryd.prog os ⟨#[.cells #[.string synS] 153, .cells #[.string rngS] 153], #[], []⟩
  { w0 with heap := ((((w0.heap.modify 3 (put Rows.laid_internal_strconv_uint64pow10)).modify 4 (put Rows.laid_math_bits_deBruijn32tab)).modify 5 (put Rows.laid_math_bits_deBruijn64tab)).modify 1 (point low)).modify 2 (point (low + 1)) }
abbrev list5 : List (String × DataW Unit) := [("math/bits.deBruijn32tab", Rows.laid_math_bits_deBruijn32tab), ("math/bits.deBruijn64tab", Rows.laid_math_bits_deBruijn64tab), ("internal/strconv.uint64pow10", Rows.laid_internal_strconv_uint64pow10), ("strconv.ErrRange", Rows.laid_strconv_ErrRange), ("strconv.ErrSyntax", Rows.laid_strconv_ErrSyntax)]
set_option maxRecDepth 100000 in
theorem met (os : Os) (args : Array Value) : laidMet Tryd.prog list5 ((world os).forCall (fun _ _ => 0) ⟨#[], args, []⟩).memory :=
  laidMet_of_run' 100 (by kernel_rfl) (by kernel_rfl)
theorem gPowType : (Tryd.prog.globals[3]?).map (·.type) = some 147 := by kernel_rfl
theorem gl {W : World} (h : laidMet Tryd.prog list5 W) : Q.GLW W :=
  Lib.tabIs_of_head Q.gPow gPowType Tryd.underlying147 Tryd.underlying120 (by kernel_rfl) (by kernel_rfl) (show laidMet Tryd.prog (("internal/strconv.uint64pow10", Lib.tabData .u64 Lib.pow10Tab) :: _) W from h.tail.tail)
end Go.Proofs.YtfiieppnpmodoaaDoor.Laid
end
