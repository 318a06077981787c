/- Texts for FnWith, packed by a program of this session (wip/pack.py), part 4 of 5: the print's words that are used, the printed walks, the plain laws, the row; no condition. -/
import Derived.Test.YtdcbpnhbbglbhaaMgFnWith3
section
namespace Go.Proofs.Ytdcbpnhbbglbhaa.Q
open Go.RowKit Go.Proofs.YtdcbpnhbbglbhaaW.PrintWords Go.Proofs.YtdcbpnhbbglbhaaW.PrintLast Go.Proofs.YtdcbpnhbbglbhaaW.PrintMore
attribute [local go_sem] max2_int min2_int max_two min_two max_three min_three max_four min_four
set_option linter.unusedVariables false
set_option linter.unusedSimpArgs false
mutual
def spec_WithField.j0 : Nat → Int → ByteArray → Bool → ByteArray → List (S58) → Option (ByteArray × (List (S58)) × Bool)
 | 0, _, _, _, _, _ => none
 | k + 1, x1, x2, x20, x332000, x332001 => if x20 = true then (some ((⟨#[]⟩ : ByteArray), ([] : List (S58)), false)) else (spec_WithField.l0 k x1 x2 false x332001 (x332001.length : Int) 0 x332000 ([] : List (S58)))
def spec_WithField.l0 : Nat → Int → ByteArray → Bool → List (S58) → Int → Int → ByteArray → List (S58) → Option (ByteArray × (List (S58)) × Bool)
 | 0, _, _, _, _, _, _, _, _ => none
 | k + 1, x1, x2, x9, x26, x27, x28, x336000, x336001 => if x28 < x27 then (if 0 ≤ x28 then (if x28 < (x26.length : Int) then (if x9 = true then (spec_WithField.j2 k x1 x2 x9 x26 x27 x28 false x336000 x336001 ((rd_T58 x26 x28).f0) ((rd_T58 x26 x28).f1)) else (spec_WithField.j2 k x1 x2 x9 x26 x27 x28 (decide (((rd_T58 x26 x28).f0) ≥ x1)) x336000 x336001 ((rd_T58 x26 x28).f0) ((rd_T58 x26 x28).f1))) else (none)) else (none)) else (if x9 = true then (some (x336000, x336001, true)) else (if x336001.length < 5864062014805 then (some (x336000, (x336001 ++ [(⟨x1, x2⟩ : S58)]), true)) else (none)))
def spec_WithField.j2 : Nat → Int → ByteArray → Bool → List (S58) → Int → Int → Bool → ByteArray → List (S58) → Int → ByteArray → Option (ByteArray × (List (S58)) × Bool)
 | 0, _, _, _, _, _, _, _, _, _, _, _ => none
 | k + 1, x1, x2, x9, x26, x27, x28, x39, x336000, x336001, x341000, x341001 => if x39 = true then (if x336001.length < 5864062014805 then ((some (x336001 ++ [(⟨x1, x2⟩ : S58)] : List (S58))).bind fun y341 => (if x341000 = x1 then (spec_WithField.l0 k x1 x2 true x26 x27 (wrap64 (x28 + 1)) x336000 y341) else (if y341.length < 5864062014805 then (spec_WithField.l0 k x1 x2 true x26 x27 (wrap64 (x28 + 1)) x336000 (y341 ++ [(⟨x341000, x341001⟩ : S58)])) else (none)))) else (none)) else (if x341000 = x1 then (spec_WithField.l0 k x1 x2 x9 x26 x27 (wrap64 (x28 + 1)) x336000 x336001) else (if x336001.length < 5864062014805 then (spec_WithField.l0 k x1 x2 x9 x26 x27 (wrap64 (x28 + 1)) x336000 (x336001 ++ [(⟨x341000, x341001⟩ : S58)])) else (none)))
end
def spec_WithField.f (k : Nat) (a0_0 : ByteArray) (l0_1 : List (S58)) (a1 : Int) (a2 : ByteArray) : Option (ByteArray × (List (S58)) × Bool) := (spec_MsgOk.f k a0_0 l0_1).bind fun t333 => (if t333 = true then ((spec_FieldOk.f k a1 a2).bind fun t334 => (spec_WithField.j0 k a1 a2 (!t334) a0_0 l0_1)) else (spec_WithField.j0 k a1 a2 true a0_0 l0_1))
theorem spec_WithField.mono_l : ∀ k, (∀ y0 y1 y2 y3 y4, LeO (spec_WithField.j0 k y0 y1 y2 y3 y4) (spec_WithField.j0 (k + 1) y0 y1 y2 y3 y4)) ∧ (∀ y0 y1 y2 y3 y4 y5 y6 y7, LeO (spec_WithField.l0 k y0 y1 y2 y3 y4 y5 y6 y7) (spec_WithField.l0 (k + 1) y0 y1 y2 y3 y4 y5 y6 y7)) ∧ (∀ y0 y1 y2 y3 y4 y5 y6 y7 y8 y9 y10, LeO (spec_WithField.j2 k y0 y1 y2 y3 y4 y5 y6 y7 y8 y9 y10) (spec_WithField.j2 (k + 1) y0 y1 y2 y3 y4 y5 y6 y7 y8 y9 y10))
 | 0 => ⟨fun _ _ _ _ _ r h => by simp [spec_WithField.j0] at h, fun _ _ _ _ _ _ _ _ r h => by simp [spec_WithField.l0] at h, fun _ _ _ _ _ _ _ _ _ _ _ r h => by simp [spec_WithField.j2] at h⟩
 | k + 1 => by
  obtain ⟨ih0, ih1, ih2⟩ := spec_WithField.mono_l k
  refine ⟨?_, ?_, ?_⟩
  ·intro y0 y1 y2 y3 y4
   unfold spec_WithField.j0
   repeat' first
   | (with_reducible exact ih0 _ _ _ _ _)
   | (with_reducible exact ih1 _ _ _ _ _ _ _ _)
   | (with_reducible exact ih2 _ _ _ _ _ _ _ _ _ _ _)
   | (with_reducible exact spec_FieldOk.mono _ _ _)
   | (with_reducible exact spec_MsgOk.mono _ _ _)
   | (with_reducible exact LeO.refl _)
   | (with_reducible exact LeO.none _)
   | (with_reducible refine LeO.ite ?_ ?_)
   | (with_reducible refine LeO.bind ?_ (fun _ => ?_))
   | exact ih0 _ _ _ _ _
   | exact ih1 _ _ _ _ _ _ _ _
   | exact ih2 _ _ _ _ _ _ _ _ _ _ _
   | exact spec_FieldOk.mono _ _ _
   | exact spec_MsgOk.mono _ _ _
   | exact LeO.none _
   | refine LeO.ite ?_ ?_
   | refine LeO.bind ?_ (fun _ => ?_)
  ·intro y0 y1 y2 y3 y4 y5 y6 y7
   unfold spec_WithField.l0
   repeat' first
   | (with_reducible exact ih0 _ _ _ _ _)
   | (with_reducible exact ih1 _ _ _ _ _ _ _ _)
   | (with_reducible exact ih2 _ _ _ _ _ _ _ _ _ _ _)
   | (with_reducible exact spec_FieldOk.mono _ _ _)
   | (with_reducible exact spec_MsgOk.mono _ _ _)
   | (with_reducible exact LeO.refl _)
   | (with_reducible exact LeO.none _)
   | (with_reducible refine LeO.ite ?_ ?_)
   | (with_reducible refine LeO.bind ?_ (fun _ => ?_))
   | exact ih0 _ _ _ _ _
   | exact ih1 _ _ _ _ _ _ _ _
   | exact ih2 _ _ _ _ _ _ _ _ _ _ _
   | exact spec_FieldOk.mono _ _ _
   | exact spec_MsgOk.mono _ _ _
   | exact LeO.none _
   | refine LeO.ite ?_ ?_
   | refine LeO.bind ?_ (fun _ => ?_)
  ·intro y0 y1 y2 y3 y4 y5 y6 y7 y8 y9 y10
   unfold spec_WithField.j2
   repeat' first
   | (with_reducible exact ih0 _ _ _ _ _)
   | (with_reducible exact ih1 _ _ _ _ _ _ _ _)
   | (with_reducible exact ih2 _ _ _ _ _ _ _ _ _ _ _)
   | (with_reducible exact spec_FieldOk.mono _ _ _)
   | (with_reducible exact spec_MsgOk.mono _ _ _)
   | (with_reducible exact LeO.refl _)
   | (with_reducible exact LeO.none _)
   | (with_reducible refine LeO.ite ?_ ?_)
   | (with_reducible refine LeO.bind ?_ (fun _ => ?_))
   | exact ih0 _ _ _ _ _
   | exact ih1 _ _ _ _ _ _ _ _
   | exact ih2 _ _ _ _ _ _ _ _ _ _ _
   | exact spec_FieldOk.mono _ _ _
   | exact spec_MsgOk.mono _ _ _
   | exact LeO.none _
   | refine LeO.ite ?_ ?_
   | refine LeO.bind ?_ (fun _ => ?_)
theorem spec_WithField.mono : ∀ a0 a1 a2 a3 k, LeO (spec_WithField.f k a0 a1 a2 a3) (spec_WithField.f (k + 1) a0 a1 a2 a3) := by
 intro a0 a1 a2 a3 k
 obtain ⟨ih0, ih1, ih2⟩ := spec_WithField.mono_l k
 unfold spec_WithField.f
 repeat' first
   | (with_reducible exact ih0 _ _ _ _ _)
   | (with_reducible exact ih1 _ _ _ _ _ _ _ _)
   | (with_reducible exact ih2 _ _ _ _ _ _ _ _ _ _ _)
   | (with_reducible exact spec_FieldOk.mono _ _ _)
   | (with_reducible exact spec_MsgOk.mono _ _ _)
   | (with_reducible exact LeO.refl _)
   | (with_reducible exact LeO.none _)
   | (with_reducible refine LeO.ite ?_ ?_)
   | (with_reducible refine LeO.bind ?_ (fun _ => ?_))
   | exact ih0 _ _ _ _ _
   | exact ih1 _ _ _ _ _ _ _ _
   | exact ih2 _ _ _ _ _ _ _ _ _ _ _
   | exact spec_FieldOk.mono _ _ _
   | exact spec_MsgOk.mono _ _ _
   | exact LeO.none _
   | refine LeO.ite ?_ ?_
   | refine LeO.bind ?_ (fun _ => ?_)
set_option maxHeartbeats 8000000 in
set_option maxRecDepth 100000 in
theorem spec_WithField.calls (k : Nat) (a0_0 : ByteArray) (A0_1 : Option Addr) (c0_1 : Nat) (l0_1 : List (S58)) (a1 : Int) (a2 : ByteArray) (r1 : ByteArray) (r2 : List (S58)) (r3 : Bool) (w : World) (hr0_1 : Kd.C k58 w A0_1 l0_1.length l0_1) (hc0_1 : l0_1.length ≤ c0_1) (h : spec_WithField.f k a0_0 l0_1 a1 a2 = some (r1, r2, r3)) :
  Calls Try.prog 17 #[.agg #[.string a0_0, .slice A0_1 l0_1.length c0_1], .int .i64 a1, .string a2] w fun e w' => ∃ v1_ : Value, e = .returned (.tuple #[.agg #[.string r1, v1_], .bool r3]) ∧ Kd.R k58 58 w' w.heap.size (fun _ => True) v1_ r2 ∧ Below w.heap.size w w' := by
 have hu27 := Try.underlying27
 have hu58 := Try.underlying58
 have HR0_1 := Aside0.mk hr0_1
 have HC0_1 := Aside0.mk hc0_1
 clear hr0_1 hc0_1
 have HB := Aside0.mk (Below.refl w.heap.size w)
 have H : ((spec_MsgOk.f k a0_0 l0_1).bind fun t333 => (if t333 = true then ((spec_FieldOk.f k a1 a2).bind fun t334 => (spec_WithField.j0 k a1 a2 (!t334) a0_0 l0_1)) else (spec_WithField.j0 k a1 a2 true a0_0 l0_1))) = some (r1, r2, r3) := h
 clear h
 have HC4 := Aside0.mk H
 clear H
 go_enter Try.func17, Try.ntmps17
 go_upto_region 1 with (first | ((with_reducible refine gate_dst (N := 3) rfl ?_); refine box_event ?hg (N := 3) ?hd (cs := #[.string a0_0, .slice A0_1 l0_1.length c0_1]) (t := 27) ?hr ?_; (case hd => rfl); (case hg => rfl); (case hr => first | (go_simp; done) | (go_simp; rfl)); intro gb331 hg w5 hbox hb; have n0_ := Aside0.mk (below_step (by repeat (first | (with_reducible first | exact HB.out | apply below_alloc | apply pw_below_drewN | apply below_drew1) | exact HB.out)) hb); have n1_ := Aside0.mk (hbox); have n2_ := Aside0.mk ((by rw [hg]; exact (below_size (by repeat (first | (with_reducible first | exact HB.out | apply below_alloc | apply pw_below_drewN | apply below_drew1) | exact HB.out))) : w.heap.size ≤ gb331)); have n3_ := Aside0.mk ((by rw [hg]; exact (below_size (by repeat (first | (with_reducible first | exact HB.out | apply below_alloc | apply pw_below_drewN | apply below_drew1) | exact HB.out))) : w.heap.size ≤ gb331)); clear HB; have HB := n0_; have BK331 := n1_; have GW331 := n2_; have GE331 := n3_; clear n0_ n1_ n2_ n3_; clear hb hbox hg) | ((with_reducible refine gate_dst (N := 6) rfl ?_); refine box_event ?hg (N := 6) ?hd (cs := #[.string (⟨#[]⟩ : ByteArray), .slice none 0 0]) (t := 27) ?hr ?_; (case hd => rfl); (case hg => rfl); (case hr => first | (go_simp; done) | (go_simp; rfl)); intro gb332 hg w6 hbox hb; have n0_ := Aside0.mk (blk_below (g := gb331) (o := .cells #[.string a0_0, .slice A0_1 l0_1.length c0_1] 27 (0, 0)) (by (with_reducible repeat (first | refine blk_drewN ?_ _ | refine blk_drew ?_ | refine blk_alloc ?_ _)); exact BK331.out) hb); have n1_ := Aside0.mk (below_step (by repeat (first | (with_reducible first | exact HB.out | apply below_alloc | apply pw_below_drewN | apply below_drew1 | refine below_set ?_ GE331.out) | exact HB.out)) hb); have n2_ := Aside0.mk (hbox); have n3_ := Aside0.mk ((by rw [hg]; exact (below_size (by repeat (first | (with_reducible first | exact HB.out | apply below_alloc | apply pw_below_drewN | apply below_drew1 | refine below_set ?_ GE331.out) | exact HB.out))) : w.heap.size ≤ gb332)); have n4_ := Aside0.mk ((by rw [hg]; exact (below_size (by repeat (first | (with_reducible first | exact HB.out | apply below_alloc | apply pw_below_drewN | apply below_drew1 | refine below_set ?_ GE331.out) | exact HB.out))) : w.heap.size ≤ gb332)); have n5_ := Aside0.mk ((by rw [hg]; exact Nat.ne_of_lt (blk_lt (g := gb331) (o := .cells #[.string a0_0, .slice A0_1 l0_1.length c0_1] 27 (0, 0)) (by (with_reducible repeat (first | refine blk_drewN ?_ _ | refine blk_drew ?_ | refine blk_alloc ?_ _)); exact BK331.out)) : gb331 ≠ gb332)); have n6_ := Aside0.mk ((by rw [hg]; exact Nat.ne_of_gt (blk_lt (g := gb331) (o := .cells #[.string a0_0, .slice A0_1 l0_1.length c0_1] 27 (0, 0)) (by (with_reducible repeat (first | refine blk_drewN ?_ _ | refine blk_drew ?_ | refine blk_alloc ?_ _)); exact BK331.out)) : gb332 ≠ gb331)); clear BK331; clear HB; have BK331 := n0_; have HB := n1_; have BK332 := n2_; have GW332 := n3_; have GE332 := n4_; have NB331_332 := n5_; have NB332_331 := n6_; clear n0_ n1_ n2_ n3_ n4_ n5_ n6_; clear hb hbox hg))
 (try simp only [Act.put, List.setIfInBounds_toArray, List.set_cons_zero, List.set_cons_succ])
 go_cut [20] (fun v20 wc => ∃ (kq : Nat) (x20_3 : Bool), v20 = .bool x20_3 ∧ Aside0 (spec_WithField.j0 kq a1 a2 x20_3 a0_0 l0_1 = some (r1, r2, r3)) ∧ Aside0 (kq ≤ k) ∧ Aside0 (wc.heap[gb331]? = some (.cells #[.string a0_0, (.slice A0_1 l0_1.length c0_1)] 27 (0, 0))) ∧ Aside0 (wc.heap[gb332]? = some (.cells #[.string (⟨#[]⟩ : ByteArray), (.slice none 0 0)] 27 (0, 0))) ∧ Aside0 (Below w.heap.size w wc))
 case first =>
  have H := HC4.out
  clear HC4
  replace H := Option.bind_eq_some_iff.mp H
  obtain ⟨t333, A70, H⟩ := H
  replace H : (if t333 = true then ((spec_FieldOk.f k a1 a2).bind fun t334 => (spec_WithField.j0 k a1 a2 (!t334) a0_0 l0_1)) else (spec_WithField.j0 k a1 a2 true a0_0 l0_1)) = some (r1, r2, r3) := H
  have A7 := Aside0.mk A70
  clear A70
  by_cases c8 : t333 = true
  ·subst c8
   have H1 : ((spec_FieldOk.f k a1 a2).bind fun t334 => (spec_WithField.j0 k a1 a2 (!t334) a0_0 l0_1)) = some (r1, r2, r3) := by rw [if_pos rfl] at H; exact H
   clear H
   have H := H1
   clear H1
   replace H := Option.bind_eq_some_iff.mp H
   obtain ⟨t334, A90, H⟩ := H
   replace H : (spec_WithField.j0 k a1 a2 (!t334) a0_0 l0_1) = some (r1, r2, r3) := H
   have A9 := Aside0.mk A90
   clear A90
   have H' := Aside0.mk H
   clear H
   have hnb10 := NB331_332.out
   have hnc10 := NB332_331.out
   have hcz11_0 : w6.cell? ⟨gb331, 0, none⟩ = some (.string a0_0) := (blk_cell BK331.out 0).trans rfl
   have hcz11_1 : w6.cell? ⟨gb331, 1, none⟩ = some (.slice A0_1 l0_1.length c0_1) := (blk_cell BK331.out 1).trans rfl
   have hfz11_0 := blk_frozen BK331.out 0
   have hfz11_1 := blk_frozen BK331.out 1
   go_wp2_with (first | ((with_reducible refine gate_callee (f := 40) rfl ?_); refine goesL_ (some 13) rfl rfl Try.func40 (by kernel_rfl) rfl #[.agg #[.string a0_0, .slice A0_1 l0_1.length c0_1]] rfl (by (try simp only [List.map_toArray, List.map_cons, List.map_nil]); first | done | rfl | (simp only [List.length_drop, List.length_take]; rfl)) ?_; (with_reducible refine (spec_MsgOk.calls k a0_0 _ _ l0_1 true _ ?side1 ?side2 A7.out).mono ?_); (case side1 => repeat (first | exact (Kd.C_below HR0_1.out HB.out) | (with_reducible refine Kd.C_alloc ?_ _) | (with_reducible refine Kd.C_drewN ?_ _) | (with_reducible refine Kd.C_drew ?_))); (case side2 => exact HC0_1.out); rintro e w12 ⟨rfl, hb⟩; refine ⟨_, rfl, ?_⟩; have n0_ := Aside0.mk (blk_below (g := gb331) (o := .cells #[.string a0_0, .slice A0_1 l0_1.length c0_1] 27 (0, 0)) (by (with_reducible repeat (first | refine blk_drewN ?_ _ | refine blk_drew ?_ | refine blk_alloc ?_ _)); exact BK331.out) hb); have n1_ := Aside0.mk (blk_below (g := gb332) (o := .cells #[.string (⟨#[]⟩ : ByteArray), .slice none 0 0] 27 (0, 0)) (by (with_reducible repeat (first | refine blk_drewN ?_ _ | refine blk_drew ?_ | refine blk_alloc ?_ _)); exact BK332.out) hb); have n2_ := Aside0.mk (below_step (by repeat (first | (with_reducible first | exact HB.out | apply below_alloc | apply pw_below_drewN | apply below_drew1 | refine below_set ?_ GE331.out | refine below_set ?_ GE332.out) | exact HB.out)) hb); clear BK331; clear BK332; clear HB; have BK331 := n0_; have BK332 := n1_; have HB := n2_; clear n0_ n1_ n2_; (try clear hb); (try clear hb2); (try clear hk); (try clear hi)) | (go_at_call 26; (with_reducible refine (spec_FieldOk.calls k a1 a2 t334 _ A9.out).mono ?_); rintro e w' ⟨rfl, ⟨nd, rfl⟩⟩))
   go_meet
   case rel => exact ⟨_, (!t334), (by first | rfl | (simp; done) | (simp [*]; done) | (simp [i64_w, IntKind.wrap_u8, e256_]; done) | (simp; generalize ByteArray.toList _ = zz_; cases zz_ <;> rfl)), H', ⟨by first | omega | exact Nat.le_refl _⟩, ⟨by (with_reducible repeat (first | refine blk_drewN ?_ _ | refine blk_drew ?_ | refine blk_alloc ?_ _)); exact BK331.out⟩, ⟨by (with_reducible repeat (first | refine blk_drewN ?_ _ | refine blk_drew ?_ | refine blk_alloc ?_ _)); exact BK332.out⟩, ⟨by repeat (first | (with_reducible first | exact HB.out | apply below_alloc | apply pw_below_drewN | apply below_drew1 | refine below_set ?_ GE331.out | refine below_set ?_ GE332.out) | exact HB.out)⟩⟩
  ·replace c8 := Bool.eq_false_iff.mpr c8
   subst c8
   have H1 : (spec_WithField.j0 k a1 a2 true a0_0 l0_1) = some (r1, r2, r3) := by rw [if_neg (show ¬ (false = true) by decide)] at H; exact H
   clear H
   have H := H1
   clear H1
   have H' := Aside0.mk H
   clear H
   have hnb13 := NB331_332.out
   have hnc13 := NB332_331.out
   have hcz14_0 : w6.cell? ⟨gb331, 0, none⟩ = some (.string a0_0) := (blk_cell BK331.out 0).trans rfl
   have hcz14_1 : w6.cell? ⟨gb331, 1, none⟩ = some (.slice A0_1 l0_1.length c0_1) := (blk_cell BK331.out 1).trans rfl
   have hfz14_0 := blk_frozen BK331.out 0
   have hfz14_1 := blk_frozen BK331.out 1
   go_wp2_with (first | ((with_reducible refine gate_callee (f := 40) rfl ?_); refine goesL_ (some 13) rfl rfl Try.func40 (by kernel_rfl) rfl #[.agg #[.string a0_0, .slice A0_1 l0_1.length c0_1]] rfl (by (try simp only [List.map_toArray, List.map_cons, List.map_nil]); first | done | rfl | (simp only [List.length_drop, List.length_take]; rfl)) ?_; (with_reducible refine (spec_MsgOk.calls k a0_0 _ _ l0_1 false _ ?side1 ?side2 A7.out).mono ?_); (case side1 => repeat (first | exact (Kd.C_below HR0_1.out HB.out) | (with_reducible refine Kd.C_alloc ?_ _) | (with_reducible refine Kd.C_drewN ?_ _) | (with_reducible refine Kd.C_drew ?_))); (case side2 => exact HC0_1.out); rintro e w15 ⟨rfl, hb⟩; refine ⟨_, rfl, ?_⟩; have n0_ := Aside0.mk (blk_below (g := gb331) (o := .cells #[.string a0_0, .slice A0_1 l0_1.length c0_1] 27 (0, 0)) (by (with_reducible repeat (first | refine blk_drewN ?_ _ | refine blk_drew ?_ | refine blk_alloc ?_ _)); exact BK331.out) hb); have n1_ := Aside0.mk (blk_below (g := gb332) (o := .cells #[.string (⟨#[]⟩ : ByteArray), .slice none 0 0] 27 (0, 0)) (by (with_reducible repeat (first | refine blk_drewN ?_ _ | refine blk_drew ?_ | refine blk_alloc ?_ _)); exact BK332.out) hb); have n2_ := Aside0.mk (below_step (by repeat (first | (with_reducible first | exact HB.out | apply below_alloc | apply pw_below_drewN | apply below_drew1 | refine below_set ?_ GE331.out | refine below_set ?_ GE332.out) | exact HB.out)) hb); clear BK331; clear BK332; clear HB; have BK331 := n0_; have BK332 := n1_; have HB := n2_; clear n0_ n1_ n2_; (try clear hb); (try clear hb2); (try clear hk); (try clear hi)))
   go_meet
   case rel => exact ⟨_, (true), (by first | rfl | (simp; done) | (simp [*]; done) | (simp [i64_w, IntKind.wrap_u8, e256_]; done) | (simp; generalize ByteArray.toList _ = zz_; cases zz_ <;> rfl)), H', ⟨by first | omega | exact Nat.le_refl _⟩, ⟨by (with_reducible repeat (first | refine blk_drewN ?_ _ | refine blk_drew ?_ | refine blk_alloc ?_ _)); exact BK331.out⟩, ⟨by (with_reducible repeat (first | refine blk_drewN ?_ _ | refine blk_drew ?_ | refine blk_alloc ?_ _)); exact BK332.out⟩, ⟨by repeat (first | (with_reducible first | exact HB.out | apply below_alloc | apply pw_below_drewN | apply below_drew1 | refine below_set ?_ GE331.out | refine below_set ?_ GE332.out) | exact HB.out)⟩⟩
 case rest =>
  clear HC4
  try clear c1
  try clear p2
  try clear c4
  try clear p6
  try clear c8
  try clear c10
  try clear c13
  try clear hcz11_0
  try clear hcz11_1
  try clear hcz14_0
  try clear hcz14_1
  try clear hfz11_0
  try clear hfz11_1
  try clear hfz14_0
  try clear hfz14_1
  obtain ⟨kq, x20_3, rfl, HA, HJ3, BK331, BK332, HB⟩ := hcut
  cases kq with
  | zero => exact absurd HA.out (by simp [spec_WithField.j0])
  | succ kj3 =>
   have H := HA.out
   clear HA
   simp only [spec_WithField.j0] at H
   by_cases c16 : x20_3 = true
   ·subst c16
    have H1 : (some ((⟨#[]⟩ : ByteArray), ([] : List (S58)), false)) = some (r1, r2, r3) := by rw [if_pos rfl] at H; exact H
    clear H
    have H := H1
    clear H1
    simp only [Option.some.injEq, Prod.mk.injEq] at H
    obtain ⟨rfl, rfl, rfl⟩ := H
    have hnb17 := NB332_331.out
    have hnc17 := NB331_332.out
    have hcz18_0 : wc.cell? ⟨gb332, 0, none⟩ = some (.string (⟨#[]⟩ : ByteArray)) := (blk_cell BK332.out 0).trans rfl
    have hcz18_1 : wc.cell? ⟨gb332, 1, none⟩ = some (.slice none 0 0) := (blk_cell BK332.out 1).trans rfl
    have hfz18_0 := blk_frozen BK332.out 0
    have hfz18_1 := blk_frozen BK332.out 1
    go_wp2
    refine bodyPost_ret (results_ct rfl _ _ gb332 27 #[.string (⟨#[]⟩ : ByteArray), .slice none 0 0] (0, 0) _ rfl (by (with_reducible repeat (first | refine blk_drewN ?_ _ | refine blk_drew ?_ | refine blk_alloc ?_ _)); refine blk_put (cs := #[.string (⟨#[]⟩ : ByteArray), .slice none 0 0]) ?_ 1 _ rfl; (with_reducible repeat (first | refine blk_drewN ?_ _ | refine blk_drew ?_ | refine blk_alloc ?_ _)); refine blk_put (cs := #[.string (⟨#[]⟩ : ByteArray), .slice none 0 0]) ?_ 0 _ rfl; (with_reducible repeat (first | refine blk_drewN ?_ _ | refine blk_drew ?_ | refine blk_alloc ?_ _)); exact BK332.out) Try.underlying27 rfl (by kernel_rfl)) rfl ?_
    exact ⟨_, by first | rfl | (simp [errW_none, errW_some] <;> rfl) | (simp [*, errW_none, errW_some] <;> rfl), by first | exact Kd.R_nil _ _ _ _ _ | exact Kd.N_nil _ _ _ _ _ | exact Kd.V_nil _ _ _ _ _ | exact Kd.Q_nil _ _ _ _ _ | exact Kd.S_nil _ _ _ _ _, by repeat (first | (with_reducible first | exact HB.out | apply below_alloc | apply pw_below_drewN | apply below_drew1 | refine below_set ?_ GE331.out | refine below_set ?_ GE332.out) | exact HB.out)⟩
   ·replace c16 := Bool.eq_false_iff.mpr c16
    subst c16
    have H1 : (spec_WithField.l0 kj3 a1 a2 false l0_1 (l0_1.length : Int) 0 a0_0 ([] : List (S58))) = some (r1, r2, r3) := by rw [if_neg (show ¬ (false = true) by decide)] at H; exact H
    clear H
    have H := H1
    clear H1
    have H' := Aside0.mk H
    clear H
    have hnb19 := NB331_332.out
    have hnc19 := NB332_331.out
    have hcz20_0 : wc.cell? ⟨gb331, 0, none⟩ = some (.string a0_0) := (blk_cell BK331.out 0).trans rfl
    have hcz20_1 : wc.cell? ⟨gb331, 1, none⟩ = some (.slice A0_1 l0_1.length c0_1) := (blk_cell BK331.out 1).trans rfl
    have hfz20_0 := blk_frozen BK331.out 0
    have hfz20_1 := blk_frozen BK331.out 1
    go_wp2_with (first | ((with_reducible refine gate_dst (N := 8) rfl ?_); refine box_event ?hg (N := 8) ?hd (cs := #[.string (⟨#[]⟩ : ByteArray), .slice none 0 0]) (t := 27) ?hr ?_; (case hd => rfl); (case hg => rfl); (case hr => first | (go_simp; done) | (go_simp; rfl)); intro gb335 hg w21 hbox hb; have n0_ := Aside0.mk (blk_below (g := gb331) (o := .cells #[.string a0_0, .slice A0_1 l0_1.length c0_1] 27 (0, 0)) (by (with_reducible repeat (first | refine blk_drewN ?_ _ | refine blk_drew ?_ | refine blk_alloc ?_ _)); exact BK331.out) hb); have n1_ := Aside0.mk (blk_below (g := gb332) (o := .cells #[.string (⟨#[]⟩ : ByteArray), .slice none 0 0] 27 (0, 0)) (by (with_reducible repeat (first | refine blk_drewN ?_ _ | refine blk_drew ?_ | refine blk_alloc ?_ _)); exact BK332.out) hb); have n2_ := Aside0.mk (below_step (by repeat (first | (with_reducible first | exact HB.out | apply below_alloc | apply pw_below_drewN | apply below_drew1 | refine below_set ?_ GE331.out | refine below_set ?_ GE332.out) | exact HB.out)) hb); have n3_ := Aside0.mk (hbox); have n4_ := Aside0.mk ((by rw [hg]; exact (below_size (by repeat (first | (with_reducible first | exact HB.out | apply below_alloc | apply pw_below_drewN | apply below_drew1 | refine below_set ?_ GE331.out | refine below_set ?_ GE332.out) | exact HB.out))) : w.heap.size ≤ gb335)); have n5_ := Aside0.mk ((by rw [hg]; exact (below_size (by repeat (first | (with_reducible first | exact HB.out | apply below_alloc | apply pw_below_drewN | apply below_drew1 | refine below_set ?_ GE331.out | refine below_set ?_ GE332.out) | exact HB.out))) : w.heap.size ≤ gb335)); have n6_ := Aside0.mk ((by rw [hg]; exact Nat.ne_of_lt (blk_lt (g := gb331) (o := .cells #[.string a0_0, .slice A0_1 l0_1.length c0_1] 27 (0, 0)) (by (with_reducible repeat (first | refine blk_drewN ?_ _ | refine blk_drew ?_ | refine blk_alloc ?_ _)); exact BK331.out)) : gb331 ≠ gb335)); have n7_ := Aside0.mk ((by rw [hg]; exact Nat.ne_of_gt (blk_lt (g := gb331) (o := .cells #[.string a0_0, .slice A0_1 l0_1.length c0_1] 27 (0, 0)) (by (with_reducible repeat (first | refine blk_drewN ?_ _ | refine blk_drew ?_ | refine blk_alloc ?_ _)); exact BK331.out)) : gb335 ≠ gb331)); have n8_ := Aside0.mk ((by rw [hg]; exact Nat.ne_of_lt (blk_lt (g := gb332) (o := .cells #[.string (⟨#[]⟩ : ByteArray), .slice none 0 0] 27 (0, 0)) (by (with_reducible repeat (first | refine blk_drewN ?_ _ | refine blk_drew ?_ | refine blk_alloc ?_ _)); exact BK332.out)) : gb332 ≠ gb335)); have n9_ := Aside0.mk ((by rw [hg]; exact Nat.ne_of_gt (blk_lt (g := gb332) (o := .cells #[.string (⟨#[]⟩ : ByteArray), .slice none 0 0] 27 (0, 0)) (by (with_reducible repeat (first | refine blk_drewN ?_ _ | refine blk_drew ?_ | refine blk_alloc ?_ _)); exact BK332.out)) : gb335 ≠ gb332)); clear BK331; clear BK332; clear HB; have BK331 := n0_; have BK332 := n1_; have HB := n2_; have BK335 := n3_; have GW335 := n4_; have GE335 := n5_; have NB331_335 := n6_; have NB335_331 := n7_; have NB332_335 := n8_; have NB335_332 := n9_; clear n0_ n1_ n2_ n3_ n4_ n5_ n6_ n7_ n8_ n9_; clear hb hbox hg; have hnb22 := NB335_331.out; have hnc22 := NB331_335.out; have hnb23 := NB335_332.out; have hnc23 := NB332_335.out; have hcz24_0 : w21.cell? ⟨gb335, 0, none⟩ = some (.string (⟨#[]⟩ : ByteArray)) := (blk_cell BK335.out 0).trans rfl; have hcz24_1 : w21.cell? ⟨gb335, 1, none⟩ = some (.slice none 0 0) := (blk_cell BK335.out 1).trans rfl; have hfz24_0 := blk_frozen BK335.out 0; have hfz24_1 := blk_frozen BK335.out 1; have hcz25_0 : w21.cell? ⟨gb331, 0, none⟩ = some (.string a0_0) := (blk_cell BK331.out 0).trans rfl; have hcz25_1 : w21.cell? ⟨gb331, 1, none⟩ = some (.slice A0_1 l0_1.length c0_1) := (blk_cell BK331.out 1).trans rfl; have hfz25_0 := blk_frozen BK331.out 0; have hfz25_1 := blk_frozen BK331.out 1))
    go_loopg [9, 28] kj3 (fun kq v9 v28 w' => ∃ (x9_2 : Bool) (x28_2 : Int) (x336001_2 : List (S58)) (u336001 : Value), v9 = .bool x9_2 ∧ v28 = .int .i64 x28_2 ∧ Aside0 (spec_WithField.l0 kq a1 a2 x9_2 l0_1 (l0_1.length : Int) x28_2 a0_0 x336001_2 = some (r1, r2, r3)) ∧ Aside0 (kq ≤ kj3) ∧ Aside0 (Kd.R k58 58 w' w.heap.size (fun _ => True) u336001 x336001_2) ∧ Aside0 (w'.heap[gb331]? = some (.cells #[.string a0_0, (.slice A0_1 l0_1.length c0_1)] 27 (0, 0))) ∧ Aside0 (w'.heap[gb332]? = some (.cells #[.string (⟨#[]⟩ : ByteArray), (.slice none 0 0)] 27 (0, 0))) ∧ Aside0 (w'.heap[gb335]? = some (.cells #[.string a0_0, u336001] 27 (0, 0))) ∧ Aside0 (Below w.heap.size w w'))
    case atStart => exact ⟨(false), (0), (([] : List (S58))), (.slice none 0 0), (by first | rfl | (simp; done) | (simp [*]; done) | (simp [i64_w, IntKind.wrap_u8, e256_]; done) | (simp; generalize ByteArray.toList _ = zz_; cases zz_ <;> rfl)), (by first | rfl | (simp; done) | (simp [*]; done) | (simp [i64_w, IntKind.wrap_u8, e256_]; done) | (simp; generalize ByteArray.toList _ = zz_; cases zz_ <;> rfl)), H', ⟨Nat.le_refl _⟩, ⟨by first | exact Kd.R_nil _ _ _ _ _ | exact Kd.N_nil _ _ _ _ _ | exact Kd.V_nil _ _ _ _ _ | exact Kd.Q_nil _ _ _ _ _ | exact Kd.S_nil _ _ _ _ _⟩, ⟨by (with_reducible repeat (first | refine blk_drewN ?_ _ | refine blk_drew ?_ | refine blk_alloc ?_ _)); refine blk_far ?_ NB331_335.out _; (with_reducible repeat (first | refine blk_drewN ?_ _ | refine blk_drew ?_ | refine blk_alloc ?_ _)); refine blk_far ?_ NB331_335.out _; (with_reducible repeat (first | refine blk_drewN ?_ _ | refine blk_drew ?_ | refine blk_alloc ?_ _)); exact BK331.out⟩, ⟨by (with_reducible repeat (first | refine blk_drewN ?_ _ | refine blk_drew ?_ | refine blk_alloc ?_ _)); refine blk_far ?_ NB332_335.out _; (with_reducible repeat (first | refine blk_drewN ?_ _ | refine blk_drew ?_ | refine blk_alloc ?_ _)); refine blk_far ?_ NB332_335.out _; (with_reducible repeat (first | refine blk_drewN ?_ _ | refine blk_drew ?_ | refine blk_alloc ?_ _)); exact BK332.out⟩, ⟨by (with_reducible repeat (first | refine blk_drewN ?_ _ | refine blk_drew ?_ | refine blk_alloc ?_ _)); refine blk_put (cs := #[.string a0_0, .slice none 0 0]) ?_ 1 _ rfl; (with_reducible repeat (first | refine blk_drewN ?_ _ | refine blk_drew ?_ | refine blk_alloc ?_ _)); refine blk_put (cs := #[.string (⟨#[]⟩ : ByteArray), .slice none 0 0]) ?_ 0 _ rfl; (with_reducible repeat (first | refine blk_drewN ?_ _ | refine blk_drew ?_ | refine blk_alloc ?_ _)); exact BK335.out⟩, ⟨by repeat (first | (with_reducible first | exact HB.out | apply below_alloc | apply pw_below_drewN | apply below_drew1 | refine below_set ?_ GE331.out | refine below_set ?_ GE332.out | refine below_set ?_ GE335.out) | exact HB.out)⟩⟩
    case round =>
     clear H'
     try clear c1
     try clear c2
     try clear p2
     try clear c4
     try clear p6
     try clear c8
     try clear c10
     try clear c13
     try clear c16
     try clear c17
     try clear c19
     try clear c22
     try clear c23
     try clear hcz11_0
     try clear hcz11_1
     try clear hcz14_0
     try clear hcz14_1
     try clear hcz18_0
     try clear hcz18_1
     try clear hcz20_0
     try clear hcz20_1
     try clear hcz24_0
     try clear hcz24_1
     try clear hcz25_0
     try clear hcz25_1
     try clear hfz11_0
     try clear hfz11_1
     try clear hfz14_0
     try clear hfz14_1
     try clear hfz18_0
     try clear hfz18_1
     try clear hfz20_0
     try clear hfz20_1
     try clear hfz24_0
     try clear hfz24_1
     try clear hfz25_0
     try clear hfz25_1
     try clear p2
     try clear p6
     obtain ⟨x9_2, x28_2, x336001_2, u336001, rfl, rfl, HA, HK2, HO_336001, BK331, BK332, BK335, HB⟩ := hrel
     cases gk with
     | zero => exact absurd HA.out (by simp [spec_WithField.l0])
     | succ k2 =>
      have H := HA.out
      clear HA
      simp only [spec_WithField.l0] at H
      by_cases c26 : x28_2 < (l0_1.length : Int)
      ·rw [if_pos c26] at H
       have c26b0 : decide (x28_2 < (l0_1.length : Int)) = true := decide_eq_true c26
       clear c26
       by_cases c27 : 0 ≤ x28_2
       ·rw [if_pos c27] at H
        have c27b0 : decide (0 ≤ x28_2) = true := decide_eq_true c27
        clear c27
        by_cases c28 : x28_2 < (l0_1.length : Int)
        ·rw [if_pos c28] at H
         have c28b0 : decide (x28_2 < (l0_1.length : Int)) = true := decide_eq_true c28
         clear c28
         have HC29 := Aside0.mk H
         clear H
         have p339 : 0 ≤ (x28_2 : Int) := of_decide_eq_true (by first | (with_reducible assumption) | assumption)
         have q339 : x28_2 < (l0_1.length : Int) := of_decide_eq_true (by first | (with_reducible assumption) | assumption)
         obtain ⟨ad339, e339, hx339_0, hx339_1⟩ := at_T58 HR0_1.out x28_2 p339 q339
         cases e339
         replace hx339_0 := (HB.out.cell (World.block_lt_of_cell? w _ hx339_0)).trans hx339_0
         replace hx339_1 := (HB.out.cell (World.block_lt_of_cell? w _ hx339_1)).trans hx339_1
         replace p339 := eq_true p339
         replace q339 := eq_true q339
         go_upto_region 8 with (first | ((with_reducible refine gate_dst (N := 11) rfl ?_); refine box_event ?hg (N := 11) ?hd (cs := #[.int .i64 0, .string (⟨#[]⟩ : ByteArray)]) (t := 58) ?hr ?_; (case hd => rfl); (case hg => rfl); (case hr => first | (go_simp; done) | (go_simp; rfl)); intro gb340 hg w30 hbox hb; have n0_ := Aside0.mk (Kd.R_below (Kd.R_elderB (by (with_reducible repeat (first | apply Kd.R_alloc | apply Kd.R_drewN | apply Kd.R_drew)); exact HO_336001.out) gb340 (Nat.le_of_eq hg.symm)) hb); have n1_ := Aside0.mk (blk_below (g := gb331) (o := .cells #[.string a0_0, .slice (some ad339) l0_1.length c0_1] 27 (0, 0)) (by (with_reducible repeat (first | refine blk_drewN ?_ _ | refine blk_drew ?_ | refine blk_alloc ?_ _)); exact BK331.out) hb); have n2_ := Aside0.mk (blk_below (g := gb332) (o := .cells #[.string (⟨#[]⟩ : ByteArray), .slice none 0 0] 27 (0, 0)) (by (with_reducible repeat (first | refine blk_drewN ?_ _ | refine blk_drew ?_ | refine blk_alloc ?_ _)); exact BK332.out) hb); have n3_ := Aside0.mk (blk_below (g := gb335) (o := .cells #[.string a0_0, u336001] 27 (0, 0)) (by (with_reducible repeat (first | refine blk_drewN ?_ _ | refine blk_drew ?_ | refine blk_alloc ?_ _)); exact BK335.out) hb); have n4_ := Aside0.mk (below_step (by repeat (first | (with_reducible first | exact HB.out | apply below_alloc | apply pw_below_drewN | apply below_drew1 | refine below_set ?_ GE331.out | refine below_set ?_ GE332.out | refine below_set ?_ GE335.out) | exact HB.out)) hb); have n5_ := Aside0.mk (hbox); have n6_ := Aside0.mk ((by rw [hg]; exact (below_size (by repeat (first | (with_reducible first | exact HB.out | apply below_alloc | apply pw_below_drewN | apply below_drew1 | refine below_set ?_ GE331.out | refine below_set ?_ GE332.out | refine below_set ?_ GE335.out) | exact HB.out))) : w.heap.size ≤ gb340)); have n7_ := Aside0.mk ((by rw [hg]; exact (below_size (by repeat (first | (with_reducible first | exact HB.out | apply below_alloc | apply pw_below_drewN | apply below_drew1 | refine below_set ?_ GE331.out | refine below_set ?_ GE332.out | refine below_set ?_ GE335.out) | exact HB.out))) : w.heap.size ≤ gb340)); have n8_ := Aside0.mk ((by rw [hg]; exact Nat.ne_of_lt (blk_lt (g := gb331) (o := .cells #[.string a0_0, .slice (some ad339) l0_1.length c0_1] 27 (0, 0)) (by (with_reducible repeat (first | refine blk_drewN ?_ _ | refine blk_drew ?_ | refine blk_alloc ?_ _)); exact BK331.out)) : gb331 ≠ gb340)); have n9_ := Aside0.mk ((by rw [hg]; exact Nat.ne_of_gt (blk_lt (g := gb331) (o := .cells #[.string a0_0, .slice (some ad339) l0_1.length c0_1] 27 (0, 0)) (by (with_reducible repeat (first | refine blk_drewN ?_ _ | refine blk_drew ?_ | refine blk_alloc ?_ _)); exact BK331.out)) : gb340 ≠ gb331)); have n10_ := Aside0.mk ((by rw [hg]; exact Nat.ne_of_lt (blk_lt (g := gb332) (o := .cells #[.string (⟨#[]⟩ : ByteArray), .slice none 0 0] 27 (0, 0)) (by (with_reducible repeat (first | refine blk_drewN ?_ _ | refine blk_drew ?_ | refine blk_alloc ?_ _)); exact BK332.out)) : gb332 ≠ gb340)); have n11_ := Aside0.mk ((by rw [hg]; exact Nat.ne_of_gt (blk_lt (g := gb332) (o := .cells #[.string (⟨#[]⟩ : ByteArray), .slice none 0 0] 27 (0, 0)) (by (with_reducible repeat (first | refine blk_drewN ?_ _ | refine blk_drew ?_ | refine blk_alloc ?_ _)); exact BK332.out)) : gb340 ≠ gb332)); have n12_ := Aside0.mk ((by rw [hg]; exact Nat.ne_of_lt (blk_lt (g := gb335) (o := .cells #[.string a0_0, u336001] 27 (0, 0)) (by (with_reducible repeat (first | refine blk_drewN ?_ _ | refine blk_drew ?_ | refine blk_alloc ?_ _)); exact BK335.out)) : gb335 ≠ gb340)); have n13_ := Aside0.mk ((by rw [hg]; exact Nat.ne_of_gt (blk_lt (g := gb335) (o := .cells #[.string a0_0, u336001] 27 (0, 0)) (by (with_reducible repeat (first | refine blk_drewN ?_ _ | refine blk_drew ?_ | refine blk_alloc ?_ _)); exact BK335.out)) : gb340 ≠ gb335)); clear HO_336001; clear BK331; clear BK332; clear BK335; clear HB; have HO_336001 := n0_; have BK331 := n1_; have BK332 := n2_; have BK335 := n3_; have HB := n4_; have BK340 := n5_; have GW340 := n6_; have GE340 := n7_; have NB331_340 := n8_; have NB340_331 := n9_; have NB332_340 := n10_; have NB340_332 := n11_; have NB335_340 := n12_; have NB340_335 := n13_; clear n0_ n1_ n2_ n3_ n4_ n5_ n6_ n7_ n8_ n9_ n10_ n11_ n12_ n13_; clear hb hbox hg; have hnb31 := NB340_331.out; have hnc31 := NB331_340.out; have hnb32 := NB340_332.out; have hnc32 := NB332_340.out; have hnb33 := NB340_335.out; have hnc33 := NB335_340.out; have hcz34_0 : w30.cell? ⟨gb340, 0, none⟩ = some (.int .i64 0) := (blk_cell BK340.out 0).trans rfl; have hcz34_1 : w30.cell? ⟨gb340, 1, none⟩ = some (.string (⟨#[]⟩ : ByteArray)) := (blk_cell BK340.out 1).trans rfl; have hfz34_0 := blk_frozen BK340.out 0; have hfz34_1 := blk_frozen BK340.out 1))
         (try simp only [Act.put, List.setIfInBounds_toArray, List.set_cons_zero, List.set_cons_succ])
         go_cut [39] (fun v39 wc => ∃ (kq : Nat) (x39_28 : Bool), v39 = .bool x39_28 ∧ Aside0 (spec_WithField.j2 kq a1 a2 x9_2 l0_1 (l0_1.length : Int) x28_2 x39_28 a0_0 x336001_2 ((rd_T58 l0_1 x28_2).f0) ((rd_T58 l0_1 x28_2).f1) = some (r1, r2, r3)) ∧ Aside0 (kq ≤ k2) ∧ Aside0 (Kd.R k58 58 wc w.heap.size (fun k_ => k_ ≠ gb340) u336001 x336001_2) ∧ Aside0 (wc.heap[gb331]? = some (.cells #[.string a0_0, (.slice (some ad339) l0_1.length c0_1)] 27 (0, 0))) ∧ Aside0 (wc.heap[gb332]? = some (.cells #[.string (⟨#[]⟩ : ByteArray), (.slice none 0 0)] 27 (0, 0))) ∧ Aside0 (wc.heap[gb335]? = some (.cells #[.string a0_0, u336001] 27 (0, 0))) ∧ Aside0 (wc.heap[gb340]? = some (.cells #[.int .i64 ((rd_T58 l0_1 x28_2).f0), .string ((rd_T58 l0_1 x28_2).f1)] 58 (0, 0))) ∧ Aside0 (Below w.heap.size w wc))
         case first =>
          have H := HC29.out
          clear HC29
          by_cases c35 : x9_2 = true
          ·subst c35
           have H1 : (spec_WithField.j2 k2 a1 a2 true l0_1 (l0_1.length : Int) x28_2 false a0_0 x336001_2 ((rd_T58 l0_1 x28_2).f0) ((rd_T58 l0_1 x28_2).f1)) = some (r1, r2, r3) := by rw [if_pos rfl] at H; exact H
           clear H
           have H := H1
           clear H1
           have H' := Aside0.mk H
           clear H
           go_wp2
           go_meet
           case rel => exact ⟨_, (false), (by first | rfl | (simp; done) | (simp [*]; done) | (simp [i64_w, IntKind.wrap_u8, e256_]; done) | (simp; generalize ByteArray.toList _ = zz_; cases zz_ <;> rfl)), H', ⟨by have := HJ3.out; have := HK2.out; first | omega | exact Nat.le_refl _⟩, ⟨by (with_reducible repeat (first | apply Kd.R_alloc | apply Kd.R_drewN | apply Kd.R_drew)); exact Kd.R_mono (Kd.R_far (p := ⟨gb340, 1, none⟩) (Kd.R_far (p := ⟨gb340, 0, none⟩) (Kd.R_mono HO_336001.out (fun k_ hk => (⟨hk, hk.2⟩ : _ ∧ k_ ≠ gb340))) (fun _ hk => hk.2) (.int .i64 ((rd_T58 l0_1 x28_2).f0))) (fun _ hk => hk.2) (.string ((rd_T58 l0_1 x28_2).f1))) (fun _ hk => hk.1.2)⟩, ⟨by (with_reducible repeat (first | refine blk_drewN ?_ _ | refine blk_drew ?_ | refine blk_alloc ?_ _)); refine blk_far ?_ NB331_340.out _; (with_reducible repeat (first | refine blk_drewN ?_ _ | refine blk_drew ?_ | refine blk_alloc ?_ _)); refine blk_far ?_ NB331_340.out _; (with_reducible repeat (first | refine blk_drewN ?_ _ | refine blk_drew ?_ | refine blk_alloc ?_ _)); exact BK331.out⟩, ⟨by (with_reducible repeat (first | refine blk_drewN ?_ _ | refine blk_drew ?_ | refine blk_alloc ?_ _)); refine blk_far ?_ NB332_340.out _; (with_reducible repeat (first | refine blk_drewN ?_ _ | refine blk_drew ?_ | refine blk_alloc ?_ _)); refine blk_far ?_ NB332_340.out _; (with_reducible repeat (first | refine blk_drewN ?_ _ | refine blk_drew ?_ | refine blk_alloc ?_ _)); exact BK332.out⟩, ⟨by (with_reducible repeat (first | refine blk_drewN ?_ _ | refine blk_drew ?_ | refine blk_alloc ?_ _)); refine blk_far ?_ NB335_340.out _; (with_reducible repeat (first | refine blk_drewN ?_ _ | refine blk_drew ?_ | refine blk_alloc ?_ _)); refine blk_far ?_ NB335_340.out _; (with_reducible repeat (first | refine blk_drewN ?_ _ | refine blk_drew ?_ | refine blk_alloc ?_ _)); exact BK335.out⟩, ⟨by (with_reducible repeat (first | refine blk_drewN ?_ _ | refine blk_drew ?_ | refine blk_alloc ?_ _)); refine blk_put (cs := #[.int .i64 ((rd_T58 l0_1 x28_2).f0), .string (⟨#[]⟩ : ByteArray)]) ?_ 1 _ rfl; (with_reducible repeat (first | refine blk_drewN ?_ _ | refine blk_drew ?_ | refine blk_alloc ?_ _)); refine blk_put (cs := #[.int .i64 0, .string (⟨#[]⟩ : ByteArray)]) ?_ 0 _ rfl; (with_reducible repeat (first | refine blk_drewN ?_ _ | refine blk_drew ?_ | refine blk_alloc ?_ _)); exact BK340.out⟩, ⟨by repeat (first | (with_reducible first | exact HB.out | apply below_alloc | apply pw_below_drewN | apply below_drew1 | refine below_set ?_ GE331.out | refine below_set ?_ GE332.out | refine below_set ?_ GE335.out | refine below_set ?_ GE340.out) | exact HB.out)⟩⟩
          ·replace c35 := Bool.eq_false_iff.mpr c35
           subst c35
           have H1 : (spec_WithField.j2 k2 a1 a2 false l0_1 (l0_1.length : Int) x28_2 (decide (((rd_T58 l0_1 x28_2).f0) ≥ a1)) a0_0 x336001_2 ((rd_T58 l0_1 x28_2).f0) ((rd_T58 l0_1 x28_2).f1)) = some (r1, r2, r3) := by rw [if_neg (show ¬ (false = true) by decide)] at H; exact H
           clear H
           have H := H1
           clear H1
           have H' := Aside0.mk H
           clear H
           have hnb36 := NB340_331.out
           have hnc36 := NB331_340.out
           have hnb37 := NB340_332.out
           have hnc37 := NB332_340.out
           have hnb38 := NB340_335.out
           have hnc38 := NB335_340.out
           have hcz39_0 : w30.cell? ⟨gb340, 0, none⟩ = some (.int .i64 0) := (blk_cell BK340.out 0).trans rfl
           have hcz39_1 : w30.cell? ⟨gb340, 1, none⟩ = some (.string (⟨#[]⟩ : ByteArray)) := (blk_cell BK340.out 1).trans rfl
           have hfz39_0 := blk_frozen BK340.out 0
           have hfz39_1 := blk_frozen BK340.out 1
           go_wp2
           go_meet
           case rel => exact ⟨_, (decide (((rd_T58 l0_1 x28_2).f0) ≥ a1)), (by first | rfl | (simp; done) | (simp [*]; done) | (simp [i64_w, IntKind.wrap_u8, e256_]; done) | (simp; generalize ByteArray.toList _ = zz_; cases zz_ <;> rfl)), H', ⟨by have := HJ3.out; have := HK2.out; first | omega | exact Nat.le_refl _⟩, ⟨by (with_reducible repeat (first | apply Kd.R_alloc | apply Kd.R_drewN | apply Kd.R_drew)); exact Kd.R_mono (Kd.R_far (p := ⟨gb340, 1, none⟩) (Kd.R_far (p := ⟨gb340, 0, none⟩) (Kd.R_mono HO_336001.out (fun k_ hk => (⟨hk, hk.2⟩ : _ ∧ k_ ≠ gb340))) (fun _ hk => hk.2) (.int .i64 ((rd_T58 l0_1 x28_2).f0))) (fun _ hk => hk.2) (.string ((rd_T58 l0_1 x28_2).f1))) (fun _ hk => hk.1.2)⟩, ⟨by (with_reducible repeat (first | refine blk_drewN ?_ _ | refine blk_drew ?_ | refine blk_alloc ?_ _)); refine blk_far ?_ NB331_340.out _; (with_reducible repeat (first | refine blk_drewN ?_ _ | refine blk_drew ?_ | refine blk_alloc ?_ _)); refine blk_far ?_ NB331_340.out _; (with_reducible repeat (first | refine blk_drewN ?_ _ | refine blk_drew ?_ | refine blk_alloc ?_ _)); exact BK331.out⟩, ⟨by (with_reducible repeat (first | refine blk_drewN ?_ _ | refine blk_drew ?_ | refine blk_alloc ?_ _)); refine blk_far ?_ NB332_340.out _; (with_reducible repeat (first | refine blk_drewN ?_ _ | refine blk_drew ?_ | refine blk_alloc ?_ _)); refine blk_far ?_ NB332_340.out _; (with_reducible repeat (first | refine blk_drewN ?_ _ | refine blk_drew ?_ | refine blk_alloc ?_ _)); exact BK332.out⟩, ⟨by (with_reducible repeat (first | refine blk_drewN ?_ _ | refine blk_drew ?_ | refine blk_alloc ?_ _)); refine blk_far ?_ NB335_340.out _; (with_reducible repeat (first | refine blk_drewN ?_ _ | refine blk_drew ?_ | refine blk_alloc ?_ _)); refine blk_far ?_ NB335_340.out _; (with_reducible repeat (first | refine blk_drewN ?_ _ | refine blk_drew ?_ | refine blk_alloc ?_ _)); exact BK335.out⟩, ⟨by (with_reducible repeat (first | refine blk_drewN ?_ _ | refine blk_drew ?_ | refine blk_alloc ?_ _)); refine blk_put (cs := #[.int .i64 ((rd_T58 l0_1 x28_2).f0), .string (⟨#[]⟩ : ByteArray)]) ?_ 1 _ rfl; (with_reducible repeat (first | refine blk_drewN ?_ _ | refine blk_drew ?_ | refine blk_alloc ?_ _)); refine blk_put (cs := #[.int .i64 0, .string (⟨#[]⟩ : ByteArray)]) ?_ 0 _ rfl; (with_reducible repeat (first | refine blk_drewN ?_ _ | refine blk_drew ?_ | refine blk_alloc ?_ _)); exact BK340.out⟩, ⟨by repeat (first | (with_reducible first | exact HB.out | apply below_alloc | apply pw_below_drewN | apply below_drew1 | refine below_set ?_ GE331.out | refine below_set ?_ GE332.out | refine below_set ?_ GE335.out | refine below_set ?_ GE340.out) | exact HB.out)⟩⟩
         case rest =>
          clear HC29
          try clear c1
          try clear c2
          try clear p2
          try clear c3
          try clear p3
          try clear q3
          try clear hx3
          try clear c4
          try clear p6
          try clear c8
          try clear c10
          try clear c13
          try clear c16
          try clear c17
          try clear c19
          try clear c22
          try clear c23
          try clear c26
          try clear c26b0
          try clear c27
          try clear c27b0
          try clear c28
          try clear c28b0
          try clear c31
          try clear c32
          try clear c33
          try clear p33
          try clear q33
          try clear hx33
          try clear c35
          try clear c36
          try clear c37
          try clear c38
          try clear hcz11_0
          try clear hcz11_1
          try clear hcz14_0
          try clear hcz14_1
          try clear hcz18_0
          try clear hcz18_1
          try clear hcz20_0
          try clear hcz20_1
          try clear hcz24_0
          try clear hcz24_1
          try clear hcz25_0
          try clear hcz25_1
          try clear hcz34_0
          try clear hcz34_1
          try clear hcz39_0
          try clear hcz39_1
          try clear hfz11_0
          try clear hfz11_1
          try clear hfz14_0
          try clear hfz14_1
          try clear hfz18_0
          try clear hfz18_1
          try clear hfz20_0
          try clear hfz20_1
          try clear hfz24_0
          try clear hfz24_1
          try clear hfz25_0
          try clear hfz25_1
          try clear hfz34_0
          try clear hfz34_1
          try clear hfz39_0
          try clear hfz39_1
          try clear hx339_0
          try clear hx339_1
          try clear p2
          try clear p339
          try clear p6
          try clear q339
          obtain ⟨kq, x39_28, rfl, HA, HJ28, HO_336001, BK331, BK332, BK335, BK340, HB⟩ := hcut
          cases kq with
          | zero => exact absurd HA.out (by simp [spec_WithField.j2])
          | succ kj28 =>
           have H := HA.out
           clear HA
           simp only [spec_WithField.j2] at H
           by_cases c40 : x39_28 = true
           ·subst c40
            have H1 : (if x336001_2.length < 5864062014805 then ((some (x336001_2 ++ [(⟨a1, a2⟩ : S58)] : List (S58))).bind fun y341 => (if ((rd_T58 l0_1 x28_2).f0) = a1 then (spec_WithField.l0 kj28 a1 a2 true l0_1 (l0_1.length : Int) (wrap64 (x28_2 + 1)) a0_0 y341) else (if y341.length < 5864062014805 then (spec_WithField.l0 kj28 a1 a2 true l0_1 (l0_1.length : Int) (wrap64 (x28_2 + 1)) a0_0 (y341 ++ [(⟨((rd_T58 l0_1 x28_2).f0), ((rd_T58 l0_1 x28_2).f1)⟩ : S58)])) else (none)))) else (none)) = some (r1, r2, r3) := by rw [if_pos rfl] at H; exact H
            clear H
            have H := H1
            clear H1
            by_cases c41 : x336001_2.length < 5864062014805
            ·rw [if_pos c41] at H
             have LMc41 := Aside0.mk c41
             clear c41
             obtain ⟨y341, hy341⟩ : ∃ y_ : List (S58), y_ = (x336001_2 ++ [(⟨a1, a2⟩ : S58)]) := ⟨_, rfl⟩
             replace H : (if ((rd_T58 l0_1 x28_2).f0) = a1 then (spec_WithField.l0 kj28 a1 a2 true l0_1 (l0_1.length : Int) (wrap64 (x28_2 + 1)) a0_0 y341) else (if y341.length < 5864062014805 then (spec_WithField.l0 kj28 a1 a2 true l0_1 (l0_1.length : Int) (wrap64 (x28_2 + 1)) a0_0 (y341 ++ [(⟨((rd_T58 l0_1 x28_2).f0), ((rd_T58 l0_1 x28_2).f1)⟩ : S58)])) else (none))) = some (r1, r2, r3) := by first | (rw [hy341]; with_reducible exact H) | (have H2_ := (Option.bind_some _ _).symm.trans H; rw [hy341]; with_reducible exact H2_) | (have H2_ := (Option.bind_some _ _).symm.trans H; with_reducible exact H2_) | with_reducible exact H | (rw [hy341]; exact H) | exact H
             have Ny341 := Aside0.mk hy341
             clear hy341
             by_cases c42 : ((rd_T58 l0_1 x28_2).f0) = a1
             ·rw [if_pos c42] at H
              have c42b0 : (((rd_T58 l0_1 x28_2).f0) == a1) = true := beq_iff_eq.mpr c42
              have c42b1 : (((rd_T58 l0_1 x28_2).f0) != a1) = false := bne_eq_false_iff_eq.mpr c42
              clear c42
              have H' := Aside0.mk H
              clear H
              have hnb43 := NB335_331.out
              have hnc43 := NB331_335.out
              have hnb44 := NB335_332.out
              have hnc44 := NB332_335.out
              have hnb45 := NB335_340.out
              have hnc45 := NB340_335.out
              have hcz46_0 : wc.cell? ⟨gb335, 0, none⟩ = some (.string a0_0) := (blk_cell BK335.out 0).trans rfl
              have hcz46_1 : wc.cell? ⟨gb335, 1, none⟩ = some (u336001) := (blk_cell BK335.out 1).trans rfl
              have hfz46_0 := blk_frozen BK335.out 0
              have hfz46_1 := blk_frozen BK335.out 1
              go_wp2_with (first | ((with_reducible refine gate_builtin (b := .append) (xs := #[.tmp 41, .tmp 45]) rfl ?_); at_builtin; refine Kd.R_append k58 (w0 := w) w.heap.size rfl (.tmp 41) (.tmp 45) 25 58 (.agg #[(.int .i64 0), (.string ⟨#[]⟩)]) 24 rfl Try.underlying25 info58 rfl (by decide) (by omega) u336001 x336001_2 (⟨a1, a2⟩ : S58) [.int .i64 a1, .string a2] (fun k_ => k_ ≠ gb340) (fun _ => False) rfl rfl ?aP (fun _ hk => hk.elim) ?aF ?aO ?aB ?aS ?aL ?_; (case aP => exact k58_mkM _ _ _ (⟨a1, a2⟩ : S58)); (case aB => exact (by repeat (first | (with_reducible first | exact HB.out | apply below_alloc | apply pw_below_drewN | apply below_drew1 | refine below_set ?_ GE331.out | refine below_set ?_ GE332.out | refine below_set ?_ GE335.out | refine below_set ?_ GE340.out) | exact HB.out))); (case aF => exact (fun k_ hk => Kd.freshB (g := gb340) (o := .cells #[.int .i64 ((rd_T58 l0_1 x28_2).f0), .string ((rd_T58 l0_1 x28_2).f1)] 58 (0, 0)) (by (with_reducible repeat (first | refine blk_drewN ?_ _ | refine blk_drew ?_ | refine blk_alloc ?_ _)); exact BK340.out) k_ hk)); (case aO => exact (by (with_reducible repeat (first | apply Kd.R_alloc | apply Kd.R_drewN | apply Kd.R_drew)); exact HO_336001.out)); (case aS => exact (below_size (by repeat (first | (with_reducible first | exact HB.out | apply below_alloc | apply pw_below_drewN | apply below_drew1 | refine below_set ?_ GE331.out | refine below_set ?_ GE332.out | refine below_set ?_ GE335.out | refine below_set ?_ GE340.out) | exact HB.out)))); (case aL => have := LMc41.out; omega); intro v342 w47 ho hb hg hat; rw [← Ny341.out] at ho; have n0_ := Aside0.mk (blk_grown (g := gb331) (o := .cells #[.string a0_0, .slice (some ad339) l0_1.length c0_1] 27 (0, 0)) (by (with_reducible repeat (first | refine blk_drewN ?_ _ | refine blk_drew ?_ | refine blk_alloc ?_ _)); exact BK331.out) hg (Kd.R_ne HO_336001.out BK331.out (by decide))); have n1_ := Aside0.mk (blk_grown (g := gb332) (o := .cells #[.string (⟨#[]⟩ : ByteArray), .slice none 0 0] 27 (0, 0)) (by (with_reducible repeat (first | refine blk_drewN ?_ _ | refine blk_drew ?_ | refine blk_alloc ?_ _)); exact BK332.out) hg (Kd.R_ne HO_336001.out BK332.out (by decide))); have n2_ := Aside0.mk (blk_grown (g := gb335) (o := .cells #[.string a0_0, u336001] 27 (0, 0)) (by (with_reducible repeat (first | refine blk_drewN ?_ _ | refine blk_drew ?_ | refine blk_alloc ?_ _)); exact BK335.out) hg (Kd.R_ne HO_336001.out BK335.out (by decide))); have n3_ := Aside0.mk (blk_grown (g := gb340) (o := .cells #[.int .i64 ((rd_T58 l0_1 x28_2).f0), .string ((rd_T58 l0_1 x28_2).f1)] 58 (0, 0)) (by (with_reducible repeat (first | refine blk_drewN ?_ _ | refine blk_drew ?_ | refine blk_alloc ?_ _)); exact BK340.out) hg (Kd.R_away HO_336001.out (fun _ hk => hk))); have n4_ := Aside0.mk (hb); have n5_ := Aside0.mk (ho); clear BK331; clear BK332; clear BK335; clear BK340; clear HB; clear HO_336001; have BK331 := n0_; have BK332 := n1_; have BK335 := n2_; have BK340 := n3_; have HB := n4_; have HO343 := n5_; clear n0_ n1_ n2_ n3_ n4_ n5_; clear ho hb hg hat; obtain ⟨Ao48, co48, eo48⟩ := Kd.R_slice HO343.out; subst eo48; have hcz49_0 : w47.cell? ⟨gb335, 0, none⟩ = some (.string a0_0) := (blk_cell BK335.out 0).trans rfl; have hcz49_1 : w47.cell? ⟨gb335, 1, none⟩ = some (u336001) := (blk_cell BK335.out 1).trans rfl; have hfz49_0 := blk_frozen BK335.out 0; have hfz49_1 := blk_frozen BK335.out 1; have hnb50 := NB340_331.out; have hnc50 := NB331_340.out; have hnb51 := NB340_332.out; have hnc51 := NB332_340.out; have hcz52_0 : w47.cell? ⟨gb340, 0, none⟩ = some (.int .i64 ((rd_T58 l0_1 x28_2).f0)) := (blk_cell BK340.out 0).trans rfl; have hcz52_1 : w47.cell? ⟨gb340, 1, none⟩ = some (.string ((rd_T58 l0_1 x28_2).f1)) := (blk_cell BK340.out 1).trans rfl; have hfz52_0 := blk_frozen BK340.out 0; have hfz52_1 := blk_frozen BK340.out 1))
              go_roundg kj28
              case measure => have := HJ3.out; have := HK2.out; have := HJ28.out; omega
              case rel => exact ⟨(true), (wrap64 (x28_2 + 1)), (y341), (.slice Ao48 y341.length co48), (by first | rfl | (simp; done) | (simp [*]; done) | (simp [i64_w, IntKind.wrap_u8, e256_]; done) | (simp; generalize ByteArray.toList _ = zz_; cases zz_ <;> rfl)), (by first | rfl | (simp; done) | (simp [*]; done) | (simp [i64_w, IntKind.wrap_u8, e256_]; done) | (simp; generalize ByteArray.toList _ = zz_; cases zz_ <;> rfl)), H', ⟨by have := HJ3.out; have := HK2.out; have := HJ28.out; omega⟩, ⟨by (with_reducible repeat (first | apply Kd.R_alloc | apply Kd.R_drewN | apply Kd.R_drew)); exact Kd.R_mono (Kd.R_far (p := ⟨gb335, 1, none⟩) (Kd.R_types HO343.out BK335.out (by decide)) (fun _ hk => hk.2) (.slice Ao48 y341.length co48)) (fun _ hk => trivial)⟩, ⟨by (with_reducible repeat (first | refine blk_drewN ?_ _ | refine blk_drew ?_ | refine blk_alloc ?_ _)); refine blk_far ?_ NB331_335.out _; (with_reducible repeat (first | refine blk_drewN ?_ _ | refine blk_drew ?_ | refine blk_alloc ?_ _)); exact BK331.out⟩, ⟨by (with_reducible repeat (first | refine blk_drewN ?_ _ | refine blk_drew ?_ | refine blk_alloc ?_ _)); refine blk_far ?_ NB332_335.out _; (with_reducible repeat (first | refine blk_drewN ?_ _ | refine blk_drew ?_ | refine blk_alloc ?_ _)); exact BK332.out⟩, ⟨by (with_reducible repeat (first | refine blk_drewN ?_ _ | refine blk_drew ?_ | refine blk_alloc ?_ _)); refine blk_put (cs := #[.string a0_0, u336001]) ?_ 1 _ rfl; (with_reducible repeat (first | refine blk_drewN ?_ _ | refine blk_drew ?_ | refine blk_alloc ?_ _)); exact BK335.out⟩, ⟨by repeat (first | (with_reducible first | exact HB.out | apply below_alloc | apply pw_below_drewN | apply below_drew1 | refine below_set ?_ GE331.out | refine below_set ?_ GE332.out | refine below_set ?_ GE335.out | refine below_set ?_ GE340.out) | exact HB.out)⟩⟩
             ·rw [if_neg c42] at H
              have c42b0 : (((rd_T58 l0_1 x28_2).f0) == a1) = false := beq_eq_false_iff_ne.mpr c42
              have c42b1 : (((rd_T58 l0_1 x28_2).f0) != a1) = true := bne_iff_ne.mpr c42
              by_cases c53 : y341.length < 5864062014805
              ·rw [if_pos c53] at H
               have LMc53 := Aside0.mk c53
               clear c53
               obtain ⟨y344, hy344⟩ : ∃ y_ : List (S58), y_ = (y341 ++ [(⟨((rd_T58 l0_1 x28_2).f0), ((rd_T58 l0_1 x28_2).f1)⟩ : S58)]) := ⟨_, rfl⟩
               replace H : (spec_WithField.l0 kj28 a1 a2 true l0_1 (l0_1.length : Int) (wrap64 (x28_2 + 1)) a0_0 y344) = some (r1, r2, r3) := by first | (rw [hy344]; with_reducible exact H) | (have H2_ := (Option.bind_some _ _).symm.trans H; rw [hy344]; with_reducible exact H2_) | (have H2_ := (Option.bind_some _ _).symm.trans H; with_reducible exact H2_) | with_reducible exact H | (rw [hy344]; exact H) | exact H
               have Ny344 := Aside0.mk hy344
               clear hy344
               have H' := Aside0.mk H
               clear H
               have hnb54 := NB335_331.out
               have hnc54 := NB331_335.out
               have hnb55 := NB335_332.out
               have hnc55 := NB332_335.out
               have hnb56 := NB335_340.out
               have hnc56 := NB340_335.out
               have hcz57_0 : wc.cell? ⟨gb335, 0, none⟩ = some (.string a0_0) := (blk_cell BK335.out 0).trans rfl
               have hcz57_1 : wc.cell? ⟨gb335, 1, none⟩ = some (u336001) := (blk_cell BK335.out 1).trans rfl
               have hfz57_0 := blk_frozen BK335.out 0
               have hfz57_1 := blk_frozen BK335.out 1
               go_wp2_with (first | ((with_reducible refine gate_builtin (b := .append) (xs := #[.tmp 41, .tmp 45]) rfl ?_); at_builtin; refine Kd.R_append k58 (w0 := w) w.heap.size rfl (.tmp 41) (.tmp 45) 25 58 (.agg #[(.int .i64 0), (.string ⟨#[]⟩)]) 24 rfl Try.underlying25 info58 rfl (by decide) (by omega) u336001 x336001_2 (⟨a1, a2⟩ : S58) [.int .i64 a1, .string a2] (fun k_ => k_ ≠ gb340) (fun _ => False) rfl rfl ?aP (fun _ hk => hk.elim) ?aF ?aO ?aB ?aS ?aL ?_; (case aP => exact k58_mkM _ _ _ (⟨a1, a2⟩ : S58)); (case aB => exact (by repeat (first | (with_reducible first | exact HB.out | apply below_alloc | apply pw_below_drewN | apply below_drew1 | refine below_set ?_ GE331.out | refine below_set ?_ GE332.out | refine below_set ?_ GE335.out | refine below_set ?_ GE340.out) | exact HB.out))); (case aF => exact (fun k_ hk => Kd.freshB (g := gb340) (o := .cells #[.int .i64 ((rd_T58 l0_1 x28_2).f0), .string ((rd_T58 l0_1 x28_2).f1)] 58 (0, 0)) (by (with_reducible repeat (first | refine blk_drewN ?_ _ | refine blk_drew ?_ | refine blk_alloc ?_ _)); exact BK340.out) k_ hk)); (case aO => exact (by (with_reducible repeat (first | apply Kd.R_alloc | apply Kd.R_drewN | apply Kd.R_drew)); exact HO_336001.out)); (case aS => exact (below_size (by repeat (first | (with_reducible first | exact HB.out | apply below_alloc | apply pw_below_drewN | apply below_drew1 | refine below_set ?_ GE331.out | refine below_set ?_ GE332.out | refine below_set ?_ GE335.out | refine below_set ?_ GE340.out) | exact HB.out)))); (case aL => have := LMc41.out; omega); intro v342 w58 ho hb hg hat; rw [← Ny341.out] at ho; have n0_ := Aside0.mk (blk_grown (g := gb331) (o := .cells #[.string a0_0, .slice (some ad339) l0_1.length c0_1] 27 (0, 0)) (by (with_reducible repeat (first | refine blk_drewN ?_ _ | refine blk_drew ?_ | refine blk_alloc ?_ _)); exact BK331.out) hg (Kd.R_ne HO_336001.out BK331.out (by decide))); have n1_ := Aside0.mk (blk_grown (g := gb332) (o := .cells #[.string (⟨#[]⟩ : ByteArray), .slice none 0 0] 27 (0, 0)) (by (with_reducible repeat (first | refine blk_drewN ?_ _ | refine blk_drew ?_ | refine blk_alloc ?_ _)); exact BK332.out) hg (Kd.R_ne HO_336001.out BK332.out (by decide))); have n2_ := Aside0.mk (blk_grown (g := gb335) (o := .cells #[.string a0_0, u336001] 27 (0, 0)) (by (with_reducible repeat (first | refine blk_drewN ?_ _ | refine blk_drew ?_ | refine blk_alloc ?_ _)); exact BK335.out) hg (Kd.R_ne HO_336001.out BK335.out (by decide))); have n3_ := Aside0.mk (blk_grown (g := gb340) (o := .cells #[.int .i64 ((rd_T58 l0_1 x28_2).f0), .string ((rd_T58 l0_1 x28_2).f1)] 58 (0, 0)) (by (with_reducible repeat (first | refine blk_drewN ?_ _ | refine blk_drew ?_ | refine blk_alloc ?_ _)); exact BK340.out) hg (Kd.R_away HO_336001.out (fun _ hk => hk))); have n4_ := Aside0.mk (hb); have n5_ := Aside0.mk (ho); clear BK331; clear BK332; clear BK335; clear BK340; clear HB; clear HO_336001; have BK331 := n0_; have BK332 := n1_; have BK335 := n2_; have BK340 := n3_; have HB := n4_; have HO343 := n5_; clear n0_ n1_ n2_ n3_ n4_ n5_; clear ho hb hg hat; obtain ⟨Ao59, co59, eo59⟩ := Kd.R_slice HO343.out; subst eo59; have hcz60_0 : w58.cell? ⟨gb335, 0, none⟩ = some (.string a0_0) := (blk_cell BK335.out 0).trans rfl; have hcz60_1 : w58.cell? ⟨gb335, 1, none⟩ = some (u336001) := (blk_cell BK335.out 1).trans rfl; have hfz60_0 := blk_frozen BK335.out 0; have hfz60_1 := blk_frozen BK335.out 1; have hnb61 := NB340_331.out; have hnc61 := NB331_340.out; have hnb62 := NB340_332.out; have hnc62 := NB332_340.out; have hcz63_0 : w58.cell? ⟨gb340, 0, none⟩ = some (.int .i64 ((rd_T58 l0_1 x28_2).f0)) := (blk_cell BK340.out 0).trans rfl; have hcz63_1 : w58.cell? ⟨gb340, 1, none⟩ = some (.string ((rd_T58 l0_1 x28_2).f1)) := (blk_cell BK340.out 1).trans rfl; have hfz63_0 := blk_frozen BK340.out 0; have hfz63_1 := blk_frozen BK340.out 1) | ((with_reducible refine gate_builtin (b := .append) (xs := #[.tmp 53, .tmp 55]) rfl ?_); at_builtin; refine Kd.R_append k58 (w0 := w) w.heap.size rfl (.tmp 53) (.tmp 55) 25 58 (.agg #[(.int .i64 0), (.string ⟨#[]⟩)]) 24 rfl Try.underlying25 info58 rfl (by decide) (by omega) (.slice Ao59 y341.length co59) y341 (⟨((rd_T58 l0_1 x28_2).f0), ((rd_T58 l0_1 x28_2).f1)⟩ : S58) [.int .i64 ((rd_T58 l0_1 x28_2).f0), .string ((rd_T58 l0_1 x28_2).f1)] (fun k_ => k_ ≠ gb340) (fun _ => False) rfl (by first | (go_simp; done) | (go_simp; rfl)) ?aP (fun _ hk => hk.elim) ?aF ?aO ?aB ?aS ?aL ?_; (case aP => exact k58_mkM _ _ _ (⟨((rd_T58 l0_1 x28_2).f0), ((rd_T58 l0_1 x28_2).f1)⟩ : S58)); (case aB => exact (by repeat (first | (with_reducible first | exact HB.out | apply below_alloc | apply pw_below_drewN | apply below_drew1 | refine below_set ?_ GE331.out | refine below_set ?_ GE332.out | refine below_set ?_ GE335.out | refine below_set ?_ GE340.out) | exact HB.out))); (case aF => exact (fun k_ hk => Kd.freshB (g := gb340) (o := .cells #[.int .i64 ((rd_T58 l0_1 x28_2).f0), .string ((rd_T58 l0_1 x28_2).f1)] 58 (0, 0)) (by (with_reducible repeat (first | refine blk_drewN ?_ _ | refine blk_drew ?_ | refine blk_alloc ?_ _)); refine blk_far ?_ NB340_335.out _; (with_reducible repeat (first | refine blk_drewN ?_ _ | refine blk_drew ?_ | refine blk_alloc ?_ _)); exact BK340.out) k_ hk)); (case aO => exact (by (with_reducible repeat (first | apply Kd.R_alloc | apply Kd.R_drewN | apply Kd.R_drew)); exact Kd.R_mono (Kd.R_far (p := ⟨gb335, 1, none⟩) (Kd.R_types HO343.out BK335.out (by decide)) (fun _ hk => hk.2) (.slice Ao59 y341.length co59)) (fun _ hk => hk.1))); (case aS => exact (below_size (by repeat (first | (with_reducible first | exact HB.out | apply below_alloc | apply pw_below_drewN | apply below_drew1 | refine below_set ?_ GE331.out | refine below_set ?_ GE332.out | refine below_set ?_ GE335.out | refine below_set ?_ GE340.out) | exact HB.out)))); (case aL => have := LMc53.out; omega); intro v345 w64 ho hb hg hat; rw [← Ny344.out] at ho; have n0_ := Aside0.mk (blk_grown (g := gb331) (o := .cells #[.string a0_0, .slice (some ad339) l0_1.length c0_1] 27 (0, 0)) (by (with_reducible repeat (first | refine blk_drewN ?_ _ | refine blk_drew ?_ | refine blk_alloc ?_ _)); refine blk_far ?_ NB331_335.out _; (with_reducible repeat (first | refine blk_drewN ?_ _ | refine blk_drew ?_ | refine blk_alloc ?_ _)); exact BK331.out) hg (Kd.R_ne HO343.out BK331.out (by decide))); have n1_ := Aside0.mk (blk_grown (g := gb332) (o := .cells #[.string (⟨#[]⟩ : ByteArray), .slice none 0 0] 27 (0, 0)) (by (with_reducible repeat (first | refine blk_drewN ?_ _ | refine blk_drew ?_ | refine blk_alloc ?_ _)); refine blk_far ?_ NB332_335.out _; (with_reducible repeat (first | refine blk_drewN ?_ _ | refine blk_drew ?_ | refine blk_alloc ?_ _)); exact BK332.out) hg (Kd.R_ne HO343.out BK332.out (by decide))); have n2_ := Aside0.mk (blk_grown (g := gb335) (o := .cells #[.string a0_0, .slice Ao59 y341.length co59] 27 (0, 0)) (by (with_reducible repeat (first | refine blk_drewN ?_ _ | refine blk_drew ?_ | refine blk_alloc ?_ _)); refine blk_put (cs := #[.string a0_0, u336001]) ?_ 1 _ rfl; (with_reducible repeat (first | refine blk_drewN ?_ _ | refine blk_drew ?_ | refine blk_alloc ?_ _)); exact BK335.out) hg (Kd.R_ne HO343.out BK335.out (by decide))); have n3_ := Aside0.mk (blk_grown (g := gb340) (o := .cells #[.int .i64 ((rd_T58 l0_1 x28_2).f0), .string ((rd_T58 l0_1 x28_2).f1)] 58 (0, 0)) (by (with_reducible repeat (first | refine blk_drewN ?_ _ | refine blk_drew ?_ | refine blk_alloc ?_ _)); refine blk_far ?_ NB340_335.out _; (with_reducible repeat (first | refine blk_drewN ?_ _ | refine blk_drew ?_ | refine blk_alloc ?_ _)); exact BK340.out) hg (Kd.R_away HO343.out (fun _ hk => hk))); have n4_ := Aside0.mk (hb); have n5_ := Aside0.mk (ho); clear BK331; clear BK332; clear BK335; clear BK340; clear HB; clear HO343; have BK331 := n0_; have BK332 := n1_; have BK335 := n2_; have BK340 := n3_; have HB := n4_; have HO346 := n5_; clear n0_ n1_ n2_ n3_ n4_ n5_; clear ho hb hg hat; obtain ⟨Ao65, co65, eo65⟩ := Kd.R_slice HO346.out; subst eo65; have hcz66_0 : w64.cell? ⟨gb335, 0, none⟩ = some (.string a0_0) := (blk_cell BK335.out 0).trans rfl; have hcz66_1 : w64.cell? ⟨gb335, 1, none⟩ = some (.slice Ao59 y341.length co59) := (blk_cell BK335.out 1).trans rfl; have hfz66_0 := blk_frozen BK335.out 0; have hfz66_1 := blk_frozen BK335.out 1))
               go_roundg kj28
               case measure => have := HJ3.out; have := HK2.out; have := HJ28.out; omega
               case rel => exact ⟨(true), (wrap64 (x28_2 + 1)), (y344), (.slice Ao65 y344.length co65), (by first | rfl | (simp; done) | (simp [*]; done) | (simp [i64_w, IntKind.wrap_u8, e256_]; done) | (simp; generalize ByteArray.toList _ = zz_; cases zz_ <;> rfl)), (by first | rfl | (simp; done) | (simp [*]; done) | (simp [i64_w, IntKind.wrap_u8, e256_]; done) | (simp; generalize ByteArray.toList _ = zz_; cases zz_ <;> rfl)), H', ⟨by have := HJ3.out; have := HK2.out; have := HJ28.out; omega⟩, ⟨by (with_reducible repeat (first | apply Kd.R_alloc | apply Kd.R_drewN | apply Kd.R_drew)); exact Kd.R_mono (Kd.R_far (p := ⟨gb335, 1, none⟩) (Kd.R_types HO346.out BK335.out (by decide)) (fun _ hk => hk.2) (.slice Ao65 y344.length co65)) (fun _ hk => trivial)⟩, ⟨by (with_reducible repeat (first | refine blk_drewN ?_ _ | refine blk_drew ?_ | refine blk_alloc ?_ _)); refine blk_far ?_ NB331_335.out _; (with_reducible repeat (first | refine blk_drewN ?_ _ | refine blk_drew ?_ | refine blk_alloc ?_ _)); exact BK331.out⟩, ⟨by (with_reducible repeat (first | refine blk_drewN ?_ _ | refine blk_drew ?_ | refine blk_alloc ?_ _)); refine blk_far ?_ NB332_335.out _; (with_reducible repeat (first | refine blk_drewN ?_ _ | refine blk_drew ?_ | refine blk_alloc ?_ _)); exact BK332.out⟩, ⟨by (with_reducible repeat (first | refine blk_drewN ?_ _ | refine blk_drew ?_ | refine blk_alloc ?_ _)); refine blk_put (cs := #[.string a0_0, .slice Ao59 y341.length co59]) ?_ 1 _ rfl; (with_reducible repeat (first | refine blk_drewN ?_ _ | refine blk_drew ?_ | refine blk_alloc ?_ _)); exact BK335.out⟩, ⟨by repeat (first | (with_reducible first | exact HB.out | apply below_alloc | apply pw_below_drewN | apply below_drew1 | refine below_set ?_ GE331.out | refine below_set ?_ GE332.out | refine below_set ?_ GE335.out | refine below_set ?_ GE340.out) | exact HB.out)⟩⟩
              ·rw [if_neg c53] at H
               exact absurd H (by simp)
            ·rw [if_neg c41] at H
             exact absurd H (by simp)
           ·replace c40 := Bool.eq_false_iff.mpr c40
            subst c40
            have H1 : (if ((rd_T58 l0_1 x28_2).f0) = a1 then (spec_WithField.l0 kj28 a1 a2 x9_2 l0_1 (l0_1.length : Int) (wrap64 (x28_2 + 1)) a0_0 x336001_2) else (if x336001_2.length < 5864062014805 then (spec_WithField.l0 kj28 a1 a2 x9_2 l0_1 (l0_1.length : Int) (wrap64 (x28_2 + 1)) a0_0 (x336001_2 ++ [(⟨((rd_T58 l0_1 x28_2).f0), ((rd_T58 l0_1 x28_2).f1)⟩ : S58)])) else (none))) = some (r1, r2, r3) := by rw [if_neg (show ¬ (false = true) by decide)] at H; exact H
            clear H
            have H := H1
            clear H1
            by_cases c67 : ((rd_T58 l0_1 x28_2).f0) = a1
            ·rw [if_pos c67] at H
             have c67b0 : (((rd_T58 l0_1 x28_2).f0) == a1) = true := beq_iff_eq.mpr c67
             have c67b1 : (((rd_T58 l0_1 x28_2).f0) != a1) = false := bne_eq_false_iff_eq.mpr c67
             clear c67
             have H' := Aside0.mk H
             clear H
             have hnb68 := NB340_331.out
             have hnc68 := NB331_340.out
             have hnb69 := NB340_332.out
             have hnc69 := NB332_340.out
             have hnb70 := NB340_335.out
             have hnc70 := NB335_340.out
             have hcz71_0 : wc.cell? ⟨gb340, 0, none⟩ = some (.int .i64 ((rd_T58 l0_1 x28_2).f0)) := (blk_cell BK340.out 0).trans rfl
             have hcz71_1 : wc.cell? ⟨gb340, 1, none⟩ = some (.string ((rd_T58 l0_1 x28_2).f1)) := (blk_cell BK340.out 1).trans rfl
             have hfz71_0 := blk_frozen BK340.out 0
             have hfz71_1 := blk_frozen BK340.out 1
             go_wp2
             go_roundg kj28
             case measure => have := HJ3.out; have := HK2.out; have := HJ28.out; omega
             case rel => exact ⟨(x9_2), (wrap64 (x28_2 + 1)), (x336001_2), (u336001), (by first | rfl | (simp; done) | (simp [*]; done) | (simp [i64_w, IntKind.wrap_u8, e256_]; done) | (simp; generalize ByteArray.toList _ = zz_; cases zz_ <;> rfl)), (by first | rfl | (simp; done) | (simp [*]; done) | (simp [i64_w, IntKind.wrap_u8, e256_]; done) | (simp; generalize ByteArray.toList _ = zz_; cases zz_ <;> rfl)), H', ⟨by have := HJ3.out; have := HK2.out; have := HJ28.out; omega⟩, ⟨by (with_reducible repeat (first | apply Kd.R_alloc | apply Kd.R_drewN | apply Kd.R_drew)); exact Kd.R_mono HO_336001.out (fun _ hk => trivial)⟩, ⟨by (with_reducible repeat (first | refine blk_drewN ?_ _ | refine blk_drew ?_ | refine blk_alloc ?_ _)); exact BK331.out⟩, ⟨by (with_reducible repeat (first | refine blk_drewN ?_ _ | refine blk_drew ?_ | refine blk_alloc ?_ _)); exact BK332.out⟩, ⟨by (with_reducible repeat (first | refine blk_drewN ?_ _ | refine blk_drew ?_ | refine blk_alloc ?_ _)); exact BK335.out⟩, ⟨by repeat (first | (with_reducible first | exact HB.out | apply below_alloc | apply pw_below_drewN | apply below_drew1 | refine below_set ?_ GE331.out | refine below_set ?_ GE332.out | refine below_set ?_ GE335.out | refine below_set ?_ GE340.out) | exact HB.out)⟩⟩
            ·rw [if_neg c67] at H
             have c67b0 : (((rd_T58 l0_1 x28_2).f0) == a1) = false := beq_eq_false_iff_ne.mpr c67
             have c67b1 : (((rd_T58 l0_1 x28_2).f0) != a1) = true := bne_iff_ne.mpr c67
             by_cases c72 : x336001_2.length < 5864062014805
             ·rw [if_pos c72] at H
              have LMc72 := Aside0.mk c72
              clear c72
              obtain ⟨y347, hy347⟩ : ∃ y_ : List (S58), y_ = (x336001_2 ++ [(⟨((rd_T58 l0_1 x28_2).f0), ((rd_T58 l0_1 x28_2).f1)⟩ : S58)]) := ⟨_, rfl⟩
              replace H : (spec_WithField.l0 kj28 a1 a2 x9_2 l0_1 (l0_1.length : Int) (wrap64 (x28_2 + 1)) a0_0 y347) = some (r1, r2, r3) := by first | (rw [hy347]; with_reducible exact H) | (have H2_ := (Option.bind_some _ _).symm.trans H; rw [hy347]; with_reducible exact H2_) | (have H2_ := (Option.bind_some _ _).symm.trans H; with_reducible exact H2_) | with_reducible exact H | (rw [hy347]; exact H) | exact H
              have Ny347 := Aside0.mk hy347
              clear hy347
              have H' := Aside0.mk H
              clear H
              have hnb73 := NB340_331.out
              have hnc73 := NB331_340.out
              have hnb74 := NB340_332.out
              have hnc74 := NB332_340.out
              have hnb75 := NB340_335.out
              have hnc75 := NB335_340.out
              have hcz76_0 : wc.cell? ⟨gb340, 0, none⟩ = some (.int .i64 ((rd_T58 l0_1 x28_2).f0)) := (blk_cell BK340.out 0).trans rfl
              have hcz76_1 : wc.cell? ⟨gb340, 1, none⟩ = some (.string ((rd_T58 l0_1 x28_2).f1)) := (blk_cell BK340.out 1).trans rfl
              have hfz76_0 := blk_frozen BK340.out 0
              have hfz76_1 := blk_frozen BK340.out 1
              have hnb77 := NB335_331.out
              have hnc77 := NB331_335.out
              have hnb78 := NB335_332.out
              have hnc78 := NB332_335.out
              have hcz79_0 : wc.cell? ⟨gb335, 0, none⟩ = some (.string a0_0) := (blk_cell BK335.out 0).trans rfl
              have hcz79_1 : wc.cell? ⟨gb335, 1, none⟩ = some (u336001) := (blk_cell BK335.out 1).trans rfl
              have hfz79_0 := blk_frozen BK335.out 0
              have hfz79_1 := blk_frozen BK335.out 1
              go_wp2_with (first | ((with_reducible refine gate_builtin (b := .append) (xs := #[.tmp 53, .tmp 55]) rfl ?_); at_builtin; refine Kd.R_append k58 (w0 := w) w.heap.size rfl (.tmp 53) (.tmp 55) 25 58 (.agg #[(.int .i64 0), (.string ⟨#[]⟩)]) 24 rfl Try.underlying25 info58 rfl (by decide) (by omega) u336001 x336001_2 (⟨((rd_T58 l0_1 x28_2).f0), ((rd_T58 l0_1 x28_2).f1)⟩ : S58) [.int .i64 ((rd_T58 l0_1 x28_2).f0), .string ((rd_T58 l0_1 x28_2).f1)] (fun k_ => k_ ≠ gb340) (fun _ => False) rfl rfl ?aP (fun _ hk => hk.elim) ?aF ?aO ?aB ?aS ?aL ?_; (case aP => exact k58_mkM _ _ _ (⟨((rd_T58 l0_1 x28_2).f0), ((rd_T58 l0_1 x28_2).f1)⟩ : S58)); (case aB => exact (by repeat (first | (with_reducible first | exact HB.out | apply below_alloc | apply pw_below_drewN | apply below_drew1 | refine below_set ?_ GE331.out | refine below_set ?_ GE332.out | refine below_set ?_ GE335.out | refine below_set ?_ GE340.out) | exact HB.out))); (case aF => exact (fun k_ hk => Kd.freshB (g := gb340) (o := .cells #[.int .i64 ((rd_T58 l0_1 x28_2).f0), .string ((rd_T58 l0_1 x28_2).f1)] 58 (0, 0)) (by (with_reducible repeat (first | refine blk_drewN ?_ _ | refine blk_drew ?_ | refine blk_alloc ?_ _)); exact BK340.out) k_ hk)); (case aO => exact (by (with_reducible repeat (first | apply Kd.R_alloc | apply Kd.R_drewN | apply Kd.R_drew)); exact HO_336001.out)); (case aS => exact (below_size (by repeat (first | (with_reducible first | exact HB.out | apply below_alloc | apply pw_below_drewN | apply below_drew1 | refine below_set ?_ GE331.out | refine below_set ?_ GE332.out | refine below_set ?_ GE335.out | refine below_set ?_ GE340.out) | exact HB.out)))); (case aL => have := LMc72.out; omega); intro v348 w80 ho hb hg hat; rw [← Ny347.out] at ho; have n0_ := Aside0.mk (blk_grown (g := gb331) (o := .cells #[.string a0_0, .slice (some ad339) l0_1.length c0_1] 27 (0, 0)) (by (with_reducible repeat (first | refine blk_drewN ?_ _ | refine blk_drew ?_ | refine blk_alloc ?_ _)); exact BK331.out) hg (Kd.R_ne HO_336001.out BK331.out (by decide))); have n1_ := Aside0.mk (blk_grown (g := gb332) (o := .cells #[.string (⟨#[]⟩ : ByteArray), .slice none 0 0] 27 (0, 0)) (by (with_reducible repeat (first | refine blk_drewN ?_ _ | refine blk_drew ?_ | refine blk_alloc ?_ _)); exact BK332.out) hg (Kd.R_ne HO_336001.out BK332.out (by decide))); have n2_ := Aside0.mk (blk_grown (g := gb335) (o := .cells #[.string a0_0, u336001] 27 (0, 0)) (by (with_reducible repeat (first | refine blk_drewN ?_ _ | refine blk_drew ?_ | refine blk_alloc ?_ _)); exact BK335.out) hg (Kd.R_ne HO_336001.out BK335.out (by decide))); have n3_ := Aside0.mk (blk_grown (g := gb340) (o := .cells #[.int .i64 ((rd_T58 l0_1 x28_2).f0), .string ((rd_T58 l0_1 x28_2).f1)] 58 (0, 0)) (by (with_reducible repeat (first | refine blk_drewN ?_ _ | refine blk_drew ?_ | refine blk_alloc ?_ _)); exact BK340.out) hg (Kd.R_away HO_336001.out (fun _ hk => hk))); have n4_ := Aside0.mk (hb); have n5_ := Aside0.mk (ho); clear BK331; clear BK332; clear BK335; clear BK340; clear HB; clear HO_336001; have BK331 := n0_; have BK332 := n1_; have BK335 := n2_; have BK340 := n3_; have HB := n4_; have HO349 := n5_; clear n0_ n1_ n2_ n3_ n4_ n5_; clear ho hb hg hat; obtain ⟨Ao81, co81, eo81⟩ := Kd.R_slice HO349.out; subst eo81; have hcz82_0 : w80.cell? ⟨gb335, 0, none⟩ = some (.string a0_0) := (blk_cell BK335.out 0).trans rfl; have hcz82_1 : w80.cell? ⟨gb335, 1, none⟩ = some (u336001) := (blk_cell BK335.out 1).trans rfl; have hfz82_0 := blk_frozen BK335.out 0; have hfz82_1 := blk_frozen BK335.out 1))
              go_roundg kj28
              case measure => have := HJ3.out; have := HK2.out; have := HJ28.out; omega
              case rel => exact ⟨(x9_2), (wrap64 (x28_2 + 1)), (y347), (.slice Ao81 y347.length co81), (by first | rfl | (simp; done) | (simp [*]; done) | (simp [i64_w, IntKind.wrap_u8, e256_]; done) | (simp; generalize ByteArray.toList _ = zz_; cases zz_ <;> rfl)), (by first | rfl | (simp; done) | (simp [*]; done) | (simp [i64_w, IntKind.wrap_u8, e256_]; done) | (simp; generalize ByteArray.toList _ = zz_; cases zz_ <;> rfl)), H', ⟨by have := HJ3.out; have := HK2.out; have := HJ28.out; omega⟩, ⟨by (with_reducible repeat (first | apply Kd.R_alloc | apply Kd.R_drewN | apply Kd.R_drew)); exact Kd.R_mono (Kd.R_far (p := ⟨gb335, 1, none⟩) (Kd.R_types HO349.out BK335.out (by decide)) (fun _ hk => hk.2) (.slice Ao81 y347.length co81)) (fun _ hk => trivial)⟩, ⟨by (with_reducible repeat (first | refine blk_drewN ?_ _ | refine blk_drew ?_ | refine blk_alloc ?_ _)); refine blk_far ?_ NB331_335.out _; (with_reducible repeat (first | refine blk_drewN ?_ _ | refine blk_drew ?_ | refine blk_alloc ?_ _)); exact BK331.out⟩, ⟨by (with_reducible repeat (first | refine blk_drewN ?_ _ | refine blk_drew ?_ | refine blk_alloc ?_ _)); refine blk_far ?_ NB332_335.out _; (with_reducible repeat (first | refine blk_drewN ?_ _ | refine blk_drew ?_ | refine blk_alloc ?_ _)); exact BK332.out⟩, ⟨by (with_reducible repeat (first | refine blk_drewN ?_ _ | refine blk_drew ?_ | refine blk_alloc ?_ _)); refine blk_put (cs := #[.string a0_0, u336001]) ?_ 1 _ rfl; (with_reducible repeat (first | refine blk_drewN ?_ _ | refine blk_drew ?_ | refine blk_alloc ?_ _)); exact BK335.out⟩, ⟨by repeat (first | (with_reducible first | exact HB.out | apply below_alloc | apply pw_below_drewN | apply below_drew1 | refine below_set ?_ GE331.out | refine below_set ?_ GE332.out | refine below_set ?_ GE335.out | refine below_set ?_ GE340.out) | exact HB.out)⟩⟩
             ·rw [if_neg c72] at H
              exact absurd H (by simp)
        ·rw [if_neg c28] at H
         exact absurd H (by simp)
       ·rw [if_neg c27] at H
        exact absurd H (by simp)
      ·rw [if_neg c26] at H
       have c26b0 : decide (x28_2 < (l0_1.length : Int)) = false := decide_eq_false c26
       clear c26
       by_cases c83 : x9_2 = true
       ·subst c83
        have H1 : (some (a0_0, x336001_2, true)) = some (r1, r2, r3) := by rw [if_pos rfl] at H; exact H
        clear H
        have H := H1
        clear H1
        simp only [Option.some.injEq, Prod.mk.injEq] at H
        obtain ⟨rfl, rfl, rfl⟩ := H
        have hnb84 := NB335_331.out
        have hnc84 := NB331_335.out
        have hnb85 := NB335_332.out
        have hnc85 := NB332_335.out
        have hcz86_0 : wr.cell? ⟨gb335, 0, none⟩ = some (.string a0_0) := (blk_cell BK335.out 0).trans rfl
        have hcz86_1 : wr.cell? ⟨gb335, 1, none⟩ = some (u336001) := (blk_cell BK335.out 1).trans rfl
        have hfz86_0 := blk_frozen BK335.out 0
        have hfz86_1 := blk_frozen BK335.out 1
        have hnb87 := NB332_331.out
        have hnc87 := NB331_332.out
        have hcz88_0 : wr.cell? ⟨gb332, 0, none⟩ = some (.string (⟨#[]⟩ : ByteArray)) := (blk_cell BK332.out 0).trans rfl
        have hcz88_1 : wr.cell? ⟨gb332, 1, none⟩ = some (.slice none 0 0) := (blk_cell BK332.out 1).trans rfl
        have hfz88_0 := blk_frozen BK332.out 0
        have hfz88_1 := blk_frozen BK332.out 1
        obtain ⟨Ao89, co89, eo89⟩ := Kd.R_slice HO_336001.out
        subst eo89
        go_wp2
        refine bodyPost_ret (results_ct rfl _ _ gb332 27 #[.string a0_0, .slice Ao89 x336001_2.length co89] (0, 0) _ rfl (by (with_reducible repeat (first | refine blk_drewN ?_ _ | refine blk_drew ?_ | refine blk_alloc ?_ _)); refine blk_put (cs := #[.string a0_0, .slice none 0 0]) ?_ 1 _ rfl; (with_reducible repeat (first | refine blk_drewN ?_ _ | refine blk_drew ?_ | refine blk_alloc ?_ _)); refine blk_put (cs := #[.string (⟨#[]⟩ : ByteArray), .slice none 0 0]) ?_ 0 _ rfl; (with_reducible repeat (first | refine blk_drewN ?_ _ | refine blk_drew ?_ | refine blk_alloc ?_ _)); exact BK332.out) Try.underlying27 rfl (by kernel_rfl)) rfl ?_
        exact ⟨_, by first | rfl | (simp [errW_none, errW_some] <;> rfl) | (simp [*, errW_none, errW_some] <;> rfl), by (with_reducible repeat (first | apply Kd.R_alloc | apply Kd.R_drewN | apply Kd.R_drew)); exact Kd.R_mono (Kd.R_far (p := ⟨gb332, 1, none⟩) (Kd.R_far (p := ⟨gb332, 0, none⟩) (Kd.R_types HO_336001.out BK332.out (by decide)) (fun _ hk => hk.2) (.string a0_0)) (fun _ hk => hk.2) (.slice Ao89 x336001_2.length co89)) (fun _ hk => trivial), by repeat (first | (with_reducible first | exact HB.out | apply below_alloc | apply pw_below_drewN | apply below_drew1 | refine below_set ?_ GE331.out | refine below_set ?_ GE332.out | refine below_set ?_ GE335.out) | exact HB.out)⟩
       ·replace c83 := Bool.eq_false_iff.mpr c83
        subst c83
        have H1 : (if x336001_2.length < 5864062014805 then (some (a0_0, (x336001_2 ++ [(⟨a1, a2⟩ : S58)]), true)) else (none)) = some (r1, r2, r3) := by rw [if_neg (show ¬ (false = true) by decide)] at H; exact H
        clear H
        have H := H1
        clear H1
        by_cases c90 : x336001_2.length < 5864062014805
        ·rw [if_pos c90] at H
         have LMc90 := Aside0.mk c90
         clear c90
         obtain ⟨y336, hy336⟩ : ∃ y_ : List (S58), y_ = (x336001_2 ++ [(⟨a1, a2⟩ : S58)]) := ⟨_, rfl⟩
         replace H : (some (a0_0, y336, true)) = some (r1, r2, r3) := by first | (rw [hy336]; with_reducible exact H) | (have H2_ := (Option.bind_some _ _).symm.trans H; rw [hy336]; with_reducible exact H2_) | (have H2_ := (Option.bind_some _ _).symm.trans H; with_reducible exact H2_) | with_reducible exact H | (rw [hy336]; exact H) | exact H
         have Ny336 := Aside0.mk hy336
         clear hy336
         simp only [Option.some.injEq, Prod.mk.injEq] at H
         obtain ⟨rfl, rfl, rfl⟩ := H
         have hnb91 := NB335_331.out
         have hnc91 := NB331_335.out
         have hnb92 := NB335_332.out
         have hnc92 := NB332_335.out
         have hcz93_0 : wr.cell? ⟨gb335, 0, none⟩ = some (.string a0_0) := (blk_cell BK335.out 0).trans rfl
         have hcz93_1 : wr.cell? ⟨gb335, 1, none⟩ = some (u336001) := (blk_cell BK335.out 1).trans rfl
         have hfz93_0 := blk_frozen BK335.out 0
         have hfz93_1 := blk_frozen BK335.out 1
         go_wp2_with (first | ((with_reducible refine gate_builtin (b := .append) (xs := #[.tmp 62, .tmp 66]) rfl ?_); at_builtin; refine Kd.R_append k58 (w0 := w) w.heap.size rfl (.tmp 62) (.tmp 66) 25 58 (.agg #[(.int .i64 0), (.string ⟨#[]⟩)]) 24 rfl Try.underlying25 info58 rfl (by decide) (by omega) u336001 x336001_2 (⟨a1, a2⟩ : S58) [.int .i64 a1, .string a2] (fun _ => True) (fun _ => False) rfl rfl ?aP (fun _ hk => hk.elim) ?aF ?aO ?aB ?aS ?aL ?_; (case aP => exact k58_mkM _ _ _ (⟨a1, a2⟩ : S58)); (case aB => exact (by repeat (first | (with_reducible first | exact HB.out | apply below_alloc | apply pw_below_drewN | apply below_drew1 | refine below_set ?_ GE331.out | refine below_set ?_ GE332.out | refine below_set ?_ GE335.out) | exact HB.out))); (case aF => exact (fun _ _ => trivial)); (case aO => exact (by (with_reducible repeat (first | apply Kd.R_alloc | apply Kd.R_drewN | apply Kd.R_drew)); exact HO_336001.out)); (case aS => exact (below_size (by repeat (first | (with_reducible first | exact HB.out | apply below_alloc | apply pw_below_drewN | apply below_drew1 | refine below_set ?_ GE331.out | refine below_set ?_ GE332.out | refine below_set ?_ GE335.out) | exact HB.out)))); (case aL => have := LMc90.out; omega); intro v337 w94 ho hb hg hat; rw [← Ny336.out] at ho; have n0_ := Aside0.mk (blk_grown (g := gb331) (o := .cells #[.string a0_0, .slice A0_1 l0_1.length c0_1] 27 (0, 0)) (by (with_reducible repeat (first | refine blk_drewN ?_ _ | refine blk_drew ?_ | refine blk_alloc ?_ _)); exact BK331.out) hg (Kd.R_ne HO_336001.out BK331.out (by decide))); have n1_ := Aside0.mk (blk_grown (g := gb332) (o := .cells #[.string (⟨#[]⟩ : ByteArray), .slice none 0 0] 27 (0, 0)) (by (with_reducible repeat (first | refine blk_drewN ?_ _ | refine blk_drew ?_ | refine blk_alloc ?_ _)); exact BK332.out) hg (Kd.R_ne HO_336001.out BK332.out (by decide))); have n2_ := Aside0.mk (blk_grown (g := gb335) (o := .cells #[.string a0_0, u336001] 27 (0, 0)) (by (with_reducible repeat (first | refine blk_drewN ?_ _ | refine blk_drew ?_ | refine blk_alloc ?_ _)); exact BK335.out) hg (Kd.R_ne HO_336001.out BK335.out (by decide))); have n3_ := Aside0.mk (hb); have n4_ := Aside0.mk (ho); clear BK331; clear BK332; clear BK335; clear HB; clear HO_336001; have BK331 := n0_; have BK332 := n1_; have BK335 := n2_; have HB := n3_; have HO338 := n4_; clear n0_ n1_ n2_ n3_ n4_; clear ho hb hg hat; obtain ⟨Ao95, co95, eo95⟩ := Kd.R_slice HO338.out; subst eo95; have hcz96_0 : w94.cell? ⟨gb335, 0, none⟩ = some (.string a0_0) := (blk_cell BK335.out 0).trans rfl; have hcz96_1 : w94.cell? ⟨gb335, 1, none⟩ = some (u336001) := (blk_cell BK335.out 1).trans rfl; have hfz96_0 := blk_frozen BK335.out 0; have hfz96_1 := blk_frozen BK335.out 1; have hnb97 := NB332_331.out; have hnc97 := NB331_332.out; have hcz98_0 : w94.cell? ⟨gb332, 0, none⟩ = some (.string (⟨#[]⟩ : ByteArray)) := (blk_cell BK332.out 0).trans rfl; have hcz98_1 : w94.cell? ⟨gb332, 1, none⟩ = some (.slice none 0 0) := (blk_cell BK332.out 1).trans rfl; have hfz98_0 := blk_frozen BK332.out 0; have hfz98_1 := blk_frozen BK332.out 1))
         refine bodyPost_ret (results_ct rfl _ _ gb332 27 #[.string a0_0, .slice Ao95 y336.length co95] (0, 0) _ rfl (by (with_reducible repeat (first | refine blk_drewN ?_ _ | refine blk_drew ?_ | refine blk_alloc ?_ _)); refine blk_put (cs := #[.string a0_0, .slice none 0 0]) ?_ 1 _ rfl; (with_reducible repeat (first | refine blk_drewN ?_ _ | refine blk_drew ?_ | refine blk_alloc ?_ _)); refine blk_put (cs := #[.string (⟨#[]⟩ : ByteArray), .slice none 0 0]) ?_ 0 _ rfl; (with_reducible repeat (first | refine blk_drewN ?_ _ | refine blk_drew ?_ | refine blk_alloc ?_ _)); refine blk_far ?_ NB332_335.out _; (with_reducible repeat (first | refine blk_drewN ?_ _ | refine blk_drew ?_ | refine blk_alloc ?_ _)); exact BK332.out) Try.underlying27 rfl (by kernel_rfl)) rfl ?_
         exact ⟨_, by first | rfl | (simp [errW_none, errW_some] <;> rfl) | (simp [*, errW_none, errW_some] <;> rfl), by (with_reducible repeat (first | apply Kd.R_alloc | apply Kd.R_drewN | apply Kd.R_drew)); exact Kd.R_mono (Kd.R_far (p := ⟨gb332, 1, none⟩) (Kd.R_far (p := ⟨gb332, 0, none⟩) (Kd.R_far (p := ⟨gb335, 1, none⟩) (Kd.R_types (Kd.R_types HO338.out BK335.out (by decide)) BK332.out (by decide)) (fun _ hk => hk.1.2) (.slice Ao95 y336.length co95)) (fun _ hk => hk.2) (.string a0_0)) (fun _ hk => hk.2) (.slice Ao95 y336.length co95)) (fun _ hk => trivial), by repeat (first | (with_reducible first | exact HB.out | apply below_alloc | apply pw_below_drewN | apply below_drew1 | refine below_set ?_ GE331.out | refine below_set ?_ GE332.out | refine below_set ?_ GE335.out) | exact HB.out)⟩
        ·rw [if_neg c90] at H
         exact absurd H (by simp)
end Go.Proofs.Ytdcbpnhbbglbhaa.Q
end
section
/- Lemmas on what the printed functions compute (withField); no condition. -/
namespace Go.Proofs.Ytdcbpnhbbglbhaa.Q
open Go.RowKit Go.Proofs.YtdcbpnhbbglbhaaW.PrintWords Go.Proofs.YtdcbpnhbbglbhaaW.PrintLast Go.Proofs.YtdcbpnhbbglbhaaW.PrintMore
set_option linter.unusedVariables false
set_option linter.unusedSimpArgs false

/-- The fields with f put in, as the reference does it; and as the program does it in what is left of them without f's number. -/
def wins (x : Int) (f : IF) : List IF → List IF
  | [] => [f]
  | g :: t => if g.f0 ≥ x then f :: without (g :: t) x else g :: wins x f t
def wput (x : Int) (f : IF) : List IF → List IF
  | [] => [f]
  | g :: t => if g.f0 < x then g :: wput x f t else f :: g :: t

theorem without_cons (g : IF) (t : List IF) (x : Int) : without (g :: t) x = if g.f0 = x then without t x else g :: without t x := by
  unfold without
  by_cases h : g.f0 = x <;> simp [h]

theorem okFrom_sorted : ∀ (l : List IF) (p : Option Int), okFrom p l = true → (∀ q, p = some q → ∀ f ∈ l, q < f.f0) ∧ l.Pairwise (fun a b => a.f0 < b.f0) := by
  intro l
  induction l with
  | nil => intro p _; exact ⟨fun _ _ f hf => (by cases hf), List.Pairwise.nil⟩
  | cons g t ih =>
    intro p h
    rw [okFrom_cons] at h
    simp only [Bool.and_eq_true] at h
    obtain ⟨⟨_, h2⟩, h3⟩ := h
    obtain ⟨i1, i2⟩ := ih (some g.f0) h3
    refine ⟨fun q hq f hf => ?_, List.Pairwise.cons (fun f hf => i1 _ rfl f hf) i2⟩
    subst hq
    simp only [decide_eq_true_eq] at h2
    rcases List.mem_cons.1 hf with rfl | hf
    · exact h2
    · have := i1 _ rfl f hf
      omega

theorem wput_above (x : Int) (f : IF) (l : List IF) (h : ∀ g ∈ l, x < g.f0) : wput x f l = f :: l := by
  cases l with
  | nil => rfl
  | cons g t =>
    have := h g List.mem_cons_self
    rw [wput, if_neg (by omega)]

theorem wins_wput (x : Int) (f : IF) : ∀ (l : List IF), l.Pairwise (fun a b => a.f0 < b.f0) → wins x f l = wput x f (without l x) := by
  intro l
  induction l with
  | nil => intro _; rfl
  | cons g t ih =>
    intro h
    obtain ⟨h1, h2⟩ := List.pairwise_cons.1 h
    rw [wins, without_cons]
    by_cases q1 : g.f0 = x
    · rw [if_pos (by omega), if_pos q1]
      refine (wput_above x f _ (fun g' hg => ?_)).symm
      have := h1 g' (List.mem_filter.1 hg).1
      omega
    · rw [if_neg q1]
      by_cases q2 : g.f0 < x
      · rw [if_neg (by omega), wput, if_pos q2, ih h2]
      · rw [if_pos (by omega), wput, if_neg q2]

theorem wput_length (x : Int) (f : IF) : ∀ (l : List IF), (wput x f l).length = l.length + 1 := by
  intro l
  induction l with
  | nil => rfl
  | cons g t ih =>
    rw [wput]
    split
    · simp [ih]
    · simp

theorem spec_With_done (x : Int) (s : ByteArray) (m : ByteArray) (l : List IF) (hl : l.length ≤ 10000000) : ∀ (d n k : Nat) (y : List IF), n + d = l.length → y.length ≤ n + 1 → 2 * d < k →
    spec_WithField.l0 k x s true l (l.length : Int) (n : Int) m y = some (m, y ++ without (l.drop n) x, true) := by
  intro d
  induction d with
  | zero =>
    intro n k y hd hy hk
    obtain ⟨k, rfl⟩ : ∃ m, k = m + 1 := ⟨k - 1, by omega⟩
    rw [spec_WithField.l0, if_neg (by omega), if_pos rfl, List.drop_eq_nil_of_le (by omega)]
    simp [without]
  | succ d ih =>
    intro n k y hd hy hk
    obtain ⟨k, rfl⟩ : ∃ m, k = m + 2 := ⟨k - 2, by omega⟩
    rw [spec_WithField.l0, if_pos (by omega), if_pos (by omega), if_pos (by omega), if_pos rfl, spec_WithField.j2, if_neg (by simp), dropF l n (by omega), without_cons, w64s (by omega)]
    by_cases q : (rd_T58 l (n : Int)).f0 = x
    · rw [if_pos q, if_pos q]
      exact ih (n + 1) k y (by omega) (by omega) (by omega)
    · rw [if_neg q, if_neg q, if_pos (by omega), ih (n + 1) k _ (by omega) (by simp; omega) (by omega)]
      simp

theorem spec_With_l (x : Int) (s : ByteArray) (m : ByteArray) (l : List IF) (hl : l.length ≤ 10000000) : ∀ (d n k : Nat) (y : List IF), n + d = l.length → y.length ≤ n → 2 * d < k →
    spec_WithField.l0 k x s false l (l.length : Int) (n : Int) m y = some (m, y ++ wins x ⟨x, s⟩ (l.drop n), true) := by
  intro d
  induction d with
  | zero =>
    intro n k y hd hy hk
    obtain ⟨k, rfl⟩ : ∃ m, k = m + 1 := ⟨k - 1, by omega⟩
    rw [spec_WithField.l0, if_neg (by omega), if_neg (by simp), if_pos (by omega), List.drop_eq_nil_of_le (by omega)]
    rfl
  | succ d ih =>
    intro n k y hd hy hk
    obtain ⟨k, rfl⟩ : ∃ m, k = m + 2 := ⟨k - 2, by omega⟩
    rw [spec_WithField.l0, if_pos (by omega), if_pos (by omega), if_pos (by omega), if_neg (by simp), spec_WithField.j2, dropF l n (by omega), wins, w64s (by omega)]
    by_cases q : (rd_T58 l (n : Int)).f0 ≥ x
    · rw [if_pos (decide_eq_true q), if_pos q, if_pos (by omega), Option.bind_some, without_cons]
      by_cases q1 : (rd_T58 l (n : Int)).f0 = x
      · rw [if_pos q1, if_pos q1, spec_With_done x s m l hl d (n + 1) k _ (by omega) (by simp; omega) (by omega)]
        simp
      · rw [if_neg q1, if_neg q1, if_pos (by simp; omega), spec_With_done x s m l hl d (n + 1) k _ (by omega) (by simp; omega) (by omega)]
        simp
    · rw [if_neg (by simpa using q), if_neg q, if_neg (by omega), if_pos (by omega), ih (n + 1) k _ (by omega) (by simp; omega) (by omega)]
      simp

theorem impl_With_l (x : Int) (s : ByteArray) (m : ByteArray) (y : List IF) (hl : y.length ≤ 10000000) : ∀ (d n k : Nat), n + d = y.length → d < k →
    impl_WithField.l0 k x s (n : Int) m y = some (m, y.take n ++ wput x ⟨x, s⟩ (y.drop n), true) := by
  have hins : ∀ n : Nat, n ≤ y.length → impl_Field_36.f y (n : Int) [⟨x, s⟩] = some (y.take n ++ [⟨x, s⟩] ++ y.drop n) := by
    intro n hn
    unfold impl_Field_36.f
    rw [if_pos ⟨by omega, by omega, rfl, by omega⟩, Int.toNat_natCast]
  intro d
  induction d with
  | zero =>
    intro n k hd hk
    obtain ⟨k, rfl⟩ : ∃ m, k = m + 1 := ⟨k - 1, by omega⟩
    rw [impl_WithField.l0, if_neg (by omega), hins n (by omega), Option.bind_some, List.drop_eq_nil_of_le (by omega)]
    simp [wput]
  | succ d ih =>
    intro n k hd hk
    obtain ⟨k, rfl⟩ : ∃ m, k = m + 1 := ⟨k - 1, by omega⟩
    have hlt : n < y.length := by omega
    rw [impl_WithField.l0, if_pos (by omega), if_pos (by omega), dropF y n hlt, wput]
    by_cases q : (rd_T58 y (n : Int)).f0 < x
    · rw [if_pos q, if_pos q, w64s (by omega), ih (n + 1) k (by omega) (by omega), List.take_succ_eq_append_getElem hlt, rdF_nat y n hlt, List.append_assoc, List.singleton_append]
    · rw [if_neg q, if_neg q, hins n (by omega), Option.bind_some, ← dropF y n hlt]
      simp

/-- What WithField answers. -/
def withField (m : ByteArray) (l : List IF) (x : Int) (s : ByteArray) : ByteArray × List IF × Bool :=
  if msgOk m l = true ∧ fieldOk x (bytesOf s) = true then (m, wput x ⟨x, s⟩ (without l x), true) else (⟨#[]⟩, [], false)

theorem withField_length (m : ByteArray) (l : List IF) (x : Int) (s : ByteArray) : (withField m l x s).2.1.length ≤ l.length + 1 := by
  unfold withField
  split
  · simp only
    rw [wput_length]
    have := without_length l x
    omega
  · simp

theorem spec_WithField_at (m : ByteArray) (l : List IF) (x : Int) (s : ByteArray) (hm : m.size ≤ 10000000) (hl : l.length ≤ 10000000) (hs : s.size ≤ 10000000) (hw : ∀ f ∈ l, f.f1.size ≤ 10000000) (k : Nat) (hk : 100000000 ≤ k) : spec_WithField.f k m l x s = some (withField m l x s) := by
  obtain ⟨k, rfl⟩ : ∃ m, k = m + 1 := ⟨k - 1, by omega⟩
  unfold spec_WithField.f withField
  rw [spec_MsgOk_at m l hm hl 10000000 (by omega) hw _ (by omega), Option.bind_some]
  cases h1 : msgOk m l with
  | false => rw [if_neg (by simp), spec_WithField.j0, if_pos rfl, if_neg (by simp)]
  | true =>
    rw [if_pos rfl, spec_FieldOk_at x s (by omega) _ (by omega), Option.bind_some, spec_WithField.j0]
    cases h2 : fieldOk x (bytesOf s) with
    | false => rw [if_pos (show (!false) = true from rfl), if_neg (by simp)]
    | true =>
      rw [if_neg (by simp), if_pos ⟨rfl, rfl⟩]
      have h3 : okFrom none l = true := by
        unfold msgOk at h1
        simp only [Bool.and_eq_true] at h1
        exact h1.2
      rw [← wins_wput x ⟨x, s⟩ l (okFrom_sorted l none h3).2]
      exact spec_With_l x s m l hl l.length 0 k [] (by omega) (by simp) (by omega)

theorem impl_WithField_at (m : ByteArray) (l : List IF) (x : Int) (s : ByteArray) (hm : m.size ≤ 10000000) (hl : l.length ≤ 10000000) (hs : s.size ≤ 10000000) (hw : ∀ f ∈ l, f.f1.size ≤ 10000000) (k : Nat) (hk : 100000000 ≤ k) : impl_WithField.f k m l x s = some (withField m l x s) := by
  obtain ⟨k, rfl⟩ : ∃ m, k = m + 1 := ⟨k - 1, by omega⟩
  unfold impl_WithField.f withField
  rw [impl_MsgOk_at m l hm hl 10000000 (by omega) hw _ (by omega), Option.bind_some]
  cases h1 : msgOk m l with
  | false => rw [if_neg (by simp), impl_WithField.j0, if_pos rfl, if_neg (by simp)]
  | true =>
    rw [if_pos rfl, impl_FieldOk_at x s (by omega) _ (by omega), Option.bind_some, impl_WithField.j0]
    cases h2 : fieldOk x (bytesOf s) with
    | false => rw [if_pos (show (!false) = true from rfl), if_neg (by simp)]
    | true =>
      rw [if_neg (by simp), if_pos ⟨rfl, rfl⟩, impl_WithoutField_at m l x hl k (by omega), Option.bind_some]
      have := without_length l x
      exact impl_With_l x s m (without l x) (by omega) (without l x).length 0 k (by omega) (by omega)
end Go.Proofs.Ytdcbpnhbbglbhaa.Q
end
section
/- Lemmas on what the printed functions compute (fieldFacts); no condition. -/
namespace Go.Proofs.Ytdcbpnhbbglbhaa.Q
open Go.RowKit Go.Proofs.YtdcbpnhbbglbhaaW.PrintWords Go.Proofs.YtdcbpnhbbglbhaaW.PrintLast Go.Proofs.YtdcbpnhbbglbhaaW.PrintMore
set_option linter.unusedVariables false
set_option linter.unusedSimpArgs false

theorem sizeOf_range (x : Int) : 0 ≤ sizeOf_ x ∧ sizeOf_ x ≤ 60 := by
  unfold sizeOf_
  repeat' split
  all_goals omega

theorem spec_l03Width_at (t : Int) (k : Nat) (hk : 2 ≤ k) : spec_l03Width.f k t = some (if t = 3 ∨ t = 4 then 2 else if t = 5 then 3 else 0) := by
  obtain ⟨k, rfl⟩ : ∃ m, k = m + 1 := ⟨k - 1, by omega⟩
  unfold spec_l03Width.f
  by_cases h3 : t = 3
  · subst h3; rfl
  by_cases h4 : t = 4
  · subst h4; rfl
  have e4 : (t == 4) = false := by simp [h4]
  rw [if_neg h3, if_neg (by omega), e4, spec_l03Width.j0, if_neg (by simp)]
  split <;> rfl

theorem known (x : Int) (h : ¬ kindOf x = 0) : x = 2 ∨ (x = 3 ∨ x = 4 ∨ x = 7 ∨ x = 11 ∨ x = 14 ∨ x = 49) ∨ (x = 37 ∨ x = 38 ∨ x = 39 ∨ x = 41 ∨ x = 95) ∨ (x = 102 ∨ x = 103) ∨ (x = 48 ∨ x = 54) := by
  unfold kindOf at h
  by_cases a : x = 2
  · exact .inl a
  by_cases b : x = 3 ∨ x = 4 ∨ x = 7 ∨ x = 11 ∨ x = 14 ∨ x = 49
  · exact .inr (.inl b)
  by_cases c : x = 37 ∨ x = 38 ∨ x = 39 ∨ x = 41 ∨ x = 95
  · exact .inr (.inr (.inl c))
  by_cases d : x = 102 ∨ x = 103
  · exact .inr (.inr (.inr (.inl d)))
  by_cases e : x = 48 ∨ x = 54
  · exact .inr (.inr (.inr (.inr e)))
  rw [if_neg a, if_neg b, if_neg c, if_neg d, if_neg e] at h
  exact absurd rfl h

theorem size_pos (x : Int) (h : ¬ kindOf x = 0) : 1 ≤ sizeOf_ x := by
  rcases known x h with rfl | (rfl | rfl | rfl | rfl | rfl | rfl) | (rfl | rfl | rfl | rfl | rfl) | (rfl | rfl) | (rfl | rfl) <;> decide

theorem fieldOk_len (x : Int) (l : List Int) (h : fieldOk x l = true) : 1 ≤ l.length ∧ (l.length : Int) ≤ sizeOf_ x := by
  unfold fieldOk at h
  have s0 := sizeOf_range x
  have hs : kindOf x = 2 → 1 ≤ sizeOf_ x := fun h => size_pos x (by omega)
  split at h
  · rename_i q
    simp only [Bool.and_eq_true, beq_iff_eq] at h
    have := (digs_and _ h.1).2
    omega
  split at h
  · rename_i q q2
    simp only [Bool.and_eq_true, beq_iff_eq] at h
    have := hs q2
    omega
  split at h
  · simp only [Bool.and_eq_true, decide_eq_true_eq] at h
    have := (digs_and _ h.1).2
    omega
  split at h
  · simp only [Bool.and_eq_true, decide_eq_true_eq] at h
    omega
  · exact absurd h (by simp)
end Go.Proofs.Ytdcbpnhbbglbhaa.Q
end
section
/- Lemmas on what the printed functions compute (draws); no condition. -/
namespace Go.Proofs.Ytdcbpnhbbglbhaa.Q
open Go.RowKit Go.Proofs.YtdcbpnhbbglbhaaW.PrintWords Go.Proofs.YtdcbpnhbbglbhaaW.PrintLast Go.Proofs.YtdcbpnhbbglbhaaW.PrintMore
set_option linter.unusedVariables false
set_option linter.unusedSimpArgs false

theorem and255 (x : Int) : 0 ≤ Go.bits .and .i64 x 255 ∧ Go.bits .and .i64 x 255 ≤ 255 := by
  have h : ∃ n : Nat, n ≤ 255 ∧ Go.bits .and .i64 x 255 = IntKind.i64.wrap (n : Int) := by
    refine ⟨(BitVec.ofInt 64 x).toNat &&& 255, Nat.and_le_right, ?_⟩
    simp only [Go.bits, BitVec.toNat_and]
    rfl
  obtain ⟨n, h1, h2⟩ := h
  rw [h2, IntKind.wrap_i64]
  omega

theorem l01New_l (b : List Int) (hb : b.length ≤ 10000000) : ∀ (d n k : Nat) (h : Int), n + d = b.length → d < k → ∃ h', spec_l01New.l0 k b h (n : Int) = some (b, 0, h') := by
  intro d
  induction d with
  | zero =>
    intro n k h hd hk
    obtain ⟨k, rfl⟩ : ∃ m, k = m + 1 := ⟨k - 1, by omega⟩
    exact ⟨h, by rw [spec_l01New.l0, if_neg (by omega)]⟩
  | succ d ih =>
    intro n k h hd hk
    obtain ⟨k, rfl⟩ : ∃ m, k = m + 1 := ⟨k - 1, by omega⟩
    by_cases q : (n : Int) < 4000
    · have e : wrap64 ((n : Int) + 1) = ((n + 1 : Nat) : Int) := by unfold wrap64; omega
      obtain ⟨h', hh⟩ := ih (n + 1) k (Go.bits .and .i64 (wrap64 ((wrap64 ((wrap64 (h * 31)) + (wrap64 (rd b (n : Int))))) + 7)) 1073741823) (by omega) (by omega)
      exact ⟨h', by rw [spec_l01New.l0, if_pos (by omega), if_pos q, if_pos (by omega), e]; exact hh⟩
    · exact ⟨h, by rw [spec_l01New.l0, if_pos (by omega), if_neg q]⟩

theorem l01New_at (b : List Int) (hb : b.length ≤ 10000000) (k : Nat) (hk : b.length < k) : ∃ h, spec_l01New.f k b = some (b, 0, h) := by
  unfold spec_l01New.f
  exact l01New_l b hb b.length 0 k _ (by omega) hk

theorem l01Byte_at (b : List Int) (i h : Int) (hb : b.length ≤ 10000000) (h0 : 0 ≤ i) (h1 : i ≤ (b.length : Int)) : ∃ r i' h', spec_l01Byte.f b i h = some (r, i', h') ∧ 0 ≤ r ∧ r ≤ 255 ∧ 0 ≤ i' ∧ i' ≤ (b.length : Int) := by
  unfold spec_l01Byte.f
  by_cases q : i < (b.length : Int)
  · rw [if_pos q, if_pos h0]
    have e : wrap64 (i + 1) = i + 1 := by unfold wrap64; omega
    exact ⟨_, _, _, rfl, (and255 _).1, (and255 _).2, by rw [e]; omega, by rw [e]; omega⟩
  · rw [if_neg q]
    exact ⟨_, _, _, rfl, (and255 _).1, (and255 _).2, h0, h1⟩

theorem l01Below_at (b : List Int) (i h n : Int) (hb : b.length ≤ 10000000) (h0 : 0 ≤ i) (h1 : i ≤ (b.length : Int)) (n0 : 0 < n) (n1 : n ≤ 256) : ∃ r i' h', spec_l01Below.f b i h n = some (r, i', h') ∧ 0 ≤ r ∧ r < n ∧ 0 ≤ i' ∧ i' ≤ (b.length : Int) := by
  obtain ⟨r, i', h', e, r0, r1, q0, q1⟩ := l01Byte_at b i h hb h0 h1
  unfold spec_l01Below.f
  rw [if_neg (by omega), if_pos n1, e, Option.bind_some, if_neg (by omega)]
  exact ⟨_, _, _, rfl, Int.tmod_nonneg _ r0, Int.tmod_lt_of_pos _ n0, q0, q1⟩

theorem l01Str_at (b : List Int) (i h : Int) (l : List ByteArray) (hb : b.length ≤ 10000000) (h0 : 0 ≤ i) (h1 : i ≤ (b.length : Int)) (n0 : 0 < l.length) (n1 : l.length ≤ 256) : ∃ s i' h', spec_l01Str.f b i h l = some (s, i', h') ∧ s ∈ l ∧ 0 ≤ i' ∧ i' ≤ (b.length : Int) := by
  obtain ⟨r, i', h', e, r0, r1, q0, q1⟩ := l01Below_at b i h (l.length : Int) hb h0 h1 (by omega) (by omega)
  unfold spec_l01Str.f
  rw [e, Option.bind_some, if_pos r0, if_pos r1]
  refine ⟨_, _, _, rfl, ?_, q0, q1⟩
  obtain ⟨n, rfl⟩ := Int.eq_ofNat_of_zero_le r0
  have hn : n < l.length := by omega
  unfold rdOf
  simp [List.getD, hn]

theorem l01Once_at (b : List Int) (i h n : Int) (hb : b.length ≤ 10000000) (h0 : 0 ≤ i) (h1 : i ≤ (b.length : Int)) (n0 : 0 < n) (n1 : n ≤ 256) : ∃ r i' h', spec_l01Once.f b i h n = some (r, i', h') ∧ 0 ≤ i' ∧ i' ≤ (b.length : Int) := by
  obtain ⟨r, i', h', e, r0, r1, q0, q1⟩ := l01Below_at b i h n hb h0 h1 n0 n1
  unfold spec_l01Once.f
  rw [e, Option.bind_some]
  exact ⟨_, _, _, rfl, q0, q1⟩

theorem l03Text_l (b : List Int) (hb : b.length ≤ 10000000) (N : Nat) (hN : N ≤ 1000) (t : Int) : ∀ (d k : Nat) (s : ByteArray) (i h : Int), s.size + d = N → 0 ≤ i → i ≤ (b.length : Int) → ((t = 1 ∨ t = 3) → (bytesOf s).all isDig = true) → (¬ (t = 1 ∨ t = 3) → (bytesOf s).all isPri = true) → 2 * d < k →
    ∃ s' i' h', spec_l03Text.l0 k (N : Int) t s b i h = some (s', i', h') ∧ s'.size = N ∧ ((t = 1 ∨ t = 3) → (bytesOf s').all isDig = true) ∧ (¬ (t = 1 ∨ t = 3) → (bytesOf s').all isPri = true) ∧ 0 ≤ i' ∧ i' ≤ (b.length : Int) := by
  intro d
  induction d with
  | zero =>
    intro k s i h hd h0 h1 hp1 hp2 hk
    obtain ⟨k, rfl⟩ : ∃ m, k = m + 1 := ⟨k - 1, by omega⟩
    rw [spec_l03Text.l0, if_neg (by omega)]
    exact ⟨s, i, h, rfl, by omega, hp1, hp2, h0, h1⟩
  | succ d ih =>
    intro k s i h hd h0 h1 hp1 hp2 hk
    obtain ⟨k, rfl⟩ : ∃ m, k = m + 2 := ⟨k - 2, by omega⟩
    have hgo : ∀ q : Bool, q = decide (t = 1 ∨ t = 3) → ∃ s' i' h', spec_l03Text.j2 (k + 1) (N : Int) t s q b i h = some (s', i', h') ∧ s'.size = N ∧ ((t = 1 ∨ t = 3) → (bytesOf s').all isDig = true) ∧ (¬ (t = 1 ∨ t = 3) → (bytesOf s').all isPri = true) ∧ 0 ≤ i' ∧ i' ≤ (b.length : Int) := by
      intro q hq
      subst hq
      by_cases z : t = 1 ∨ t = 3
      · obtain ⟨r, i', h', e, r0, r1, q0, q1⟩ := l01Below_at b i h 10 hb h0 h1 (by omega) (by omega)
        have e48 : wrap64 (48 + r) % 256 = 48 + r := by unfold wrap64; omega
        rw [spec_l03Text.j2, if_pos (decide_eq_true z), e, Option.bind_some, Option.bind_some]
        simp only
        rw [e48, strOfNums_size, if_pos (by simp; omega)]
        refine ih k _ i' h' (by rw [ByteArray.size_append, strOfNums_size]; simp; omega) q0 q1 (fun _ => ?_) (fun z' => absurd z z') (by omega)
        rw [bytesOf_append, List.all_append, hp1 z, bytesOf_strOfNums [48 + r] (fun c hc => by rw [List.mem_singleton.1 hc]; unfold isByte; omega)]
        unfold isDig
        simp; omega
      · obtain ⟨u, i', h', e, hu, q0, q1⟩ := l01Str_at b i h [(⟨#[97]⟩ : ByteArray), (⟨#[98]⟩ : ByteArray), (⟨#[55]⟩ : ByteArray), (⟨#[32]⟩ : ByteArray), (⟨#[126]⟩ : ByteArray)] hb h0 h1 (by decide) (by decide)
        have hu1 : u.size = 1 ∧ (bytesOf u).all isPri = true := by
          simp only [List.mem_cons, List.not_mem_nil, or_false] at hu
          rcases hu with rfl | rfl | rfl | rfl | rfl <;> exact ⟨rfl, rfl⟩
        rw [spec_l03Text.j2, if_neg (by simpa using z), e, Option.bind_some]
        simp only
        rw [if_pos (by omega)]
        refine ih k _ i' h' (by rw [ByteArray.size_append]; omega) q0 q1 (fun z' => absurd z' z) (fun _ => ?_) (by omega)
        rw [bytesOf_append, List.all_append, hp2 z, hu1.2]
        rfl
    rw [spec_l03Text.l0, if_pos (by omega)]
    by_cases z1 : t = 1
    · rw [if_pos z1]; exact hgo true (by simp [z1])
    · rw [if_neg z1]
      refine hgo _ ?_
      by_cases z3 : t = 3 <;> simp [z1, z3]

theorem l03Text_at (b : List Int) (i h x : Int) (hb : b.length ≤ 10000000) (h0 : 0 ≤ i) (h1 : i ≤ (b.length : Int)) (hx : ¬ kindOf x = 0) (k : Nat) (hk : 300 < k) : ∃ s i' h', spec_l03Text.f k b i h x = some (s, i', h') ∧ fieldOk x (bytesOf s) = true ∧ s.size ≤ 60 ∧ 0 ≤ i' ∧ i' ≤ (b.length : Int) := by
  have s0 := sizeOf_range x
  have s1 := size_pos x hx
  have kr := kind_range x
  obtain ⟨k, rfl⟩ : ∃ m, k = m + 1 := ⟨k - 1, by omega⟩
  have hgo : ∀ (N : Nat) (i h : Int), 1 ≤ N → (N : Int) ≤ sizeOf_ x → ((kindOf x = 1 ∨ kindOf x = 2) → (N : Int) = sizeOf_ x) → 0 ≤ i → i ≤ (b.length : Int) →
      ∃ s i' h', spec_l03Text.j0 (k + 1) (N : Int) (kindOf x) b i h = some (s, i', h') ∧ fieldOk x (bytesOf s) = true ∧ s.size ≤ 60 ∧ 0 ≤ i' ∧ i' ≤ (b.length : Int) := by
    intro N i h hN1 hN2 hN3 h0 h1
    obtain ⟨s, i', h', e, hz, p1, p2, q0, q1⟩ := l03Text_l b hb N (by omega) (kindOf x) N k ⟨#[]⟩ i h (by have : (⟨#[]⟩ : ByteArray).size = 0 := rfl; omega) h0 h1 (fun _ => rfl) (fun _ => rfl) (by omega)
    rw [spec_l03Text.j0]
    refine ⟨s, i', h', e, ?_, by omega, q0, q1⟩
    have hlen : ((bytesOf s).length : Int) = N := by rw [bytesOf_length, hz]
    have hne : digs (bytesOf s) = (bytesOf s).all isDig := by
      unfold digs
      have : (bytesOf s).isEmpty = false := by
        cases hh : bytesOf s with
        | nil => rw [hh] at hlen; simp at hlen; omega
        | cons a t => rfl
      rw [this]; simp
    unfold fieldOk
    rw [hlen, hne]
    by_cases z1 : kindOf x = 1
    · rw [if_pos z1, p1 (.inl z1), hN3 (.inl z1)]; simp
    rw [if_neg z1]
    by_cases z2 : kindOf x = 2
    · rw [if_pos z2, p2 (by omega), hN3 (.inr z2)]; simp
    rw [if_neg z2]
    by_cases z3 : kindOf x = 3
    · rw [if_pos z3, p1 (.inr z3)]; simp; omega
    rw [if_neg z3, if_pos (by omega), p2 (by omega)]
    simp; omega
  unfold spec_l03Text.f
  rw [spec_FieldSize_at x _ (by omega), Option.bind_some, spec_FieldKind_at x _ (by omega), Option.bind_some, spec_l03Width_at _ _ (by omega), Option.bind_some]
  by_cases z : kindOf x = 3 ∨ kindOf x = 4 ∨ kindOf x = 5
  · have hpos : (if kindOf x = 3 ∨ kindOf x = 4 then (2 : Int) else if kindOf x = 5 then 3 else 0) > 0 := by
      by_cases z5 : kindOf x = 5
      · rw [if_neg (by omega), if_pos z5]; omega
      · rw [if_pos (by omega)]; omega
    obtain ⟨r, i', h', e, r0, r1, q0, q1⟩ := l01Below_at b i h (sizeOf_ x) hb h0 h1 (by omega) (by omega)
    obtain ⟨n, rfl⟩ := Int.eq_ofNat_of_zero_le r0
    have ew : wrap64 (1 + (n : Int)) = ((n + 1 : Nat) : Int) := by unfold wrap64; omega
    rw [if_pos hpos, e, Option.bind_some]
    simp only
    rw [ew]
    exact hgo (n + 1) i' h' (by omega) (by omega) (by omega) q0 q1
  · rw [if_neg (by omega)]
    obtain ⟨n, hn⟩ := Int.eq_ofNat_of_zero_le s0.1
    rw [hn]
    rw [hn] at s0 s1 hgo
    exact hgo n i h (by omega) (by omega) (fun _ => rfl) h0 h1

def nosL : List Int := [2, 3, 4, 7, 11, 14, 37, 38, 39, 41, 48, 49, 54, 95, 102, 103]
theorem spec_FieldNos_at (k : Nat) (hk : 150 ≤ k) : spec_FieldNos.f k = some nosL :=
  later (g := fun k => spec_FieldNos.f k) (fun k => spec_FieldNos.mono k) (k0 := 150) (by decide +kernel) k hk
theorem nosL_sorted : nosL.Pairwise (fun a b => a < b) := by unfold nosL; decide
theorem nosL_kind : ∀ c ∈ nosL, ¬ kindOf c = 0 := by unfold nosL; decide

theorem okFrom_snoc : ∀ (y : List IF) (p : Option Int) (f : IF), okFrom p y = true → fieldOk f.f0 (bytesOf f.f1) = true → (∀ q, p = some q → q < f.f0) → (∀ g ∈ y, g.f0 < f.f0) → okFrom p (y ++ [f]) = true := by
  intro y
  induction y with
  | nil =>
    intro p f _ h2 h3 _
    rw [List.nil_append, okFrom_cons, h2]
    cases p with
    | none => rfl
    | some q => simp [h3 q rfl, okFrom]
  | cons g t ih =>
    intro p f h1 h2 h3 h4
    rw [okFrom_cons] at h1
    simp only [Bool.and_eq_true] at h1
    rw [List.cons_append, okFrom_cons, ih (some g.f0) f h1.2 h2 (fun q hq => by cases hq; exact h4 g List.mem_cons_self) (fun u hu => h4 u (List.mem_cons_of_mem _ hu))]
    simp only [Bool.and_true, Bool.and_eq_true]
    exact h1.1

theorem l04Draw_l (b : List Int) (hb : b.length ≤ 10000000) (m : ByteArray) (nos : List Int) (hn : nos.length ≤ 1000) (hs : nos.Pairwise (fun a b => a < b)) (hk0 : ∀ c ∈ nos, ¬ kindOf c = 0) : ∀ (d n k : Nat) (y : List IF) (i h : Int), n + d = nos.length → y.length ≤ n → okFrom none y = true → (∀ f ∈ y, f.f1.size ≤ 60 ∧ ∀ c ∈ nos.drop n, f.f0 < c) → 0 ≤ i → i ≤ (b.length : Int) → d + 400 < k →
    ∃ z i' h', spec_l04Draw.l0 k nos (nos.length : Int) (n : Int) b i h m y = some (m, z, i', h') ∧ okFrom none z = true ∧ z.length ≤ nos.length ∧ (∀ f ∈ z, f.f1.size ≤ 60) ∧ 0 ≤ i' ∧ i' ≤ (b.length : Int) := by
  intro d
  induction d with
  | zero =>
    intro n k y i h hd hy h1 h2 h3 h4 hk
    obtain ⟨k, rfl⟩ : ∃ m, k = m + 1 := ⟨k - 1, by omega⟩
    rw [spec_l04Draw.l0, if_neg (by omega)]
    exact ⟨y, i, h, rfl, h1, by omega, fun f hf => (h2 f hf).1, h3, h4⟩
  | succ d ih =>
    intro n k y i h hd hy h1 h2 h3 h4 hk
    obtain ⟨k, rfl⟩ : ∃ m, k = m + 1 := ⟨k - 1, by omega⟩
    have hlt : n < nos.length := by omega
    have hdr := drop_rd nos n hlt
    have hmem := rd_mem nos n hlt
    have hsd : (nos.drop n).Pairwise (fun a b => a < b) := hs.sublist (List.drop_sublist _ _)
    rw [hdr] at hsd
    have hhead := (List.pairwise_cons.1 hsd).1
    have ew : wrap64 ((n : Int) + 1) = ((n + 1 : Nat) : Int) := by unfold wrap64; omega
    obtain ⟨r, i', h', e, q0, q1⟩ := l01Once_at b i h 3 hb h3 h4 (by omega) (by omega)
    rw [spec_l04Draw.l0, if_pos (by omega), if_pos (by omega), if_pos (by omega), e, Option.bind_some]
    simp only
    rw [ew]
    cases r with
    | true =>
      obtain ⟨s, i2, h2', e2, f1, f2, f3, f4⟩ := l03Text_at b i' h' (rd nos (n : Int)) hb q0 q1 (hk0 _ hmem) k (by omega)
      rw [if_pos rfl, e2, Option.bind_some]
      simp only
      rw [if_pos (by omega)]
      refine ih (n + 1) k _ i2 h2' (by omega) (by simp; omega) (okFrom_snoc y none ⟨rd nos (n : Int), s⟩ h1 f1 (fun q hq => by cases hq) (fun g hg => (h2 g hg).2 _ (by rw [hdr]; exact List.mem_cons_self))) (fun f hf => ?_) f3 f4 (by omega)
      rcases List.mem_append.1 hf with hf | hf
      · exact ⟨(h2 f hf).1, fun c hc => (h2 f hf).2 c (by rw [hdr]; exact List.mem_cons_of_mem _ hc)⟩
      · rw [List.mem_singleton.1 hf]
        exact ⟨f2, fun c hc => hhead c hc⟩
    | false =>
      rw [if_neg (by simp)]
      exact ih (n + 1) k y i' h' (by omega) (by omega) h1 (fun f hf => ⟨(h2 f hf).1, fun c hc => (h2 f hf).2 c (by rw [hdr]; exact List.mem_cons_of_mem _ hc)⟩) q0 q1 (by omega)

theorem l04Draw_at (b : List Int) (i h : Int) (hb : b.length ≤ 10000000) (h0 : 0 ≤ i) (h1 : i ≤ (b.length : Int)) (k : Nat) (hk : 500 < k) : ∃ m z i' h', spec_l04Draw.f k b i h = some (m, z, i', h') ∧ msgOk m z = true ∧ m.size = 4 ∧ z.length ≤ 16 ∧ (∀ f ∈ z, f.f1.size ≤ 60) ∧ 0 ≤ i' ∧ i' ≤ (b.length : Int) := by
  unfold spec_l04Draw.f
  obtain ⟨m, i', h', e, hm, q0, q1⟩ := l01Str_at b i h [(⟨#[48, 49, 48, 48]⟩ : ByteArray), (⟨#[48, 50, 48, 48]⟩ : ByteArray), (⟨#[48, 50, 50, 48]⟩ : ByteArray), (⟨#[48, 49, 49, 48]⟩ : ByteArray), (⟨#[48, 56, 48, 48]⟩ : ByteArray), (⟨#[49, 50, 51, 52]⟩ : ByteArray), (⟨#[48, 48, 48, 48]⟩ : ByteArray)] hb h0 h1 (by decide) (by decide)
  have hm1 : isMti m = true ∧ m.size = 4 := by
    simp only [List.mem_cons, List.not_mem_nil, or_false] at hm
    rcases hm with rfl | rfl | rfl | rfl | rfl | rfl | rfl <;> exact ⟨rfl, rfl⟩
  rw [e, Option.bind_some, spec_FieldNos_at k (by omega), Option.bind_some]
  simp only
  obtain ⟨z, i2, h2, e2, f1, f2, f3, f4, f5⟩ := l04Draw_l b hb m nosL (by decide) nosL_sorted nosL_kind nosL.length 0 k [] i' h' (by simp) (by simp) rfl (fun f hf => by cases hf) q0 q1 (by have : nosL.length = 16 := rfl; omega)
  exact ⟨m, z, i2, h2, e2, by unfold msgOk; rw [hm1.1, f1]; rfl, hm1.2, f2, f3, f4, f5⟩

theorem MakeMsg_at (b : List Int) (hb : b.length ≤ 10000000) (k : Nat) (hk : b.length + 500 < k) : ∃ m z, (∀ j, k ≤ j → spec_MakeMsg.f j b = some (m, z)) ∧ msgOk m z = true ∧ m.size = 4 ∧ z.length ≤ 16 ∧ (∀ f ∈ z, f.f1.size ≤ 60) := by
  obtain ⟨h, e⟩ := l01New_at b hb k (by omega)
  obtain ⟨m, z, i', h', e2, f1, f2, f3, f4, _⟩ := l04Draw_at b 0 h hb (by omega) (by omega) k (by omega)
  refine ⟨m, z, fun j hj => ?_, f1, f2, f3, f4⟩
  have h1 : spec_MakeMsg.f k b = some (m, z) := by
    unfold spec_MakeMsg.f
    rw [e, Option.bind_some]
    simp only
    rw [e2, Option.bind_some]
  exact later (g := fun k => spec_MakeMsg.f k b) (fun k => spec_MakeMsg.mono b k) h1 j hj

theorem MakeField_at (b : List Int) (hb : b.length ≤ 10000000) (k : Nat) (hk : b.length + 500 < k) : ∃ x s, (∀ j, k ≤ j → spec_MakeField.f j b = some (x, s)) ∧ x ∈ nosL ∧ fieldOk x (bytesOf s) = true ∧ s.size ≤ 60 := by
  obtain ⟨h, e⟩ := l01New_at b hb k (by omega)
  have hlen : nosL.length = 16 := rfl
  obtain ⟨r, i', h', e2, r0, r1, q0, q1⟩ := l01Below_at b 0 h (nosL.length : Int) hb (by omega) (by omega) (by omega) (by omega)
  obtain ⟨n, rfl⟩ := Int.eq_ofNat_of_zero_le r0
  have hn : n < nosL.length := by omega
  obtain ⟨s, i2, h2, e3, f1, f2, _⟩ := l03Text_at b i' h' (rd nosL (n : Int)) hb q0 q1 (nosL_kind _ (rd_mem nosL n hn)) k (by omega)
  refine ⟨rd nosL (n : Int), s, fun j hj => ?_, rd_mem nosL n hn, f1, f2⟩
  have h1 : spec_MakeField.f k b = some (rd nosL (n : Int), s) := by
    unfold spec_MakeField.f
    rw [e, Option.bind_some]
    simp only
    rw [spec_FieldNos_at k (by omega), Option.bind_some, e2, Option.bind_some]
    simp only
    rw [if_pos r0, if_pos r1, e3, Option.bind_some]
  exact later (g := fun k => spec_MakeField.f k b) (fun k => spec_MakeField.mono b k) h1 j hj
end Go.Proofs.Ytdcbpnhbbglbhaa.Q
end
section
/- FnWith of the given program answers true at every slice of bytes. -/
namespace Go.Proofs.Ytdcbpnhbbglbhaa.Q
open Go.RowKit Go.Proofs.YtdcbpnhbbglbhaaW.PrintWords Go.Proofs.YtdcbpnhbbglbhaaW.PrintLast Go.Proofs.YtdcbpnhbbglbhaaW.PrintMore
set_option linter.unusedVariables false
set_option linter.unusedSimpArgs false

theorem okFrom_iff : ∀ (l : List IF) (p : Option Int), okFrom p l = true ↔ ((∀ f ∈ l, fieldOk f.f0 (bytesOf f.f1) = true) ∧ l.Pairwise (fun a b => a.f0 < b.f0) ∧ ∀ q, p = some q → ∀ f ∈ l, q < f.f0) := by
  intro l
  induction l with
  | nil => intro p; simp [okFrom]
  | cons g t ih =>
    intro p
    rw [okFrom_cons]
    simp only [Bool.and_eq_true, ih (some g.f0), List.pairwise_cons, List.mem_cons, Option.some.injEq]
    constructor
    · rintro ⟨⟨h1, h2⟩, h3, h4, h5⟩
      refine ⟨fun f hf => ?_, ⟨fun f hf => h5 _ rfl f hf, h4⟩, fun q hq f hf => ?_⟩
      · rcases hf with rfl | hf
        · exact h1
        · exact h3 f hf
      · subst hq
        simp only [decide_eq_true_eq] at h2
        rcases hf with rfl | hf
        · exact h2
        · have := h5 _ rfl f hf
          omega
    · rintro ⟨h1, ⟨h2, h3⟩, h4⟩
      refine ⟨⟨h1 g (.inl rfl), ?_⟩, fun f hf => h1 f (.inr hf), h3, fun q hq f hf => by rw [← hq]; exact h2 f hf⟩
      cases p with
      | none => rfl
      | some q => simp only [decide_eq_true_eq]; exact h4 q rfl g (.inl rfl)

theorem without_ne (l : List IF) (x : Int) : ∀ g ∈ without l x, g.f0 ≠ x := by
  intro g hg
  have := (List.mem_filter.1 hg).2
  simpa using this

theorem mem_wput (x : Int) (f : IF) : ∀ (l : List IF), ∀ u ∈ wput x f l, u = f ∨ u ∈ l := by
  intro l
  induction l with
  | nil => intro u hu; exact .inl (List.mem_singleton.1 hu)
  | cons g t ih =>
    intro u hu
    rw [wput] at hu
    split at hu
    · rcases List.mem_cons.1 hu with rfl | hu
      · exact .inr List.mem_cons_self
      · rcases ih u hu with rfl | h
        · exact .inl rfl
        · exact .inr (List.mem_cons_of_mem _ h)
    · rcases List.mem_cons.1 hu with rfl | hu
      · exact .inl rfl
      · exact .inr hu

theorem wput_sorted (x : Int) (f : IF) (hf : f.f0 = x) : ∀ (l : List IF), l.Pairwise (fun a b => a.f0 < b.f0) → (∀ g ∈ l, g.f0 ≠ x) → (wput x f l).Pairwise (fun a b => a.f0 < b.f0) := by
  intro l
  induction l with
  | nil => intro _ _; exact List.pairwise_singleton _ _
  | cons g t ih =>
    intro h hn
    obtain ⟨h1, h2⟩ := List.pairwise_cons.1 h
    rw [wput]
    by_cases q : g.f0 < x
    · rw [if_pos q]
      refine List.pairwise_cons.2 ⟨fun u hu => ?_, ih h2 (fun u hu => hn u (List.mem_cons_of_mem _ hu))⟩
      rcases mem_wput x f t u hu with rfl | hu
      · omega
      · exact h1 u hu
    · rw [if_neg q]
      have hg := hn g List.mem_cons_self
      refine List.pairwise_cons.2 ⟨fun u hu => ?_, h⟩
      rcases List.mem_cons.1 hu with rfl | hu
      · omega
      · have := h1 u hu
        omega

theorem find_wput (x : Int) (f : IF) (hf : f.f0 = x) : ∀ (l : List IF), (∀ g ∈ l, g.f0 ≠ x) → (wput x f l).find? (fun g => decide (g.f0 = x)) = some f := by
  intro l
  induction l with
  | nil => intro _; simp [wput, hf]
  | cons g t ih =>
    intro hn
    rw [wput]
    split
    · have := hn g List.mem_cons_self
      rw [List.find?_cons_of_neg (by simpa using this)]
      exact ih (fun u hu => hn u (List.mem_cons_of_mem _ hu))
    · rw [List.find?_cons_of_pos (by simpa using hf)]

theorem without_wput (x : Int) (f : IF) (hf : f.f0 = x) : ∀ (l : List IF), without (wput x f l) x = without l x := by
  intro l
  induction l with
  | nil => rw [wput, without_cons, if_pos hf]
  | cons g t ih =>
    rw [wput]
    split
    · rw [without_cons, without_cons, ih]
    · rw [without_cons, if_pos hf]

theorem impl_FieldOf_l (x : Int) (l : List IF) (hl : l.length ≤ 10000000) : ∀ (d n k : Nat), n + d = l.length → d < k →
    impl_FieldOf.l0 k x l (l.length : Int) (n : Int) = some (match (l.drop n).find? (fun g => decide (g.f0 = x)) with | some f => (f.f1, true) | none => (⟨#[]⟩, false)) := by
  intro d
  induction d with
  | zero =>
    intro n k hd hk
    obtain ⟨k, rfl⟩ : ∃ m, k = m + 1 := ⟨k - 1, by omega⟩
    rw [impl_FieldOf.l0, if_neg (by omega), List.drop_eq_nil_of_le (by omega)]
    rfl
  | succ d ih =>
    intro n k hd hk
    obtain ⟨k, rfl⟩ : ∃ m, k = m + 1 := ⟨k - 1, by omega⟩
    rw [impl_FieldOf.l0, if_pos (by omega), if_pos (by omega), if_pos (by omega), dropF l n (by omega), w64s (by omega)]
    by_cases q : (rd_T58 l (n : Int)).f0 = x
    · rw [if_pos q, List.find?_cons_of_pos (by simpa using q)]
    · rw [if_neg q, List.find?_cons_of_neg (by simpa using q)]
      exact ih (n + 1) k (by omega) (by omega)

theorem impl_FieldOf_at (m : ByteArray) (x : Int) (l : List IF) (hl : l.length ≤ 10000000) (k : Nat) (hk : l.length < k) :
    impl_FieldOf.f k m l x = some (match l.find? (fun g => decide (g.f0 = x)) with | some f => (f.f1, true) | none => (⟨#[]⟩, false)) := by
  unfold impl_FieldOf.f
  exact impl_FieldOf_l x l hl l.length 0 k (by omega) hk

theorem impl_Equal_l (l : List IF) (hl : l.length ≤ 10000000) : ∀ (d n k : Nat), n + d = l.length → d < k → impl_Field_38.l0 k l l (l.length : Int) (n : Int) = some true := by
  intro d
  induction d with
  | zero =>
    intro n k hd hk
    obtain ⟨k, rfl⟩ : ∃ m, k = m + 1 := ⟨k - 1, by omega⟩
    rw [impl_Field_38.l0, if_neg (by omega)]
  | succ d ih =>
    intro n k hd hk
    obtain ⟨k, rfl⟩ : ∃ m, k = m + 1 := ⟨k - 1, by omega⟩
    rw [impl_Field_38.l0, if_pos (by omega), if_pos (by omega), if_pos (by omega), if_pos (by omega), if_neg (by simp), w64s (by omega)]
    exact ih (n + 1) k (by omega) (by omega)

theorem impl_MsgSame_self (m : ByteArray) (l : List IF) (hl : l.length ≤ 10000000) (k : Nat) (hk : l.length < k) : impl_MsgSame.f k m l m l = some true := by
  unfold impl_MsgSame.f impl_Field_38.f
  rw [if_pos rfl, if_pos rfl]
  have h := impl_Equal_l l hl l.length 0 k (by omega) hk
  rw [show ((0 : Nat) : Int) = 0 from rfl] at h
  rw [h]
  rfl

theorem FnWith : ∀ (l0 : List Int), l0.length ≤ maxLen → l0.length * 1 ≤ 140737488351232 → (∀ x ∈ l0, (Lit.int .u8 x).wf = true) → ∃ k, laws_FnWith.f k l0 = some true := by
  intro b _ _ _
  by_cases hb : (b.length : Int) > 1048576
  · exact ⟨0, by unfold laws_FnWith.f; rw [if_pos hb]⟩
  obtain ⟨K, hK⟩ : ∃ K : Nat, b.length + 100000000 ≤ K := ⟨_, Nat.le_refl _⟩
  refine ⟨K, ?_⟩
  obtain ⟨m, l, e1, m1, m2, m3, m4⟩ := MakeMsg_at b (by omega) K (by omega)
  obtain ⟨x, s, e2, _, f1, f2⟩ := MakeField_at b (by omega) K (by omega)
  have e1 := e1 K (Nat.le_refl _)
  have e2 := e2 K (Nat.le_refl _)
  have hw : ∀ f ∈ l, f.f1.size ≤ 10000000 := fun f hf => Nat.le_trans (m4 f hf) (by omega)
  have hwl := without_length l x
  have hwn := without_ne l x
  have hok : okFrom none l = true := by
    unfold msgOk at m1
    simp only [Bool.and_eq_true] at m1
    exact m1.2
  have hmti : isMti m = true := by
    unfold msgOk at m1
    simp only [Bool.and_eq_true] at m1
    exact m1.1
  obtain ⟨o1, o2, _⟩ := (okFrom_iff l none).1 hok
  have hy : okFrom none (without l x) = true := (okFrom_iff _ none).2 ⟨fun f hf => o1 f (List.mem_filter.1 hf).1, o2.filter _, fun q hq => by cases hq⟩
  have hx : okFrom none (wput x ⟨x, s⟩ (without l x)) = true := (okFrom_iff _ none).2 ⟨fun f hf => by
    rcases mem_wput _ _ _ f hf with rfl | hf
    · exact f1
    · exact o1 f (List.mem_filter.1 hf).1, wput_sorted x ⟨x, s⟩ rfl _ (o2.filter _) hwn, fun q hq => by cases hq⟩
  have g1 : impl_WithField.f K m l x s = some (m, wput x ⟨x, s⟩ (without l x), true) := by
    rw [impl_WithField_at m l x s (by omega) (by omega) (by omega) hw K (by omega)]
    unfold withField
    rw [if_pos ⟨m1, f1⟩]
  have hwz : (wput x ⟨x, s⟩ (without l x)).length ≤ 100 := by rw [wput_length]; omega
  have hws : ∀ f ∈ wput x ⟨x, s⟩ (without l x), f.f1.size ≤ 10000000 := fun f hf => by
    rcases mem_wput _ _ _ f hf with rfl | hf
    · exact Nat.le_trans f2 (by omega)
    · exact hw f (List.mem_filter.1 hf).1
  have g2 : impl_FieldOf.f K m (wput x ⟨x, s⟩ (without l x)) x = some (s, true) := by
    rw [impl_FieldOf_at m x (wput x ⟨x, s⟩ (without l x)) (by omega) K (by omega), find_wput x ⟨x, s⟩ rfl _ hwn]
  have g3 : impl_WithoutField.f K m (wput x ⟨x, s⟩ (without l x)) x = some (m, without l x) := by
    rw [impl_WithoutField_at m (wput x ⟨x, s⟩ (without l x)) x (by omega) K (by omega), without_wput x ⟨x, s⟩ rfl]
    congr 2
    unfold without
    rw [List.filter_filter]
    simp
  have g4 : impl_FieldOf.f K m (without l x) x = some (⟨#[]⟩, false) := by
    rw [impl_FieldOf_at m x (without l x) (by omega) K (by omega)]
    have : (without l x).find? (fun g => decide (g.f0 = x)) = none := by
      rw [List.find?_eq_none]
      intro g hg
      simpa using hwn g hg
    rw [this]
  have g5 : impl_MsgOk.f K m (wput x ⟨x, s⟩ (without l x)) = some true := by
    rw [impl_MsgOk_at m (wput x ⟨x, s⟩ (without l x)) (by omega) (by omega) 10000000 (by omega) hws K (by omega)]
    unfold msgOk
    rw [hmti, hx]
    rfl
  have g6 : impl_MsgOk.f K m (without l x) = some true := by
    rw [impl_MsgOk_at m (without l x) (by omega) (by omega) 10000000 (by omega) (fun f hf => hw f (List.mem_filter.1 hf).1) K (by omega)]
    unfold msgOk
    rw [hmti, hy]
    rfl
  have g7 : impl_WithoutField.f K m l x = some (m, without l x) := impl_WithoutField_at m l x (by omega) K (by omega)
  have g8 := impl_MsgSame_self m (without l x) (by omega) K (by omega)
  clear hK hw hws hwz hx hy o1 o2 hok hmti hwn hwl m1 m2 m3 m4 f1 f2
  unfold laws_FnWith.f
  rw [if_neg hb, e1, Option.bind_some]
  simp only
  rw [e2, Option.bind_some]
  simp only
  rw [g1, Option.bind_some]
  simp only
  rw [g2, Option.bind_some, g3, Option.bind_some]
  simp only
  rw [g4, Option.bind_some]
  simp only [g5, g6, g7, g8, Option.bind_some, if_true, Bool.false_eq_true, if_false]
end Go.Proofs.Ytdcbpnhbbglbhaa.Q
end
