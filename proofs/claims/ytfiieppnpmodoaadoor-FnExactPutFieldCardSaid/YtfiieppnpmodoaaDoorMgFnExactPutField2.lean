/- Texts for FnExactPutField, packed by a program of this session (wip/pack.py), part 2 of 3: the print's words that are used, the printed walks, the plain laws, the row; no condition. -/
import Derived.Test.YtfiieppnpmodoaaDoorMgFnExactPutField1
import Derived.Test.YtfiieppnpmodoaaDoorRows
import Derived.LaidLaws
import Derived.Stop.LaidErr
import Derived.ChangeMaps5
section
namespace Go.Proofs.YtfiieppnpmodoaaDoor.Q
open Go.RowKit Go.Proofs.YtfiieppnpmodoaaDoorW.PrintWords Go.Proofs.YtfiieppnpmodoaaDoorW.PrintLast Go.Proofs.YtfiieppnpmodoaaDoorW.PrintMore
attribute [local go_sem] max2_int min2_int max_two min_two max_three min_three max_four min_four
set_option linter.unusedVariables false
set_option linter.unusedSimpArgs false
def impl_FieldOk.j0 : Nat → ByteArray → Bool → Int → Int → Int → Option (Bool)
 | 0, _, _, _, _, _ => none
 | k + 1, x1, x43, x308000, x308001, x308002 => if x43 = true then ((impl_Printable.f k x1).bind fun t312 => (if t312 = true then ((impl_within.f (x1.size : Int) 1 x308002).bind fun t313 => (some t313)) else (some false))) else (some false)
def impl_FieldOk.f (k : Nat) (a0 : Int) (a1 : ByteArray) : Option (Bool) := (impl_rowOf.f k a0).bind fun bt304 => (if bt304.2.1 = 1 then ((impl_Digits.f k a1).bind fun t308 => (if t308 = true then (some ((a1.size : Int) == bt304.2.2)) else (some false))) else (if bt304.2.1 = 2 then ((impl_Printable.f k a1).bind fun t309 => (if t309 = true then (some ((a1.size : Int) == bt304.2.2)) else (some false))) else (if bt304.2.1 = 3 then ((impl_Digits.f k a1).bind fun t310 => (if t310 = true then ((impl_within.f (a1.size : Int) 1 bt304.2.2).bind fun t311 => (some t311)) else (some false))) else (if bt304.2.1 = 4 then (impl_FieldOk.j0 k a1 (bt304.2.1 == 4) bt304.1 bt304.2.1 bt304.2.2) else (impl_FieldOk.j0 k a1 (bt304.2.1 == 5) bt304.1 bt304.2.1 bt304.2.2)))))
set_option maxHeartbeats 8000000 in
set_option maxRecDepth 100000 in
theorem impl_FieldOk.calls (k : Nat) (a0 : Int) (a1 : ByteArray) (r : Bool) (w : World) (h : impl_FieldOk.f k a0 a1 = some r) :
  Calls Tryd.prog 34 #[.int .i64 a0, .string a1] w fun e w' => e = .returned (.bool r) ∧ Below w.heap.size w w' := by
 have hu85 := Tryd.underlying85
 have HB := Aside0.mk (Below.refl w.heap.size w)
 have H : ((impl_rowOf.f k a0).bind fun bt304 => (if bt304.2.1 = 1 then ((impl_Digits.f k a1).bind fun t308 => (if t308 = true then (some ((a1.size : Int) == bt304.2.2)) else (some false))) else (if bt304.2.1 = 2 then ((impl_Printable.f k a1).bind fun t309 => (if t309 = true then (some ((a1.size : Int) == bt304.2.2)) else (some false))) else (if bt304.2.1 = 3 then ((impl_Digits.f k a1).bind fun t310 => (if t310 = true then ((impl_within.f (a1.size : Int) 1 bt304.2.2).bind fun t311 => (some t311)) else (some false))) else (if bt304.2.1 = 4 then (impl_FieldOk.j0 k a1 (bt304.2.1 == 4) bt304.1 bt304.2.1 bt304.2.2) else (impl_FieldOk.j0 k a1 (bt304.2.1 == 5) bt304.1 bt304.2.1 bt304.2.2)))))) = some r := h
 clear h
 replace H := Option.bind_eq_some_iff.mp H
 obtain ⟨⟨t304, t305, t306⟩, A30, H⟩ := H
 replace H : (if t305 = 1 then ((impl_Digits.f k a1).bind fun t308 => (if t308 = true then (some ((a1.size : Int) == t306)) else (some false))) else (if t305 = 2 then ((impl_Printable.f k a1).bind fun t309 => (if t309 = true then (some ((a1.size : Int) == t306)) else (some false))) else (if t305 = 3 then ((impl_Digits.f k a1).bind fun t310 => (if t310 = true then ((impl_within.f (a1.size : Int) 1 t306).bind fun t311 => (some t311)) else (some false))) else (if t305 = 4 then (impl_FieldOk.j0 k a1 (t305 == 4) t304 t305 t306) else (impl_FieldOk.j0 k a1 (t305 == 5) t304 t305 t306))))) = some r := H
 have A3 := Aside0.mk A30
 clear A30
 by_cases c4 : t305 = 1
 ·rw [if_pos c4] at H
  have c4b0 : (t305 == 1) = true := beq_iff_eq.mpr c4
  have c4b1 : (t305 != 1) = false := bne_eq_false_iff_eq.mpr c4
  clear c4
  replace H := Option.bind_eq_some_iff.mp H
  obtain ⟨t308, A50, H⟩ := H
  replace H : (if t308 = true then (some ((a1.size : Int) == t306)) else (some false)) = some r := H
  have A5 := Aside0.mk A50
  clear A50
  by_cases c6 : t308 = true
  ·subst c6
   have H1 : (some ((a1.size : Int) == t306)) = some r := by rw [if_pos rfl] at H; exact H
   clear H
   have H := H1
   clear H1
   obtain rfl := Option.some.inj H
   go_enter Tryd.func34, Tryd.ntmps34
   go_wp2_with (first | ((with_reducible refine gate_callee (f := 66) rfl ?_); refine goesM_ (some 7) rfl rfl Tryd.func66 (by kernel_rfl) rfl #[.int .i64 a0] rfl ?_; (with_reducible refine (impl_rowOf.calls k a0 t304 t305 t306 _ A3.out).mono ?_); rintro e w7 ⟨rfl, hb⟩; refine ⟨_, rfl, ?_⟩; have n0_ := Aside0.mk (below_step bB hb); clear HB; have HB := n0_; clear n0_; (try clear hb); (try clear hb2); (try clear hk); (try clear hi)) | ((with_reducible refine gate_dst (N := 5) rfl ?_); (try (refine gate_guard (by rfl) ?_; dsimp only)); refine box_event ?hg (N := 5) ?hd (cs := #[.int .i64 0, .int .i64 0, .int .i64 0]) (t := 85) ?hr ?_; (case hd => rfl); (case hg => rfl); (case hr => first | (go_simp; done) | (go_simp; rfl)); intro gb307 hg w8 hbox hb; have n0_ := Aside0.mk (below_step bB hb); have n1_ := Aside0.mk (hbox); have n2_ := Aside0.mk ((by rw [hg]; exact (below_size bB) : w.heap.size ≤ gb307)); have n3_ := Aside0.mk ((by rw [hg]; exact (below_size bB) : w.heap.size ≤ gb307)); clear HB; have HB := n0_; have BK307 := n1_; have GW307 := n2_; have GE307 := n3_; clear n0_ n1_ n2_ n3_; clear hb hbox hg; have hcz9_0 : w8.cell? ⟨gb307, 0, none⟩ = some (.int .i64 0) := (blk_cell BK307.out 0).trans rfl; have hcz9_1 : w8.cell? ⟨gb307, 1, none⟩ = some (.int .i64 0) := (blk_cell BK307.out 1).trans rfl; have hcz9_2 : w8.cell? ⟨gb307, 2, none⟩ = some (.int .i64 0) := (blk_cell BK307.out 2).trans rfl; have hfz9_0 := blk_frozen BK307.out 0; have hfz9_1 := blk_frozen BK307.out 1; have hfz9_2 := blk_frozen BK307.out 2) | ((with_reducible refine gate_callee (f := 44) rfl ?_); refine goesM_ (some 13) rfl rfl Tryd.func44 (by kernel_rfl) rfl #[.string a1] rfl ?_; (with_reducible refine (impl_Digits.calls k a1 true _ A5.out).mono ?_); rintro e w' ⟨rfl, ⟨nd, rfl⟩⟩; refine ⟨_, rfl, ?_⟩))
   go_ret
   exact ⟨by first | rfl | (simp [errW_none, errW_some] <;> rfl) | (simp [*, errW_none, errW_some] <;> rfl), bG⟩
  ·replace c6 := Bool.eq_false_iff.mpr c6
   subst c6
   have H1 : (some false) = some r := by rw [if_neg (show ¬ (false = true) by decide)] at H; exact H
   clear H
   have H := H1
   clear H1
   obtain rfl := Option.some.inj H
   go_enter Tryd.func34, Tryd.ntmps34
   go_wp2_with (first | ((with_reducible refine gate_callee (f := 66) rfl ?_); refine goesM_ (some 7) rfl rfl Tryd.func66 (by kernel_rfl) rfl #[.int .i64 a0] rfl ?_; (with_reducible refine (impl_rowOf.calls k a0 t304 t305 t306 _ A3.out).mono ?_); rintro e w10 ⟨rfl, hb⟩; refine ⟨_, rfl, ?_⟩; have n0_ := Aside0.mk (below_step bB hb); clear HB; have HB := n0_; clear n0_; (try clear hb); (try clear hb2); (try clear hk); (try clear hi)) | ((with_reducible refine gate_dst (N := 5) rfl ?_); (try (refine gate_guard (by rfl) ?_; dsimp only)); refine box_event ?hg (N := 5) ?hd (cs := #[.int .i64 0, .int .i64 0, .int .i64 0]) (t := 85) ?hr ?_; (case hd => rfl); (case hg => rfl); (case hr => first | (go_simp; done) | (go_simp; rfl)); intro gb307 hg w11 hbox hb; have n0_ := Aside0.mk (below_step bB hb); have n1_ := Aside0.mk (hbox); have n2_ := Aside0.mk ((by rw [hg]; exact (below_size bB) : w.heap.size ≤ gb307)); have n3_ := Aside0.mk ((by rw [hg]; exact (below_size bB) : w.heap.size ≤ gb307)); clear HB; have HB := n0_; have BK307 := n1_; have GW307 := n2_; have GE307 := n3_; clear n0_ n1_ n2_ n3_; clear hb hbox hg; have hcz12_0 : w11.cell? ⟨gb307, 0, none⟩ = some (.int .i64 0) := (blk_cell BK307.out 0).trans rfl; have hcz12_1 : w11.cell? ⟨gb307, 1, none⟩ = some (.int .i64 0) := (blk_cell BK307.out 1).trans rfl; have hcz12_2 : w11.cell? ⟨gb307, 2, none⟩ = some (.int .i64 0) := (blk_cell BK307.out 2).trans rfl; have hfz12_0 := blk_frozen BK307.out 0; have hfz12_1 := blk_frozen BK307.out 1; have hfz12_2 := blk_frozen BK307.out 2) | ((with_reducible refine gate_callee (f := 44) rfl ?_); refine goesM_ (some 13) rfl rfl Tryd.func44 (by kernel_rfl) rfl #[.string a1] rfl ?_; (with_reducible refine (impl_Digits.calls k a1 false _ A5.out).mono ?_); rintro e w' ⟨rfl, ⟨nd, rfl⟩⟩; refine ⟨_, rfl, ?_⟩))
   go_ret
   exact ⟨by first | rfl | (simp [errW_none, errW_some] <;> rfl) | (simp [*, errW_none, errW_some] <;> rfl), bG⟩
 ·rw [if_neg c4] at H
  have c4b0 : (t305 == 1) = false := beq_eq_false_iff_ne.mpr c4
  have c4b1 : (t305 != 1) = true := bne_iff_ne.mpr c4
  by_cases c13 : t305 = 2
  ·rw [if_pos c13] at H
   have c13b0 : (t305 == 2) = true := beq_iff_eq.mpr c13
   have c13b1 : (t305 != 2) = false := bne_eq_false_iff_eq.mpr c13
   clear c13
   replace H := Option.bind_eq_some_iff.mp H
   obtain ⟨t309, A140, H⟩ := H
   replace H : (if t309 = true then (some ((a1.size : Int) == t306)) else (some false)) = some r := H
   have A14 := Aside0.mk A140
   clear A140
   by_cases c15 : t309 = true
   ·subst c15
    have H1 : (some ((a1.size : Int) == t306)) = some r := by rw [if_pos rfl] at H; exact H
    clear H
    have H := H1
    clear H1
    obtain rfl := Option.some.inj H
    go_enter Tryd.func34, Tryd.ntmps34
    go_wp2_with (first | ((with_reducible refine gate_callee (f := 66) rfl ?_); refine goesM_ (some 7) rfl rfl Tryd.func66 (by kernel_rfl) rfl #[.int .i64 a0] rfl ?_; (with_reducible refine (impl_rowOf.calls k a0 t304 t305 t306 _ A3.out).mono ?_); rintro e w16 ⟨rfl, hb⟩; refine ⟨_, rfl, ?_⟩; have n0_ := Aside0.mk (below_step bB hb); clear HB; have HB := n0_; clear n0_; (try clear hb); (try clear hb2); (try clear hk); (try clear hi)) | ((with_reducible refine gate_dst (N := 5) rfl ?_); (try (refine gate_guard (by rfl) ?_; dsimp only)); refine box_event ?hg (N := 5) ?hd (cs := #[.int .i64 0, .int .i64 0, .int .i64 0]) (t := 85) ?hr ?_; (case hd => rfl); (case hg => rfl); (case hr => first | (go_simp; done) | (go_simp; rfl)); intro gb307 hg w17 hbox hb; have n0_ := Aside0.mk (below_step bB hb); have n1_ := Aside0.mk (hbox); have n2_ := Aside0.mk ((by rw [hg]; exact (below_size bB) : w.heap.size ≤ gb307)); have n3_ := Aside0.mk ((by rw [hg]; exact (below_size bB) : w.heap.size ≤ gb307)); clear HB; have HB := n0_; have BK307 := n1_; have GW307 := n2_; have GE307 := n3_; clear n0_ n1_ n2_ n3_; clear hb hbox hg; have hcz18_0 : w17.cell? ⟨gb307, 0, none⟩ = some (.int .i64 0) := (blk_cell BK307.out 0).trans rfl; have hcz18_1 : w17.cell? ⟨gb307, 1, none⟩ = some (.int .i64 0) := (blk_cell BK307.out 1).trans rfl; have hcz18_2 : w17.cell? ⟨gb307, 2, none⟩ = some (.int .i64 0) := (blk_cell BK307.out 2).trans rfl; have hfz18_0 := blk_frozen BK307.out 0; have hfz18_1 := blk_frozen BK307.out 1; have hfz18_2 := blk_frozen BK307.out 2) | ((with_reducible refine gate_callee (f := 67) rfl ?_); refine goesM_ (some 24) rfl rfl Tryd.func67 (by kernel_rfl) rfl #[.string a1] rfl ?_; (with_reducible refine (impl_Printable.calls k a1 true _ A14.out).mono ?_); rintro e w' ⟨rfl, ⟨nd, rfl⟩⟩; refine ⟨_, rfl, ?_⟩))
    go_ret
    exact ⟨by first | rfl | (simp [errW_none, errW_some] <;> rfl) | (simp [*, errW_none, errW_some] <;> rfl), bG⟩
   ·replace c15 := Bool.eq_false_iff.mpr c15
    subst c15
    have H1 : (some false) = some r := by rw [if_neg (show ¬ (false = true) by decide)] at H; exact H
    clear H
    have H := H1
    clear H1
    obtain rfl := Option.some.inj H
    go_enter Tryd.func34, Tryd.ntmps34
    go_wp2_with (first | ((with_reducible refine gate_callee (f := 66) rfl ?_); refine goesM_ (some 7) rfl rfl Tryd.func66 (by kernel_rfl) rfl #[.int .i64 a0] rfl ?_; (with_reducible refine (impl_rowOf.calls k a0 t304 t305 t306 _ A3.out).mono ?_); rintro e w19 ⟨rfl, hb⟩; refine ⟨_, rfl, ?_⟩; have n0_ := Aside0.mk (below_step bB hb); clear HB; have HB := n0_; clear n0_; (try clear hb); (try clear hb2); (try clear hk); (try clear hi)) | ((with_reducible refine gate_dst (N := 5) rfl ?_); (try (refine gate_guard (by rfl) ?_; dsimp only)); refine box_event ?hg (N := 5) ?hd (cs := #[.int .i64 0, .int .i64 0, .int .i64 0]) (t := 85) ?hr ?_; (case hd => rfl); (case hg => rfl); (case hr => first | (go_simp; done) | (go_simp; rfl)); intro gb307 hg w20 hbox hb; have n0_ := Aside0.mk (below_step bB hb); have n1_ := Aside0.mk (hbox); have n2_ := Aside0.mk ((by rw [hg]; exact (below_size bB) : w.heap.size ≤ gb307)); have n3_ := Aside0.mk ((by rw [hg]; exact (below_size bB) : w.heap.size ≤ gb307)); clear HB; have HB := n0_; have BK307 := n1_; have GW307 := n2_; have GE307 := n3_; clear n0_ n1_ n2_ n3_; clear hb hbox hg; have hcz21_0 : w20.cell? ⟨gb307, 0, none⟩ = some (.int .i64 0) := (blk_cell BK307.out 0).trans rfl; have hcz21_1 : w20.cell? ⟨gb307, 1, none⟩ = some (.int .i64 0) := (blk_cell BK307.out 1).trans rfl; have hcz21_2 : w20.cell? ⟨gb307, 2, none⟩ = some (.int .i64 0) := (blk_cell BK307.out 2).trans rfl; have hfz21_0 := blk_frozen BK307.out 0; have hfz21_1 := blk_frozen BK307.out 1; have hfz21_2 := blk_frozen BK307.out 2) | ((with_reducible refine gate_callee (f := 67) rfl ?_); refine goesM_ (some 24) rfl rfl Tryd.func67 (by kernel_rfl) rfl #[.string a1] rfl ?_; (with_reducible refine (impl_Printable.calls k a1 false _ A14.out).mono ?_); rintro e w' ⟨rfl, ⟨nd, rfl⟩⟩; refine ⟨_, rfl, ?_⟩))
    go_ret
    exact ⟨by first | rfl | (simp [errW_none, errW_some] <;> rfl) | (simp [*, errW_none, errW_some] <;> rfl), bG⟩
  ·rw [if_neg c13] at H
   have c13b0 : (t305 == 2) = false := beq_eq_false_iff_ne.mpr c13
   have c13b1 : (t305 != 2) = true := bne_iff_ne.mpr c13
   by_cases c22 : t305 = 3
   ·rw [if_pos c22] at H
    have c22b0 : (t305 == 3) = true := beq_iff_eq.mpr c22
    have c22b1 : (t305 != 3) = false := bne_eq_false_iff_eq.mpr c22
    clear c22
    replace H := Option.bind_eq_some_iff.mp H
    obtain ⟨t310, A230, H⟩ := H
    replace H : (if t310 = true then ((impl_within.f (a1.size : Int) 1 t306).bind fun t311 => (some t311)) else (some false)) = some r := H
    have A23 := Aside0.mk A230
    clear A230
    by_cases c24 : t310 = true
    ·subst c24
     have H1 : ((impl_within.f (a1.size : Int) 1 t306).bind fun t311 => (some t311)) = some r := by rw [if_pos rfl] at H; exact H
     clear H
     have H := H1
     clear H1
     replace H := Option.bind_eq_some_iff.mp H
     obtain ⟨t311, A250, H⟩ := H
     replace H : (some t311) = some r := H
     have A25 := Aside0.mk A250
     clear A250
     obtain rfl := Option.some.inj H
     go_enter Tryd.func34, Tryd.ntmps34
     go_wp2_with (first | ((with_reducible refine gate_callee (f := 66) rfl ?_); refine goesM_ (some 7) rfl rfl Tryd.func66 (by kernel_rfl) rfl #[.int .i64 a0] rfl ?_; (with_reducible refine (impl_rowOf.calls k a0 t304 t305 t306 _ A3.out).mono ?_); rintro e w26 ⟨rfl, hb⟩; refine ⟨_, rfl, ?_⟩; have n0_ := Aside0.mk (below_step bB hb); clear HB; have HB := n0_; clear n0_; (try clear hb); (try clear hb2); (try clear hk); (try clear hi)) | ((with_reducible refine gate_dst (N := 5) rfl ?_); (try (refine gate_guard (by rfl) ?_; dsimp only)); refine box_event ?hg (N := 5) ?hd (cs := #[.int .i64 0, .int .i64 0, .int .i64 0]) (t := 85) ?hr ?_; (case hd => rfl); (case hg => rfl); (case hr => first | (go_simp; done) | (go_simp; rfl)); intro gb307 hg w27 hbox hb; have n0_ := Aside0.mk (below_step bB hb); have n1_ := Aside0.mk (hbox); have n2_ := Aside0.mk ((by rw [hg]; exact (below_size bB) : w.heap.size ≤ gb307)); have n3_ := Aside0.mk ((by rw [hg]; exact (below_size bB) : w.heap.size ≤ gb307)); clear HB; have HB := n0_; have BK307 := n1_; have GW307 := n2_; have GE307 := n3_; clear n0_ n1_ n2_ n3_; clear hb hbox hg; have hcz28_0 : w27.cell? ⟨gb307, 0, none⟩ = some (.int .i64 0) := (blk_cell BK307.out 0).trans rfl; have hcz28_1 : w27.cell? ⟨gb307, 1, none⟩ = some (.int .i64 0) := (blk_cell BK307.out 1).trans rfl; have hcz28_2 : w27.cell? ⟨gb307, 2, none⟩ = some (.int .i64 0) := (blk_cell BK307.out 2).trans rfl; have hfz28_0 := blk_frozen BK307.out 0; have hfz28_1 := blk_frozen BK307.out 1; have hfz28_2 := blk_frozen BK307.out 2) | ((with_reducible refine gate_callee (f := 44) rfl ?_); refine goesM_ (some 35) rfl rfl Tryd.func44 (by kernel_rfl) rfl #[.string a1] rfl ?_; (with_reducible refine (impl_Digits.calls k a1 true _ A23.out).mono ?_); rintro e w' ⟨rfl, ⟨nd, rfl⟩⟩; refine ⟨_, rfl, ?_⟩) | (go_at_call 45; (with_reducible refine (impl_within.calls (a1.size : Int) 1 t306 t311 _ A25.out).mono ?_); rintro e w' ⟨rfl, ⟨nd, rfl⟩⟩))
     go_ret
     exact ⟨by first | rfl | (simp [errW_none, errW_some] <;> rfl) | (simp [*, errW_none, errW_some] <;> rfl), bG⟩
    ·replace c24 := Bool.eq_false_iff.mpr c24
     subst c24
     have H1 : (some false) = some r := by rw [if_neg (show ¬ (false = true) by decide)] at H; exact H
     clear H
     have H := H1
     clear H1
     obtain rfl := Option.some.inj H
     go_enter Tryd.func34, Tryd.ntmps34
     go_wp2_with (first | ((with_reducible refine gate_callee (f := 66) rfl ?_); refine goesM_ (some 7) rfl rfl Tryd.func66 (by kernel_rfl) rfl #[.int .i64 a0] rfl ?_; (with_reducible refine (impl_rowOf.calls k a0 t304 t305 t306 _ A3.out).mono ?_); rintro e w29 ⟨rfl, hb⟩; refine ⟨_, rfl, ?_⟩; have n0_ := Aside0.mk (below_step bB hb); clear HB; have HB := n0_; clear n0_; (try clear hb); (try clear hb2); (try clear hk); (try clear hi)) | ((with_reducible refine gate_dst (N := 5) rfl ?_); (try (refine gate_guard (by rfl) ?_; dsimp only)); refine box_event ?hg (N := 5) ?hd (cs := #[.int .i64 0, .int .i64 0, .int .i64 0]) (t := 85) ?hr ?_; (case hd => rfl); (case hg => rfl); (case hr => first | (go_simp; done) | (go_simp; rfl)); intro gb307 hg w30 hbox hb; have n0_ := Aside0.mk (below_step bB hb); have n1_ := Aside0.mk (hbox); have n2_ := Aside0.mk ((by rw [hg]; exact (below_size bB) : w.heap.size ≤ gb307)); have n3_ := Aside0.mk ((by rw [hg]; exact (below_size bB) : w.heap.size ≤ gb307)); clear HB; have HB := n0_; have BK307 := n1_; have GW307 := n2_; have GE307 := n3_; clear n0_ n1_ n2_ n3_; clear hb hbox hg; have hcz31_0 : w30.cell? ⟨gb307, 0, none⟩ = some (.int .i64 0) := (blk_cell BK307.out 0).trans rfl; have hcz31_1 : w30.cell? ⟨gb307, 1, none⟩ = some (.int .i64 0) := (blk_cell BK307.out 1).trans rfl; have hcz31_2 : w30.cell? ⟨gb307, 2, none⟩ = some (.int .i64 0) := (blk_cell BK307.out 2).trans rfl; have hfz31_0 := blk_frozen BK307.out 0; have hfz31_1 := blk_frozen BK307.out 1; have hfz31_2 := blk_frozen BK307.out 2) | ((with_reducible refine gate_callee (f := 44) rfl ?_); refine goesM_ (some 35) rfl rfl Tryd.func44 (by kernel_rfl) rfl #[.string a1] rfl ?_; (with_reducible refine (impl_Digits.calls k a1 false _ A23.out).mono ?_); rintro e w' ⟨rfl, ⟨nd, rfl⟩⟩; refine ⟨_, rfl, ?_⟩))
     go_ret
     exact ⟨by first | rfl | (simp [errW_none, errW_some] <;> rfl) | (simp [*, errW_none, errW_some] <;> rfl), bG⟩
   ·rw [if_neg c22] at H
    have c22b0 : (t305 == 3) = false := beq_eq_false_iff_ne.mpr c22
    have c22b1 : (t305 != 3) = true := bne_iff_ne.mpr c22
    have HC32 := Aside0.mk H
    clear H
    go_enter Tryd.func34, Tryd.ntmps34
    go_upto_if 43 with (first | ((with_reducible refine gate_callee (f := 66) rfl ?_); refine goesM_ (some 7) rfl rfl Tryd.func66 (by kernel_rfl) rfl #[.int .i64 a0] rfl ?_; (with_reducible refine (impl_rowOf.calls k a0 t304 t305 t306 _ A3.out).mono ?_); rintro e w33 ⟨rfl, hb⟩; refine ⟨_, rfl, ?_⟩; have n0_ := Aside0.mk (below_step bB hb); clear HB; have HB := n0_; clear n0_; (try clear hb); (try clear hb2); (try clear hk); (try clear hi)) | ((with_reducible refine gate_dst (N := 5) rfl ?_); (try (refine gate_guard (by rfl) ?_; dsimp only)); refine box_event ?hg (N := 5) ?hd (cs := #[.int .i64 0, .int .i64 0, .int .i64 0]) (t := 85) ?hr ?_; (case hd => rfl); (case hg => rfl); (case hr => first | (go_simp; done) | (go_simp; rfl)); intro gb307 hg w34 hbox hb; have n0_ := Aside0.mk (below_step bB hb); have n1_ := Aside0.mk (hbox); have n2_ := Aside0.mk ((by rw [hg]; exact (below_size bB) : w.heap.size ≤ gb307)); have n3_ := Aside0.mk ((by rw [hg]; exact (below_size bB) : w.heap.size ≤ gb307)); clear HB; have HB := n0_; have BK307 := n1_; have GW307 := n2_; have GE307 := n3_; clear n0_ n1_ n2_ n3_; clear hb hbox hg; have hcz35_0 : w34.cell? ⟨gb307, 0, none⟩ = some (.int .i64 0) := (blk_cell BK307.out 0).trans rfl; have hcz35_1 : w34.cell? ⟨gb307, 1, none⟩ = some (.int .i64 0) := (blk_cell BK307.out 1).trans rfl; have hcz35_2 : w34.cell? ⟨gb307, 2, none⟩ = some (.int .i64 0) := (blk_cell BK307.out 2).trans rfl; have hfz35_0 := blk_frozen BK307.out 0; have hfz35_1 := blk_frozen BK307.out 1; have hfz35_2 := blk_frozen BK307.out 2))
    (try simp only [Act.put, List.setIfInBounds_toArray, List.set_cons_zero, List.set_cons_succ])
    go_cut [43] (fun v43 wc => ∃ (kq : Nat) (x43_31 : Bool), v43 = .bool x43_31 ∧ Aside0 (impl_FieldOk.j0 kq a1 x43_31 t304 t305 t306 = some r) ∧ Aside0 (kq ≤ k) ∧ Aside0 (wc.heap[gb307]? = some (.cells #[.int .i64 t304, .int .i64 t305, .int .i64 t306] 85 (0, 0))) ∧ Aside0 (Below w.heap.size w wc))
    case first =>
     have H := HC32.out
     clear HC32
     by_cases c36 : t305 = 4
     ·rw [if_pos c36] at H
      have c36b0 : (t305 == 4) = true := beq_iff_eq.mpr c36
      have c36b1 : (t305 != 4) = false := bne_eq_false_iff_eq.mpr c36
      clear c36
      (first | rw [c36b0] | (simp only [i64_w, i32_w]; rw [c36b0]) | rw [c36b1] | (simp only [c36b1]) | skip)
      have H' := Aside0.mk H
      clear H
      go_wp2
      go_meet
      case rel => exact ⟨_, ((t305 == 4)), (by first | rfl | (simp; done) | (simp [*]; done) | (simp [i64_w, IntKind.wrap_u8, e256_]; done) | (simp; generalize ByteArray.toList _ = zz_; cases zz_ <;> rfl)), H', ⟨by first | omega | exact Nat.le_refl _⟩, ⟨by (with_reducible repeat (first | refine blk_drewN ?_ _ | refine blk_drew ?_ | refine blk_alloc ?_ _)); refine blk_put (cs := #[.int .i64 t304, .int .i64 t305, .int .i64 0]) ?_ 2 _ rfl; (with_reducible repeat (first | refine blk_drewN ?_ _ | refine blk_drew ?_ | refine blk_alloc ?_ _)); refine blk_put (cs := #[.int .i64 t304, .int .i64 0, .int .i64 0]) ?_ 1 _ rfl; (with_reducible repeat (first | refine blk_drewN ?_ _ | refine blk_drew ?_ | refine blk_alloc ?_ _)); refine blk_put (cs := #[.int .i64 0, .int .i64 0, .int .i64 0]) ?_ 0 _ rfl; (with_reducible repeat (first | refine blk_drewN ?_ _ | refine blk_drew ?_ | refine blk_alloc ?_ _)); exact BK307.out⟩, ⟨bG⟩⟩
     ·rw [if_neg c36] at H
      have c36b0 : (t305 == 4) = false := beq_eq_false_iff_ne.mpr c36
      have c36b1 : (t305 != 4) = true := bne_iff_ne.mpr c36
      (first | rw [c36b0] | (simp only [i64_w, i32_w]; rw [c36b0]) | rw [c36b1] | (simp only [c36b1]) | skip)
      have H' := Aside0.mk H
      clear H
      go_wp2
      go_meet
      case rel => exact ⟨_, ((t305 == 5)), (by first | rfl | (simp; done) | (simp [*]; done) | (simp [i64_w, IntKind.wrap_u8, e256_]; done) | (simp; generalize ByteArray.toList _ = zz_; cases zz_ <;> rfl)), H', ⟨by first | omega | exact Nat.le_refl _⟩, ⟨by (with_reducible repeat (first | refine blk_drewN ?_ _ | refine blk_drew ?_ | refine blk_alloc ?_ _)); refine blk_put (cs := #[.int .i64 t304, .int .i64 t305, .int .i64 0]) ?_ 2 _ rfl; (with_reducible repeat (first | refine blk_drewN ?_ _ | refine blk_drew ?_ | refine blk_alloc ?_ _)); refine blk_put (cs := #[.int .i64 t304, .int .i64 0, .int .i64 0]) ?_ 1 _ rfl; (with_reducible repeat (first | refine blk_drewN ?_ _ | refine blk_drew ?_ | refine blk_alloc ?_ _)); refine blk_put (cs := #[.int .i64 0, .int .i64 0, .int .i64 0]) ?_ 0 _ rfl; (with_reducible repeat (first | refine blk_drewN ?_ _ | refine blk_drew ?_ | refine blk_alloc ?_ _)); exact BK307.out⟩, ⟨bG⟩⟩
    case rest =>
     clear HC32
     try clear c1
     try clear c2
     try clear p2
     try clear c3
     try clear c4
     try clear c4b0
     try clear c4b1
     try clear c6
     try clear p6
     try clear c13
     try clear c13b0
     try clear c13b1
     try clear c15
     try clear c22
     try clear c22b0
     try clear c22b1
     try clear c24
     try clear c34
     try clear c36
     try clear c36b0
     try clear c36b1
     try clear hcz12_0
     try clear hcz12_1
     try clear hcz12_2
     try clear hcz18_0
     try clear hcz18_1
     try clear hcz18_2
     try clear hcz21_0
     try clear hcz21_1
     try clear hcz21_2
     try clear hcz28_0
     try clear hcz28_1
     try clear hcz28_2
     try clear hcz31_0
     try clear hcz31_1
     try clear hcz31_2
     try clear hcz35_0
     try clear hcz35_1
     try clear hcz35_2
     try clear hcz9_0
     try clear hcz9_1
     try clear hcz9_2
     try clear hfz12_0
     try clear hfz12_1
     try clear hfz12_2
     try clear hfz18_0
     try clear hfz18_1
     try clear hfz18_2
     try clear hfz21_0
     try clear hfz21_1
     try clear hfz21_2
     try clear hfz28_0
     try clear hfz28_1
     try clear hfz28_2
     try clear hfz31_0
     try clear hfz31_1
     try clear hfz31_2
     try clear hfz35_0
     try clear hfz35_1
     try clear hfz35_2
     try clear hfz9_0
     try clear hfz9_1
     try clear hfz9_2
     obtain ⟨kq, x43_31, rfl, HA, HJ31, BK307, HB⟩ := hcut
     cases kq with
     | zero => exact absurd HA.out (by simp [impl_FieldOk.j0])
     | succ kj31 =>
      have H := HA.out
      clear HA
      simp only [impl_FieldOk.j0] at H
      by_cases c37 : x43_31 = true
      ·subst c37
       have H1 : ((impl_Printable.f kj31 a1).bind fun t312 => (if t312 = true then ((impl_within.f (a1.size : Int) 1 t306).bind fun t313 => (some t313)) else (some false))) = some r := by rw [if_pos rfl] at H; exact H
       clear H
       have H := H1
       clear H1
       replace H := Option.bind_eq_some_iff.mp H
       obtain ⟨t312, A380, H⟩ := H
       replace H : (if t312 = true then ((impl_within.f (a1.size : Int) 1 t306).bind fun t313 => (some t313)) else (some false)) = some r := H
       have A38 := Aside0.mk A380
       clear A380
       by_cases c39 : t312 = true
       ·subst c39
        have H1 : ((impl_within.f (a1.size : Int) 1 t306).bind fun t313 => (some t313)) = some r := by rw [if_pos rfl] at H; exact H
        clear H
        have H := H1
        clear H1
        replace H := Option.bind_eq_some_iff.mp H
        obtain ⟨t313, A400, H⟩ := H
        replace H : (some t313) = some r := H
        have A40 := Aside0.mk A400
        clear A400
        obtain rfl := Option.some.inj H
        go_wp2_with (first | ((with_reducible refine gate_callee (f := 67) rfl ?_); refine goesM_ (some 47) rfl rfl Tryd.func67 (by kernel_rfl) rfl #[.string a1] rfl ?_; (with_reducible refine (impl_Printable.calls kj31 a1 true _ A38.out).mono ?_); rintro e w' ⟨rfl, ⟨nd, rfl⟩⟩; refine ⟨_, rfl, ?_⟩; have hcz41_0 : wc.cell? ⟨gb307, 0, none⟩ = some (.int .i64 t304) := (blk_cell BK307.out 0).trans rfl; have hcz41_1 : wc.cell? ⟨gb307, 1, none⟩ = some (.int .i64 t305) := (blk_cell BK307.out 1).trans rfl; have hcz41_2 : wc.cell? ⟨gb307, 2, none⟩ = some (.int .i64 t306) := (blk_cell BK307.out 2).trans rfl; have hfz41_0 := blk_frozen BK307.out 0; have hfz41_1 := blk_frozen BK307.out 1; have hfz41_2 := blk_frozen BK307.out 2) | (go_at_call 45; (with_reducible refine (impl_within.calls (a1.size : Int) 1 t306 t313 _ A40.out).mono ?_); rintro e w' ⟨rfl, ⟨nd, rfl⟩⟩))
        go_ret
        exact ⟨by first | rfl | (simp [errW_none, errW_some] <;> rfl) | (simp [*, errW_none, errW_some] <;> rfl), bG⟩
       ·replace c39 := Bool.eq_false_iff.mpr c39
        subst c39
        have H1 : (some false) = some r := by rw [if_neg (show ¬ (false = true) by decide)] at H; exact H
        clear H
        have H := H1
        clear H1
        obtain rfl := Option.some.inj H
        go_wp2_with (first | ((with_reducible refine gate_callee (f := 67) rfl ?_); refine goesM_ (some 47) rfl rfl Tryd.func67 (by kernel_rfl) rfl #[.string a1] rfl ?_; (with_reducible refine (impl_Printable.calls kj31 a1 false _ A38.out).mono ?_); rintro e w' ⟨rfl, ⟨nd, rfl⟩⟩; refine ⟨_, rfl, ?_⟩))
        go_ret
        exact ⟨by first | rfl | (simp [errW_none, errW_some] <;> rfl) | (simp [*, errW_none, errW_some] <;> rfl), bG⟩
      ·replace c37 := Bool.eq_false_iff.mpr c37
       subst c37
       have H1 : (some false) = some r := by rw [if_neg (show ¬ (false = true) by decide)] at H; exact H
       clear H
       have H := H1
       clear H1
       obtain rfl := Option.some.inj H
       go_wp2
       go_ret
       exact ⟨by first | rfl | (simp [errW_none, errW_some] <;> rfl) | (simp [*, errW_none, errW_some] <;> rfl), bG⟩
attribute [local go_sem] max2_int min2_int max_two min_two max_three min_three max_four min_four
set_option linter.unusedVariables false
set_option linter.unusedSimpArgs false
def spec_FieldOk.j0 : Nat → ByteArray → Int → Bool → Option (Bool)
 | 0, _, _, _ => none
 | k + 1, x1, x5, x40 => if x40 = true then ((spec_Printable.f k x1).bind fun t273 => (if t273 = true then ((spec_l01In.f (x1.size : Int) 1 x5).bind fun t274 => (some t274)) else (some false))) else (some false)
def spec_FieldOk.f (k : Nat) (a0 : Int) (a1 : ByteArray) : Option (Bool) := (spec_FieldSize.f k a0).bind fun t268 => ((spec_FieldKind.f k a0).bind fun t269 => (if t269 = 1 then ((spec_Digits.f k a1).bind fun t270 => (if t270 = true then (some ((a1.size : Int) == t268)) else (some false))) else (if t269 = 2 then ((spec_Printable.f k a1).bind fun t271 => (if t271 = true then (some ((a1.size : Int) == t268)) else (some false))) else (if t269 = 3 then ((spec_Digits.f k a1).bind fun t272 => (if t272 = true then (some (decide ((a1.size : Int) ≤ t268))) else (some false))) else (if t269 = 4 then (spec_FieldOk.j0 k a1 t268 (t269 == 4)) else (spec_FieldOk.j0 k a1 t268 (t269 == 5)))))))
set_option maxHeartbeats 8000000 in
set_option maxRecDepth 100000 in
theorem spec_FieldOk.calls (k : Nat) (a0 : Int) (a1 : ByteArray) (r : Bool) (w : World) (h : spec_FieldOk.f k a0 a1 = some r) :
  Calls Tryd.prog 50 #[.int .i64 a0, .string a1] w fun e w' => e = .returned (.bool r) ∧ Drawn0 w w' := by
 have H : ((spec_FieldSize.f k a0).bind fun t268 => ((spec_FieldKind.f k a0).bind fun t269 => (if t269 = 1 then ((spec_Digits.f k a1).bind fun t270 => (if t270 = true then (some ((a1.size : Int) == t268)) else (some false))) else (if t269 = 2 then ((spec_Printable.f k a1).bind fun t271 => (if t271 = true then (some ((a1.size : Int) == t268)) else (some false))) else (if t269 = 3 then ((spec_Digits.f k a1).bind fun t272 => (if t272 = true then (some (decide ((a1.size : Int) ≤ t268))) else (some false))) else (if t269 = 4 then (spec_FieldOk.j0 k a1 t268 (t269 == 4)) else (spec_FieldOk.j0 k a1 t268 (t269 == 5)))))))) = some r := h
 clear h
 replace H := Option.bind_eq_some_iff.mp H
 obtain ⟨t268, A30, H⟩ := H
 replace H : ((spec_FieldKind.f k a0).bind fun t269 => (if t269 = 1 then ((spec_Digits.f k a1).bind fun t270 => (if t270 = true then (some ((a1.size : Int) == t268)) else (some false))) else (if t269 = 2 then ((spec_Printable.f k a1).bind fun t271 => (if t271 = true then (some ((a1.size : Int) == t268)) else (some false))) else (if t269 = 3 then ((spec_Digits.f k a1).bind fun t272 => (if t272 = true then (some (decide ((a1.size : Int) ≤ t268))) else (some false))) else (if t269 = 4 then (spec_FieldOk.j0 k a1 t268 (t269 == 4)) else (spec_FieldOk.j0 k a1 t268 (t269 == 5))))))) = some r := H
 have A3 := Aside0.mk A30
 clear A30
 replace H := Option.bind_eq_some_iff.mp H
 obtain ⟨t269, A40, H⟩ := H
 replace H : (if t269 = 1 then ((spec_Digits.f k a1).bind fun t270 => (if t270 = true then (some ((a1.size : Int) == t268)) else (some false))) else (if t269 = 2 then ((spec_Printable.f k a1).bind fun t271 => (if t271 = true then (some ((a1.size : Int) == t268)) else (some false))) else (if t269 = 3 then ((spec_Digits.f k a1).bind fun t272 => (if t272 = true then (some (decide ((a1.size : Int) ≤ t268))) else (some false))) else (if t269 = 4 then (spec_FieldOk.j0 k a1 t268 (t269 == 4)) else (spec_FieldOk.j0 k a1 t268 (t269 == 5)))))) = some r := H
 have A4 := Aside0.mk A40
 clear A40
 by_cases c5 : t269 = 1
 ·rw [if_pos c5] at H
  have c5b0 : (t269 == 1) = true := beq_iff_eq.mpr c5
  have c5b1 : (t269 != 1) = false := bne_eq_false_iff_eq.mpr c5
  clear c5
  replace H := Option.bind_eq_some_iff.mp H
  obtain ⟨t270, A60, H⟩ := H
  replace H : (if t270 = true then (some ((a1.size : Int) == t268)) else (some false)) = some r := H
  have A6 := Aside0.mk A60
  clear A60
  by_cases c7 : t270 = true
  ·subst c7
   have H1 : (some ((a1.size : Int) == t268)) = some r := by rw [if_pos rfl] at H; exact H
   clear H
   have H := H1
   clear H1
   obtain rfl := Option.some.inj H
   go_enter Tryd.func50, Tryd.ntmps50
   go_wp2_with (first | ((with_reducible refine gate_callee (f := 80) rfl ?_); refine goesM_ (some 7) rfl rfl Tryd.func80 (by kernel_rfl) rfl #[.int .i64 a0] rfl ?_; (with_reducible refine (spec_FieldSize.calls k a0 t268 _ A3.out).mono ?_); rintro e w' ⟨rfl, ⟨nd, rfl⟩⟩; refine ⟨_, rfl, ?_⟩) | ((with_reducible refine gate_callee (f := 51) rfl ?_); refine goesM_ (some 9) rfl rfl Tryd.func51 (by kernel_rfl) rfl #[.int .i64 a0] rfl ?_; (with_reducible refine (spec_FieldKind.calls k a0 t269 _ A4.out).mono ?_); rintro e w' ⟨rfl, ⟨nd, rfl⟩⟩; refine ⟨_, rfl, ?_⟩) | ((with_reducible refine gate_callee (f := 81) rfl ?_); refine goesM_ (some 13) rfl rfl Tryd.func81 (by kernel_rfl) rfl #[.string a1] rfl ?_; (with_reducible refine (spec_Digits.calls k a1 true _ A6.out).mono ?_); rintro e w' ⟨rfl, ⟨nd, rfl⟩⟩; refine ⟨_, rfl, ?_⟩))
   go_ret
   exact ⟨by first | rfl | (simp; done) | (simp [*]; done) | (simp [i64_w, IntKind.wrap_u8, e256_]; done) | (simp; generalize ByteArray.toList _ = zz_; cases zz_ <;> rfl), by repeat (first | exact Drawn0.refl _ | apply Drawn0.step)⟩
  ·replace c7 := Bool.eq_false_iff.mpr c7
   subst c7
   have H1 : (some false) = some r := by rw [if_neg (show ¬ (false = true) by decide)] at H; exact H
   clear H
   have H := H1
   clear H1
   obtain rfl := Option.some.inj H
   go_enter Tryd.func50, Tryd.ntmps50
   go_wp2_with (first | ((with_reducible refine gate_callee (f := 80) rfl ?_); refine goesM_ (some 7) rfl rfl Tryd.func80 (by kernel_rfl) rfl #[.int .i64 a0] rfl ?_; (with_reducible refine (spec_FieldSize.calls k a0 t268 _ A3.out).mono ?_); rintro e w' ⟨rfl, ⟨nd, rfl⟩⟩; refine ⟨_, rfl, ?_⟩) | ((with_reducible refine gate_callee (f := 51) rfl ?_); refine goesM_ (some 9) rfl rfl Tryd.func51 (by kernel_rfl) rfl #[.int .i64 a0] rfl ?_; (with_reducible refine (spec_FieldKind.calls k a0 t269 _ A4.out).mono ?_); rintro e w' ⟨rfl, ⟨nd, rfl⟩⟩; refine ⟨_, rfl, ?_⟩) | ((with_reducible refine gate_callee (f := 81) rfl ?_); refine goesM_ (some 13) rfl rfl Tryd.func81 (by kernel_rfl) rfl #[.string a1] rfl ?_; (with_reducible refine (spec_Digits.calls k a1 false _ A6.out).mono ?_); rintro e w' ⟨rfl, ⟨nd, rfl⟩⟩; refine ⟨_, rfl, ?_⟩))
   go_ret
   exact ⟨by first | rfl | (simp; done) | (simp [*]; done) | (simp [i64_w, IntKind.wrap_u8, e256_]; done) | (simp; generalize ByteArray.toList _ = zz_; cases zz_ <;> rfl), by repeat (first | exact Drawn0.refl _ | apply Drawn0.step)⟩
 ·rw [if_neg c5] at H
  have c5b0 : (t269 == 1) = false := beq_eq_false_iff_ne.mpr c5
  have c5b1 : (t269 != 1) = true := bne_iff_ne.mpr c5
  by_cases c8 : t269 = 2
  ·rw [if_pos c8] at H
   have c8b0 : (t269 == 2) = true := beq_iff_eq.mpr c8
   have c8b1 : (t269 != 2) = false := bne_eq_false_iff_eq.mpr c8
   clear c8
   replace H := Option.bind_eq_some_iff.mp H
   obtain ⟨t271, A90, H⟩ := H
   replace H : (if t271 = true then (some ((a1.size : Int) == t268)) else (some false)) = some r := H
   have A9 := Aside0.mk A90
   clear A90
   by_cases c10 : t271 = true
   ·subst c10
    have H1 : (some ((a1.size : Int) == t268)) = some r := by rw [if_pos rfl] at H; exact H
    clear H
    have H := H1
    clear H1
    obtain rfl := Option.some.inj H
    go_enter Tryd.func50, Tryd.ntmps50
    go_wp2_with (first | ((with_reducible refine gate_callee (f := 80) rfl ?_); refine goesM_ (some 7) rfl rfl Tryd.func80 (by kernel_rfl) rfl #[.int .i64 a0] rfl ?_; (with_reducible refine (spec_FieldSize.calls k a0 t268 _ A3.out).mono ?_); rintro e w' ⟨rfl, ⟨nd, rfl⟩⟩; refine ⟨_, rfl, ?_⟩) | ((with_reducible refine gate_callee (f := 51) rfl ?_); refine goesM_ (some 9) rfl rfl Tryd.func51 (by kernel_rfl) rfl #[.int .i64 a0] rfl ?_; (with_reducible refine (spec_FieldKind.calls k a0 t269 _ A4.out).mono ?_); rintro e w' ⟨rfl, ⟨nd, rfl⟩⟩; refine ⟨_, rfl, ?_⟩) | ((with_reducible refine gate_callee (f := 82) rfl ?_); refine goesM_ (some 23) rfl rfl Tryd.func82 (by kernel_rfl) rfl #[.string a1] rfl ?_; (with_reducible refine (spec_Printable.calls k a1 true _ A9.out).mono ?_); rintro e w' ⟨rfl, ⟨nd, rfl⟩⟩; refine ⟨_, rfl, ?_⟩))
    go_ret
    exact ⟨by first | rfl | (simp; done) | (simp [*]; done) | (simp [i64_w, IntKind.wrap_u8, e256_]; done) | (simp; generalize ByteArray.toList _ = zz_; cases zz_ <;> rfl), by repeat (first | exact Drawn0.refl _ | apply Drawn0.step)⟩
   ·replace c10 := Bool.eq_false_iff.mpr c10
    subst c10
    have H1 : (some false) = some r := by rw [if_neg (show ¬ (false = true) by decide)] at H; exact H
    clear H
    have H := H1
    clear H1
    obtain rfl := Option.some.inj H
    go_enter Tryd.func50, Tryd.ntmps50
    go_wp2_with (first | ((with_reducible refine gate_callee (f := 80) rfl ?_); refine goesM_ (some 7) rfl rfl Tryd.func80 (by kernel_rfl) rfl #[.int .i64 a0] rfl ?_; (with_reducible refine (spec_FieldSize.calls k a0 t268 _ A3.out).mono ?_); rintro e w' ⟨rfl, ⟨nd, rfl⟩⟩; refine ⟨_, rfl, ?_⟩) | ((with_reducible refine gate_callee (f := 51) rfl ?_); refine goesM_ (some 9) rfl rfl Tryd.func51 (by kernel_rfl) rfl #[.int .i64 a0] rfl ?_; (with_reducible refine (spec_FieldKind.calls k a0 t269 _ A4.out).mono ?_); rintro e w' ⟨rfl, ⟨nd, rfl⟩⟩; refine ⟨_, rfl, ?_⟩) | ((with_reducible refine gate_callee (f := 82) rfl ?_); refine goesM_ (some 23) rfl rfl Tryd.func82 (by kernel_rfl) rfl #[.string a1] rfl ?_; (with_reducible refine (spec_Printable.calls k a1 false _ A9.out).mono ?_); rintro e w' ⟨rfl, ⟨nd, rfl⟩⟩; refine ⟨_, rfl, ?_⟩))
    go_ret
    exact ⟨by first | rfl | (simp; done) | (simp [*]; done) | (simp [i64_w, IntKind.wrap_u8, e256_]; done) | (simp; generalize ByteArray.toList _ = zz_; cases zz_ <;> rfl), by repeat (first | exact Drawn0.refl _ | apply Drawn0.step)⟩
  ·rw [if_neg c8] at H
   have c8b0 : (t269 == 2) = false := beq_eq_false_iff_ne.mpr c8
   have c8b1 : (t269 != 2) = true := bne_iff_ne.mpr c8
   by_cases c11 : t269 = 3
   ·rw [if_pos c11] at H
    have c11b0 : (t269 == 3) = true := beq_iff_eq.mpr c11
    have c11b1 : (t269 != 3) = false := bne_eq_false_iff_eq.mpr c11
    clear c11
    replace H := Option.bind_eq_some_iff.mp H
    obtain ⟨t272, A120, H⟩ := H
    replace H : (if t272 = true then (some (decide ((a1.size : Int) ≤ t268))) else (some false)) = some r := H
    have A12 := Aside0.mk A120
    clear A120
    by_cases c13 : t272 = true
    ·subst c13
     have H1 : (some (decide ((a1.size : Int) ≤ t268))) = some r := by rw [if_pos rfl] at H; exact H
     clear H
     have H := H1
     clear H1
     obtain rfl := Option.some.inj H
     go_enter Tryd.func50, Tryd.ntmps50
     go_wp2_with (first | ((with_reducible refine gate_callee (f := 80) rfl ?_); refine goesM_ (some 7) rfl rfl Tryd.func80 (by kernel_rfl) rfl #[.int .i64 a0] rfl ?_; (with_reducible refine (spec_FieldSize.calls k a0 t268 _ A3.out).mono ?_); rintro e w' ⟨rfl, ⟨nd, rfl⟩⟩; refine ⟨_, rfl, ?_⟩) | ((with_reducible refine gate_callee (f := 51) rfl ?_); refine goesM_ (some 9) rfl rfl Tryd.func51 (by kernel_rfl) rfl #[.int .i64 a0] rfl ?_; (with_reducible refine (spec_FieldKind.calls k a0 t269 _ A4.out).mono ?_); rintro e w' ⟨rfl, ⟨nd, rfl⟩⟩; refine ⟨_, rfl, ?_⟩) | ((with_reducible refine gate_callee (f := 81) rfl ?_); refine goesM_ (some 33) rfl rfl Tryd.func81 (by kernel_rfl) rfl #[.string a1] rfl ?_; (with_reducible refine (spec_Digits.calls k a1 true _ A12.out).mono ?_); rintro e w' ⟨rfl, ⟨nd, rfl⟩⟩; refine ⟨_, rfl, ?_⟩))
     go_ret
     exact ⟨by first | rfl | (simp; done) | (simp [*]; done) | (simp [i64_w, IntKind.wrap_u8, e256_]; done) | (simp; generalize ByteArray.toList _ = zz_; cases zz_ <;> rfl), by repeat (first | exact Drawn0.refl _ | apply Drawn0.step)⟩
    ·replace c13 := Bool.eq_false_iff.mpr c13
     subst c13
     have H1 : (some false) = some r := by rw [if_neg (show ¬ (false = true) by decide)] at H; exact H
     clear H
     have H := H1
     clear H1
     obtain rfl := Option.some.inj H
     go_enter Tryd.func50, Tryd.ntmps50
     go_wp2_with (first | ((with_reducible refine gate_callee (f := 80) rfl ?_); refine goesM_ (some 7) rfl rfl Tryd.func80 (by kernel_rfl) rfl #[.int .i64 a0] rfl ?_; (with_reducible refine (spec_FieldSize.calls k a0 t268 _ A3.out).mono ?_); rintro e w' ⟨rfl, ⟨nd, rfl⟩⟩; refine ⟨_, rfl, ?_⟩) | ((with_reducible refine gate_callee (f := 51) rfl ?_); refine goesM_ (some 9) rfl rfl Tryd.func51 (by kernel_rfl) rfl #[.int .i64 a0] rfl ?_; (with_reducible refine (spec_FieldKind.calls k a0 t269 _ A4.out).mono ?_); rintro e w' ⟨rfl, ⟨nd, rfl⟩⟩; refine ⟨_, rfl, ?_⟩) | ((with_reducible refine gate_callee (f := 81) rfl ?_); refine goesM_ (some 33) rfl rfl Tryd.func81 (by kernel_rfl) rfl #[.string a1] rfl ?_; (with_reducible refine (spec_Digits.calls k a1 false _ A12.out).mono ?_); rintro e w' ⟨rfl, ⟨nd, rfl⟩⟩; refine ⟨_, rfl, ?_⟩))
     go_ret
     exact ⟨by first | rfl | (simp; done) | (simp [*]; done) | (simp [i64_w, IntKind.wrap_u8, e256_]; done) | (simp; generalize ByteArray.toList _ = zz_; cases zz_ <;> rfl), by repeat (first | exact Drawn0.refl _ | apply Drawn0.step)⟩
   ·rw [if_neg c11] at H
    have c11b0 : (t269 == 3) = false := beq_eq_false_iff_ne.mpr c11
    have c11b1 : (t269 != 3) = true := bne_iff_ne.mpr c11
    have HC14 := Aside0.mk H
    clear H
    go_enter Tryd.func50, Tryd.ntmps50
    go_upto_if 40 with (first | ((with_reducible refine gate_callee (f := 80) rfl ?_); refine goesM_ (some 7) rfl rfl Tryd.func80 (by kernel_rfl) rfl #[.int .i64 a0] rfl ?_; (with_reducible refine (spec_FieldSize.calls k a0 t268 _ A3.out).mono ?_); rintro e w' ⟨rfl, ⟨nd, rfl⟩⟩; refine ⟨_, rfl, ?_⟩) | ((with_reducible refine gate_callee (f := 51) rfl ?_); refine goesM_ (some 9) rfl rfl Tryd.func51 (by kernel_rfl) rfl #[.int .i64 a0] rfl ?_; (with_reducible refine (spec_FieldKind.calls k a0 t269 _ A4.out).mono ?_); rintro e w' ⟨rfl, ⟨nd, rfl⟩⟩; refine ⟨_, rfl, ?_⟩))
    (try simp only [Act.put, List.setIfInBounds_toArray, List.set_cons_zero, List.set_cons_succ])
    go_cut [40] (fun v40 wc => ∃ (kq : Nat) (x40_13 : Bool), v40 = .bool x40_13 ∧ Aside0 (spec_FieldOk.j0 kq a1 t268 x40_13 = some r) ∧ Aside0 (kq ≤ k) ∧ Drawn0 w wc)
    case first =>
     have H := HC14.out
     clear HC14
     by_cases c15 : t269 = 4
     ·rw [if_pos c15] at H
      have c15b0 : (t269 == 4) = true := beq_iff_eq.mpr c15
      have c15b1 : (t269 != 4) = false := bne_eq_false_iff_eq.mpr c15
      clear c15
      (first | rw [c15b0] | (simp only [i64_w, i32_w]; rw [c15b0]) | rw [c15b1] | (simp only [c15b1]) | skip)
      have H' := Aside0.mk H
      clear H
      go_wp2
      go_meet
      case rel => exact ⟨_, ((t269 == 4)), (by first | rfl | (simp; done) | (simp [*]; done) | (simp [i64_w, IntKind.wrap_u8, e256_]; done) | (simp; generalize ByteArray.toList _ = zz_; cases zz_ <;> rfl)), H', ⟨by first | omega | exact Nat.le_refl _⟩, by repeat (first | exact Drawn0.refl _ | apply Drawn0.step)⟩
     ·rw [if_neg c15] at H
      have c15b0 : (t269 == 4) = false := beq_eq_false_iff_ne.mpr c15
      have c15b1 : (t269 != 4) = true := bne_iff_ne.mpr c15
      (first | rw [c15b0] | (simp only [i64_w, i32_w]; rw [c15b0]) | rw [c15b1] | (simp only [c15b1]) | skip)
      have H' := Aside0.mk H
      clear H
      go_wp2
      go_meet
      case rel => exact ⟨_, ((t269 == 5)), (by first | rfl | (simp; done) | (simp [*]; done) | (simp [i64_w, IntKind.wrap_u8, e256_]; done) | (simp; generalize ByteArray.toList _ = zz_; cases zz_ <;> rfl)), H', ⟨by first | omega | exact Nat.le_refl _⟩, by repeat (first | exact Drawn0.refl _ | apply Drawn0.step)⟩
    case rest =>
     clear HC14
     try clear c1
     try clear p2
     try clear c5
     try clear c5b0
     try clear c5b1
     try clear p6
     try clear c7
     try clear c8
     try clear c8b0
     try clear c8b1
     try clear c10
     try clear c11
     try clear c11b0
     try clear c11b1
     try clear c13
     try clear c15
     try clear c15b0
     try clear c15b1
     obtain ⟨kq, x40_13, rfl, HA, HJ13, ⟨mc13, rfl⟩⟩ := hcut
     cases kq with
     | zero => exact absurd HA.out (by simp [spec_FieldOk.j0])
     | succ kj13 =>
      have H := HA.out
      clear HA
      simp only [spec_FieldOk.j0] at H
      by_cases c16 : x40_13 = true
      ·subst c16
       have H1 : ((spec_Printable.f kj13 a1).bind fun t273 => (if t273 = true then ((spec_l01In.f (a1.size : Int) 1 t268).bind fun t274 => (some t274)) else (some false))) = some r := by rw [if_pos rfl] at H; exact H
       clear H
       have H := H1
       clear H1
       replace H := Option.bind_eq_some_iff.mp H
       obtain ⟨t273, A170, H⟩ := H
       replace H : (if t273 = true then ((spec_l01In.f (a1.size : Int) 1 t268).bind fun t274 => (some t274)) else (some false)) = some r := H
       have A17 := Aside0.mk A170
       clear A170
       by_cases c18 : t273 = true
       ·subst c18
        have H1 : ((spec_l01In.f (a1.size : Int) 1 t268).bind fun t274 => (some t274)) = some r := by rw [if_pos rfl] at H; exact H
        clear H
        have H := H1
        clear H1
        replace H := Option.bind_eq_some_iff.mp H
        obtain ⟨t274, A190, H⟩ := H
        replace H : (some t274) = some r := H
        have A19 := Aside0.mk A190
        clear A190
        obtain rfl := Option.some.inj H
        go_wp2_with (first | ((with_reducible refine gate_callee (f := 82) rfl ?_); refine goesM_ (some 44) rfl rfl Tryd.func82 (by kernel_rfl) rfl #[.string a1] rfl ?_; (with_reducible refine (spec_Printable.calls kj13 a1 true _ A17.out).mono ?_); rintro e w' ⟨rfl, ⟨nd, rfl⟩⟩; refine ⟨_, rfl, ?_⟩) | (go_at_call 83; (with_reducible refine (spec_l01In.calls (a1.size : Int) 1 t268 t274 _ A19.out).mono ?_); rintro e w' ⟨rfl, ⟨nd, rfl⟩⟩))
        go_ret
        exact ⟨by first | rfl | (simp; done) | (simp [*]; done) | (simp [i64_w, IntKind.wrap_u8, e256_]; done) | (simp; generalize ByteArray.toList _ = zz_; cases zz_ <;> rfl), by repeat (first | exact Drawn0.refl _ | apply Drawn0.step)⟩
       ·replace c18 := Bool.eq_false_iff.mpr c18
        subst c18
        have H1 : (some false) = some r := by rw [if_neg (show ¬ (false = true) by decide)] at H; exact H
        clear H
        have H := H1
        clear H1
        obtain rfl := Option.some.inj H
        go_wp2_with (first | ((with_reducible refine gate_callee (f := 82) rfl ?_); refine goesM_ (some 44) rfl rfl Tryd.func82 (by kernel_rfl) rfl #[.string a1] rfl ?_; (with_reducible refine (spec_Printable.calls kj13 a1 false _ A17.out).mono ?_); rintro e w' ⟨rfl, ⟨nd, rfl⟩⟩; refine ⟨_, rfl, ?_⟩))
        go_ret
        exact ⟨by first | rfl | (simp; done) | (simp [*]; done) | (simp [i64_w, IntKind.wrap_u8, e256_]; done) | (simp; generalize ByteArray.toList _ = zz_; cases zz_ <;> rfl), by repeat (first | exact Drawn0.refl _ | apply Drawn0.step)⟩
      ·replace c16 := Bool.eq_false_iff.mpr c16
       subst c16
       have H1 : (some false) = some r := by rw [if_neg (show ¬ (false = true) by decide)] at H; exact H
       clear H
       have H := H1
       clear H1
       obtain rfl := Option.some.inj H
       go_wp2
       go_ret
       exact ⟨by first | rfl | (simp; done) | (simp [*]; done) | (simp [i64_w, IntKind.wrap_u8, e256_]; done) | (simp; generalize ByteArray.toList _ = zz_; cases zz_ <;> rfl), by repeat (first | exact Drawn0.refl _ | apply Drawn0.step)⟩
end Go.Proofs.YtfiieppnpmodoaaDoor.Q
end
section
namespace Go.Proofs.YtfiieppnpmodoaaDoor.Q
open Go.RowKit Go.Proofs.YtfiieppnpmodoaaDoorW.PrintWords Go.Proofs.YtfiieppnpmodoaaDoorW.PrintLast Go.Proofs.YtfiieppnpmodoaaDoorW.PrintMore
set_option linter.unusedVariables false
set_option linter.unusedSimpArgs false
def fieldOk (x : Int) (l : List Int) : Bool :=
  if kindOf x = 1 then digs l && ((l.length : Int) == sizeOf_ x)
  else if kindOf x = 2 then l.all isPri && ((l.length : Int) == sizeOf_ x)
  else if kindOf x = 3 then digs l && decide ((l.length : Int) ≤ sizeOf_ x)
  else if kindOf x = 4 ∨ kindOf x = 5 then l.all isPri && decide (1 ≤ (l.length : Int) ∧ (l.length : Int) ≤ sizeOf_ x)
  else false
theorem kind_range (x : Int) : 0 ≤ kindOf x ∧ kindOf x ≤ 5 := by
  unfold kindOf
  repeat' split
  all_goals omega
theorem spec_FieldOk_at (x : Int) (s : ByteArray) (hs : s.size ≤ 140737488351232) (k : Nat) (hk : s.size + 22 < k) : spec_FieldOk.f k x s = some (fieldOk x (bytesOf s)) := by
  unfold spec_FieldOk.f fieldOk
  rw [spec_FieldSize_at x k (by omega), spec_FieldKind_at x k (by omega)]
  simp only [Option.bind_some]
  obtain ⟨r0, r1⟩ := kind_range x
  rw [bytesOf_length]
  generalize kindOf x = t at r0 r1
  by_cases h1 : t = 1
  · rw [if_pos h1, if_pos h1, spec_Digits_at s hs k (by omega), Option.bind_some]
    cases digs (bytesOf s) <;> simp
  by_cases h2 : t = 2
  · rw [if_neg h1, if_neg h1, if_pos h2, if_pos h2, spec_Printable_at s hs k (by omega), Option.bind_some]
    cases (bytesOf s).all isPri <;> simp
  by_cases h3 : t = 3
  · rw [if_neg h1, if_neg h1, if_neg h2, if_neg h2, if_pos h3, if_pos h3, spec_Digits_at s hs k (by omega), Option.bind_some]
    cases digs (bytesOf s) <;> simp
  rw [if_neg h1, if_neg h1, if_neg h2, if_neg h2, if_neg h3, if_neg h3]
  obtain ⟨k, rfl⟩ : ∃ m, k = m + 1 := ⟨k - 1, by omega⟩
  have hp := spec_Printable_at s hs k (by omega)
  have hin : spec_l01In.f (s.size : Int) 1 (sizeOf_ x) = some (decide (1 ≤ (s.size : Int) ∧ (s.size : Int) ≤ sizeOf_ x)) := by
    unfold spec_l01In.f
    by_cases h : (s.size : Int) ≥ 1
    · have h' : 1 ≤ (s.size : Int) := h
      rw [if_pos h]; simp only [h', true_and]
    · have h' : ¬ 1 ≤ (s.size : Int) := h
      rw [if_neg h]; simp only [h', false_and, decide_false]
  by_cases h4 : t = 4 ∨ t = 5
  · rw [if_pos h4]
    have e : (if t = 4 then spec_FieldOk.j0 (k + 1) s (sizeOf_ x) (t == 4) else spec_FieldOk.j0 (k + 1) s (sizeOf_ x) (t == 5)) = spec_FieldOk.j0 (k + 1) s (sizeOf_ x) true := by
      rcases h4 with h | h
      · rw [if_pos h, h]; rfl
      · rw [if_neg (by omega), h]; rfl
    rw [e, spec_FieldOk.j0, if_pos rfl, hp, Option.bind_some, hin]
    cases (bytesOf s).all isPri <;> simp
  · rw [if_neg h4]
    have e : (if t = 4 then spec_FieldOk.j0 (k + 1) s (sizeOf_ x) (t == 4) else spec_FieldOk.j0 (k + 1) s (sizeOf_ x) (t == 5)) = spec_FieldOk.j0 (k + 1) s (sizeOf_ x) false := by
      have h5 : ¬ t = 5 := fun h => h4 (Or.inr h)
      rw [if_neg (fun h => h4 (Or.inl h)), show (t == 5) = false from by simpa using h5]
    rw [e, spec_FieldOk.j0, if_neg (by simp)]
theorem impl_FieldOk_at (x : Int) (s : ByteArray) (hs : s.size ≤ 140737488351232) (k : Nat) (hk : s.size + 22 < k) : impl_FieldOk.f k x s = some (fieldOk x (bytesOf s)) := by
  unfold impl_FieldOk.f fieldOk
  obtain ⟨y, hy⟩ := rowOf_at x k (by omega)
  rw [hy, Option.bind_some]
  simp only
  obtain ⟨r0, r1⟩ := kind_range x
  have hl := bytesOf_length s
  rw [hl]
  generalize kindOf x = t at r0 r1
  have hin : impl_within.f (s.size : Int) 1 (sizeOf_ x) = some (decide (1 ≤ (s.size : Int) ∧ (s.size : Int) ≤ sizeOf_ x)) := by
    unfold impl_within.f
    by_cases h : 1 ≤ (s.size : Int)
    · rw [if_pos h]; simp only [h, true_and]
    · rw [if_neg h]; simp only [h, false_and, decide_false]
  by_cases h1 : t = 1
  · rw [if_pos h1, if_pos h1, impl_Digits_at s hs k (by omega), Option.bind_some]
    cases digs (bytesOf s) <;> simp
  by_cases h2 : t = 2
  · rw [if_neg h1, if_neg h1, if_pos h2, if_pos h2, impl_Printable_at s hs k (by omega), Option.bind_some]
    cases (bytesOf s).all isPri <;> simp
  by_cases h3 : t = 3
  · rw [if_neg h1, if_neg h1, if_neg h2, if_neg h2, if_pos h3, if_pos h3, impl_Digits_at s hs k (by omega), Option.bind_some, hin]
    by_cases hg : digs (bytesOf s) = true
    · have := (digs_and _ hg).2
      rw [hl] at this
      have h' : 1 ≤ (s.size : Int) := by omega
      rw [if_pos hg, hg]
      simp only [h', true_and, Option.bind_some, Bool.true_and]
    · rw [if_neg hg]
      simp [hg]
  rw [if_neg h1, if_neg h1, if_neg h2, if_neg h2, if_neg h3, if_neg h3]
  obtain ⟨k, rfl⟩ : ∃ m, k = m + 1 := ⟨k - 1, by omega⟩
  have hp := impl_Printable_at s hs k (by omega)
  by_cases h4 : t = 4 ∨ t = 5
  · rw [if_pos h4]
    have e : (if t = 4 then impl_FieldOk.j0 (k + 1) s (t == 4) y t (sizeOf_ x) else impl_FieldOk.j0 (k + 1) s (t == 5) y t (sizeOf_ x)) = impl_FieldOk.j0 (k + 1) s true y t (sizeOf_ x) := by
      rcases h4 with h | h
      · rw [if_pos h, h]; rfl
      · rw [if_neg (by omega), h]; rfl
    rw [e, impl_FieldOk.j0, if_pos rfl, hp, Option.bind_some, hin]
    cases (bytesOf s).all isPri <;> simp
  · rw [if_neg h4]
    have e : (if t = 4 then impl_FieldOk.j0 (k + 1) s (t == 4) y t (sizeOf_ x) else impl_FieldOk.j0 (k + 1) s (t == 5) y t (sizeOf_ x)) = impl_FieldOk.j0 (k + 1) s false y t (sizeOf_ x) := by
      have h5 : ¬ t = 5 := fun h => h4 (Or.inr h)
      rw [if_neg (fun h => h4 (Or.inl h)), show (t == 5) = false from by simpa using h5]
    rw [e, impl_FieldOk.j0, if_neg (by simp)]
end Go.Proofs.YtfiieppnpmodoaaDoor.Q
end
section
namespace Go.Proofs.YtfiieppnpmodoaaDoor.Q
open Go.RowKit Go.Proofs.YtfiieppnpmodoaaDoorW.PrintWords Go.Proofs.YtfiieppnpmodoaaDoorW.PrintLast Go.Proofs.YtfiieppnpmodoaaDoorW.PrintMore
attribute [local go_sem] max2_int min2_int max_two min_two max_three min_three max_four min_four
set_option linter.unusedVariables false
set_option linter.unusedSimpArgs false
def spec_l03Width.j0 : Nat → Int → Bool → Option (Int)
 | 0, _, _ => none
 | k + 1, x3, x4 => if x4 = true then (some 2) else (if x3 = 5 then (some 3) else (some 0))
def spec_l03Width.f (k : Nat) (a0 : Int) : Option (Int) := if a0 = 3 then (spec_l03Width.j0 k a0 (a0 == 3)) else (spec_l03Width.j0 k a0 (a0 == 4))
set_option maxHeartbeats 8000000 in
set_option maxRecDepth 100000 in
theorem spec_l03Width.calls (k : Nat) (a0 : Int) (r : Int) (w : World) (h : spec_l03Width.f k a0 = some r) :
  Calls Tryd.prog 52 #[.int .i64 a0] w fun e w' => e = .returned (.int .i64 r) ∧ Drawn0 w w' := by
 have H : (if a0 = 3 then (spec_l03Width.j0 k a0 (a0 == 3)) else (spec_l03Width.j0 k a0 (a0 == 4))) = some r := h
 clear h
 have HC2 := Aside0.mk H
 clear H
 go_enter Tryd.func52, Tryd.ntmps52
 go_upto_if 4 with (fail)
 go_cut [4] (fun v4 wc => ∃ (kq : Nat) (x4_1 : Bool), v4 = .bool x4_1 ∧ Aside0 (spec_l03Width.j0 kq a0 x4_1 = some r) ∧ Aside0 (kq ≤ k) ∧ Drawn0 w wc)
 case first =>
  have H := HC2.out
  clear HC2
  by_cases c3 : a0 = 3
  ·rw [if_pos c3] at H
   have c3b0 : (a0 == 3) = true := beq_iff_eq.mpr c3
   have c3b1 : (a0 != 3) = false := bne_eq_false_iff_eq.mpr c3
   clear c3
   (first | rw [c3b0] | (simp only [i64_w, i32_w]; rw [c3b0]) | rw [c3b1] | (simp only [c3b1]) | skip)
   have H' := Aside0.mk H
   clear H
   go_wp2
   go_meet
   case rel => exact ⟨_, ((a0 == 3)), (by first | rfl | (simp; done) | (simp [*]; done) | (simp [i64_w, IntKind.wrap_u8, e256_]; done) | (simp; generalize ByteArray.toList _ = zz_; cases zz_ <;> rfl)), H', ⟨by first | omega | exact Nat.le_refl _⟩, by repeat (first | exact Drawn0.refl _ | apply Drawn0.step)⟩
  ·rw [if_neg c3] at H
   have c3b0 : (a0 == 3) = false := beq_eq_false_iff_ne.mpr c3
   have c3b1 : (a0 != 3) = true := bne_iff_ne.mpr c3
   (first | rw [c3b0] | (simp only [i64_w, i32_w]; rw [c3b0]) | rw [c3b1] | (simp only [c3b1]) | skip)
   have H' := Aside0.mk H
   clear H
   go_wp2
   go_meet
   case rel => exact ⟨_, ((a0 == 4)), (by first | rfl | (simp; done) | (simp [*]; done) | (simp [i64_w, IntKind.wrap_u8, e256_]; done) | (simp; generalize ByteArray.toList _ = zz_; cases zz_ <;> rfl)), H', ⟨by first | omega | exact Nat.le_refl _⟩, by repeat (first | exact Drawn0.refl _ | apply Drawn0.step)⟩
 case rest =>
  clear HC2
  try clear p2
  try clear c3
  try clear c3b0
  try clear c3b1
  obtain ⟨kq, x4_1, rfl, HA, HJ1, ⟨mc1, rfl⟩⟩ := hcut
  cases kq with
  | zero => exact absurd HA.out (by simp [spec_l03Width.j0])
  | succ kj1 =>
   have H := HA.out
   clear HA
   simp only [spec_l03Width.j0] at H
   by_cases c4 : x4_1 = true
   ·subst c4
    have H1 : (some 2) = some r := by rw [if_pos rfl] at H; exact H
    clear H
    have H := H1
    clear H1
    obtain rfl := Option.some.inj H
    go_wp2
    go_ret
    exact ⟨by first | rfl | (simp; done) | (simp [*]; done) | (simp [i64_w, IntKind.wrap_u8, e256_]; done) | (simp; generalize ByteArray.toList _ = zz_; cases zz_ <;> rfl), by repeat (first | exact Drawn0.refl _ | apply Drawn0.step)⟩
   ·replace c4 := Bool.eq_false_iff.mpr c4
    subst c4
    have H1 : (if a0 = 5 then (some 3) else (some 0)) = some r := by rw [if_neg (show ¬ (false = true) by decide)] at H; exact H
    clear H
    have H := H1
    clear H1
    by_cases c5 : a0 = 5
    ·rw [if_pos c5] at H
     have c5b0 : (a0 == 5) = true := beq_iff_eq.mpr c5
     have c5b1 : (a0 != 5) = false := bne_eq_false_iff_eq.mpr c5
     clear c5
     obtain rfl := Option.some.inj H
     go_wp2
     go_ret
     exact ⟨by first | rfl | (simp; done) | (simp [*]; done) | (simp [i64_w, IntKind.wrap_u8, e256_]; done) | (simp; generalize ByteArray.toList _ = zz_; cases zz_ <;> rfl), by repeat (first | exact Drawn0.refl _ | apply Drawn0.step)⟩
    ·rw [if_neg c5] at H
     have c5b0 : (a0 == 5) = false := beq_eq_false_iff_ne.mpr c5
     have c5b1 : (a0 != 5) = true := bne_iff_ne.mpr c5
     obtain rfl := Option.some.inj H
     go_wp2
     go_ret
     exact ⟨by first | rfl | (simp; done) | (simp [*]; done) | (simp [i64_w, IntKind.wrap_u8, e256_]; done) | (simp; generalize ByteArray.toList _ = zz_; cases zz_ <;> rfl), by repeat (first | exact Drawn0.refl _ | apply Drawn0.step)⟩
end Go.Proofs.YtfiieppnpmodoaaDoor.Q
end
section
namespace Go.Proofs.YtfiieppnpmodoaaDoor.Q
open Go.RowKit Go.Proofs.YtfiieppnpmodoaaDoorW.PrintWords Go.Proofs.YtfiieppnpmodoaaDoorW.PrintLast Go.Proofs.YtfiieppnpmodoaaDoorW.PrintMore
set_option linter.unusedVariables false
set_option linter.unusedSimpArgs false
theorem sizeOf_range (x : Int) : 0 ≤ sizeOf_ x ∧ sizeOf_ x ≤ 60 := by
  unfold sizeOf_
  repeat' split
  all_goals omega
theorem spec_l03Width_at (t : Int) (k : Nat) (hk : 2 ≤ k) : spec_l03Width.f k t = some (if t = 3 ∨ t = 4 then 2 else if t = 5 then 3 else 0) := by
  obtain ⟨k, rfl⟩ : ∃ m, k = m + 1 := ⟨k - 1, by omega⟩
  unfold spec_l03Width.f
  by_cases h3 : t = 3
  · subst h3; rfl
  by_cases h4 : t = 4
  · subst h4; rfl
  have e4 : (t == 4) = false := by simp [h4]
  rw [if_neg h3, if_neg (by omega), e4, spec_l03Width.j0, if_neg (by simp)]
  split <;> rfl
theorem known (x : Int) (h : ¬ kindOf x = 0) : x = 2 ∨ (x = 3 ∨ x = 4 ∨ x = 7 ∨ x = 11 ∨ x = 14 ∨ x = 49) ∨ (x = 37 ∨ x = 38 ∨ x = 39 ∨ x = 41 ∨ x = 95) ∨ (x = 102 ∨ x = 103) ∨ (x = 48 ∨ x = 54) := by
  unfold kindOf at h
  by_cases a : x = 2
  · exact .inl a
  by_cases b : x = 3 ∨ x = 4 ∨ x = 7 ∨ x = 11 ∨ x = 14 ∨ x = 49
  · exact .inr (.inl b)
  by_cases c : x = 37 ∨ x = 38 ∨ x = 39 ∨ x = 41 ∨ x = 95
  · exact .inr (.inr (.inl c))
  by_cases d : x = 102 ∨ x = 103
  · exact .inr (.inr (.inr (.inl d)))
  by_cases e : x = 48 ∨ x = 54
  · exact .inr (.inr (.inr (.inr e)))
  rw [if_neg a, if_neg b, if_neg c, if_neg d, if_neg e] at h
  exact absurd rfl h
theorem size_pos (x : Int) (h : ¬ kindOf x = 0) : 1 ≤ sizeOf_ x := by
  rcases known x h with rfl | (rfl | rfl | rfl | rfl | rfl | rfl) | (rfl | rfl | rfl | rfl | rfl) | (rfl | rfl) | (rfl | rfl) <;> decide
theorem fieldOk_len (x : Int) (l : List Int) (h : fieldOk x l = true) : 1 ≤ l.length ∧ (l.length : Int) ≤ sizeOf_ x := by
  unfold fieldOk at h
  have s0 := sizeOf_range x
  have hs : kindOf x = 2 → 1 ≤ sizeOf_ x := fun h => size_pos x (by omega)
  split at h
  · rename_i q
    simp only [Bool.and_eq_true, beq_iff_eq] at h
    have := (digs_and _ h.1).2
    omega
  split at h
  · rename_i q q2
    simp only [Bool.and_eq_true, beq_iff_eq] at h
    have := hs q2
    omega
  split at h
  · simp only [Bool.and_eq_true, decide_eq_true_eq] at h
    have := (digs_and _ h.1).2
    omega
  split at h
  · simp only [Bool.and_eq_true, decide_eq_true_eq] at h
    omega
  · exact absurd h (by simp)
end Go.Proofs.YtfiieppnpmodoaaDoor.Q
end
section
namespace Go.Proofs.YtfiieppnpmodoaaDoor.Q
open Go.RowKit Go.Proofs.YtfiieppnpmodoaaDoorW.PrintWords Go.Proofs.YtfiieppnpmodoaaDoorW.PrintLast Go.Proofs.YtfiieppnpmodoaaDoorW.PrintMore
attribute [local go_sem] max2_int min2_int max_two min_two max_three min_three max_four min_four
set_option linter.unusedVariables false
set_option linter.unusedSimpArgs false
def impl_FieldKind.f (k : Nat) (a0 : Int) : Option (Int) := (impl_rowOf.f k a0).bind fun bt314 => (some bt314.2.1)
set_option maxHeartbeats 8000000 in
set_option maxRecDepth 100000 in
theorem impl_FieldKind.calls (k : Nat) (a0 : Int) (r : Int) (w : World) (h : impl_FieldKind.f k a0 = some r) :
  Calls Tryd.prog 55 #[.int .i64 a0] w fun e w' => e = .returned (.int .i64 r) ∧ Below w.heap.size w w' := by
 have hfd85_1 : ∀ (x0_ x1_ x2_ : Value) (W : World), (Instr.field 85 (.agg #[x0_, x1_, x2_]) 1).run Tryd.prog W = .ok (x1_) W := fun _ _ _ _ => by kernel_rfl
 have HB := Aside0.mk (Below.refl w.heap.size w)
 have H : ((impl_rowOf.f k a0).bind fun bt314 => (some bt314.2.1)) = some r := h
 clear h
 replace H := Option.bind_eq_some_iff.mp H
 obtain ⟨⟨t314, t315, t316⟩, A20, H⟩ := H
 replace H : (some t315) = some r := H
 have A2 := Aside0.mk A20
 clear A20
 obtain rfl := Option.some.inj H
 go_enter Tryd.func55, Tryd.ntmps55
 go_wp2_with (first | ((with_reducible refine gate_callee (f := 66) rfl ?_); refine goesM_ (some 4) rfl rfl Tryd.func66 (by kernel_rfl) rfl #[.int .i64 a0] rfl ?_; (with_reducible refine (impl_rowOf.calls k a0 t314 t315 t316 _ A2.out).mono ?_); rintro e w3 ⟨rfl, hb⟩; refine ⟨_, rfl, ?_⟩; have n0_ := Aside0.mk (below_step bB hb); clear HB; have HB := n0_; clear n0_; (try clear hb); (try clear hb2); (try clear hk); (try clear hi)))
 go_ret
 exact ⟨by first | rfl | (simp [errW_none, errW_some] <;> rfl) | (simp [*, errW_none, errW_some] <;> rfl), bB⟩
def impl_lenDigits.f (k : Nat) (a0 : Int) : Option (Int) := (impl_FieldKind.f k a0).bind fun t317 => (if t317 = 5 then (some 3) else (some 2))
set_option maxHeartbeats 8000000 in
set_option maxRecDepth 100000 in
theorem impl_lenDigits.calls (k : Nat) (a0 : Int) (r : Int) (w : World) (h : impl_lenDigits.f k a0 = some r) :
  Calls Tryd.prog 56 #[.int .i64 a0] w fun e w' => e = .returned (.int .i64 r) ∧ Below w.heap.size w w' := by
 have HB := Aside0.mk (Below.refl w.heap.size w)
 have H : ((impl_FieldKind.f k a0).bind fun t317 => (if t317 = 5 then (some 3) else (some 2))) = some r := h
 clear h
 replace H := Option.bind_eq_some_iff.mp H
 obtain ⟨t317, A20, H⟩ := H
 replace H : (if t317 = 5 then (some 3) else (some 2)) = some r := H
 have A2 := Aside0.mk A20
 clear A20
 by_cases c3 : t317 = 5
 ·rw [if_pos c3] at H
  have c3b0 : (t317 == 5) = true := beq_iff_eq.mpr c3
  have c3b1 : (t317 != 5) = false := bne_eq_false_iff_eq.mpr c3
  clear c3
  obtain rfl := Option.some.inj H
  go_enter Tryd.func56, Tryd.ntmps56
  go_wp2_with (first | ((with_reducible refine gate_callee (f := 55) rfl ?_); refine goesM_ (some 4) rfl rfl Tryd.func55 (by kernel_rfl) rfl #[.int .i64 a0] rfl ?_; (with_reducible refine (impl_FieldKind.calls k a0 t317 _ A2.out).mono ?_); rintro e w4 ⟨rfl, hb⟩; refine ⟨_, rfl, ?_⟩; have n0_ := Aside0.mk (below_step bB hb); clear HB; have HB := n0_; clear n0_; (try clear hb); (try clear hb2); (try clear hk); (try clear hi)))
  go_ret
  exact ⟨by first | rfl | (simp [errW_none, errW_some] <;> rfl) | (simp [*, errW_none, errW_some] <;> rfl), bB⟩
 ·rw [if_neg c3] at H
  have c3b0 : (t317 == 5) = false := beq_eq_false_iff_ne.mpr c3
  have c3b1 : (t317 != 5) = true := bne_iff_ne.mpr c3
  obtain rfl := Option.some.inj H
  go_enter Tryd.func56, Tryd.ntmps56
  go_wp2_with (first | ((with_reducible refine gate_callee (f := 55) rfl ?_); refine goesM_ (some 4) rfl rfl Tryd.func55 (by kernel_rfl) rfl #[.int .i64 a0] rfl ?_; (with_reducible refine (impl_FieldKind.calls k a0 t317 _ A2.out).mono ?_); rintro e w5 ⟨rfl, hb⟩; refine ⟨_, rfl, ?_⟩; have n0_ := Aside0.mk (below_step bB hb); clear HB; have HB := n0_; clear n0_; (try clear hb); (try clear hb2); (try clear hk); (try clear hi)))
  go_ret
  exact ⟨by first | rfl | (simp [errW_none, errW_some] <;> rfl) | (simp [*, errW_none, errW_some] <;> rfl), bB⟩
end Go.Proofs.YtfiieppnpmodoaaDoor.Q
end
section
namespace Go.Proofs.YtfiieppnpmodoaaDoor.Q
open Go.RowKit Go.Proofs.YtfiieppnpmodoaaDoorW.PrintWords Go.Proofs.YtfiieppnpmodoaaDoorW.PrintLast Go.Proofs.YtfiieppnpmodoaaDoorW.PrintMore
set_option linter.unusedVariables false
set_option linter.unusedSimpArgs false
theorem impl_FieldKind_at (x : Int) (k : Nat) (hk : 20 ≤ k) : impl_FieldKind.f k x = some (kindOf x) := by
  obtain ⟨y, h⟩ := rowOf_at x k hk
  unfold impl_FieldKind.f
  rw [h]; rfl
def prefixed (x : Int) : Bool := decide (kindOf x = 3 ∨ kindOf x = 4 ∨ kindOf x = 5)
def lenWidth (x : Int) : Int := if kindOf x = 5 then 3 else 2
def inDigits (x : Int) : Bool := decide (kindOf x = 1 ∨ kindOf x = 3)
theorem impl_lenDigits_at (x : Int) (k : Nat) (hk : 20 ≤ k) : impl_lenDigits.f k x = some (lenWidth x) := by
  unfold impl_lenDigits.f lenWidth
  rw [impl_FieldKind_at x k hk, Option.bind_some]
  split <;> rfl
def pfHead (x : Int) (n : Nat) : List Int := if prefixed x = true then (putLen (n : Int) (lenWidth x)).1 else []
def pfBody (x : Int) (L : List Int) : List Int := if inDigits x = true then bcd (evened L) else L
def putField (x : Int) (L : List Int) : List Int × Bool := if fieldOk x L = true then (pfHead x L.length ++ pfBody x L, true) else ([], false)
theorem fieldOk_digits (x : Int) (L : List Int) (h : fieldOk x L = true) (hd : inDigits x = true) : L.all isDig = true ∧ 1 ≤ L.length ∧ L.length ≤ 38 := by
  have hl := fieldOk_len x L h
  have hd' := of_decide_eq_true hd
  have hz : sizeOf_ x ≤ 38 := by
    rcases known x (by omega) with rfl | (rfl | rfl | rfl | rfl | rfl | rfl) | (rfl | rfl | rfl | rfl | rfl) | (rfl | rfl) | (rfl | rfl) <;> first | decide | (exact absurd hd' (by decide))
  refine ⟨?_, hl.1, by omega⟩
  unfold fieldOk at h
  rcases hd' with q | q
  · rw [if_pos q] at h
    simp only [Bool.and_eq_true] at h
    exact (digs_and _ h.1).1
  · rw [if_neg (by omega), if_neg (by omega), if_pos q] at h
    simp only [Bool.and_eq_true] at h
    exact (digs_and _ h.1).1
theorem putBcd_digits (L : List Int) (hd : L.all isDig = true) (h1 : 1 ≤ L.length) (h2 : L.length ≤ 38) : putBcd L = (bcd (evened L), true) := by
  have hg : digs L = true := by
    unfold digs; rw [hd]; cases L with
    | nil => simp at h1
    | cons => rfl
  unfold putBcd
  rw [hg]
  simp [h2]
theorem fieldOk_kind (x : Int) (L : List Int) (h : fieldOk x L = true) : ¬ kindOf x = 0 := by
  intro h0
  unfold fieldOk at h
  rw [if_neg (by omega), if_neg (by omega), if_neg (by omega), if_neg (by omega)] at h
  exact absurd h (by simp)
def impl_PutField.f (a0 : Int) (a1 : ByteArray) : Option (List Int × Bool) := if a1.size ≤ 140737488351232 then some (putField a0 (bytesOf a1)) else none
theorem iput_info : (Tryd.prog.info? 5).map (fun i => (i.zero, i.size, i.bytes)) = some (some (.int .u8 0), 1, 1) := by kernel_rfl
set_option maxHeartbeats 8000000 in
set_option maxRecDepth 100000 in
theorem iput_no (a0 : Int) (a1 : ByteArray) (w : World) (hs : a1.size ≤ 140737488351232) (h : fieldOk a0 (bytesOf a1) = false) :
    Calls Tryd.prog 22 #[.int .i64 a0, .string a1] w fun e w' => ∃ v, e = .returned (.tuple #[v, .bool false]) ∧ RowB 5 w' w.heap.size v [] ∧ Below w.heap.size w w' := by
  have HF := Aside0.mk (impl_FieldOk_at a0 a1 hs (a1.size + 1000) (by omega))
  rw [h] at HF
  go_enter Tryd.func22, Tryd.ntmps22
  go_wp2_with (go_at_call 34; (with_reducible refine (impl_FieldOk.calls _ a0 a1 false _ HF.out).mono ?_); rintro e w1 ⟨rfl, hb1⟩; have HB1 := Aside0.mk hb1; clear hb1)
  go_ret2
  exact ⟨_, rfl, .inl ⟨rfl, rfl⟩, HB1.out⟩
set_option maxHeartbeats 8000000 in
set_option maxRecDepth 100000 in
theorem iput_num (a0 : Int) (a1 : ByteArray) (w : World) (hs : a1.size ≤ 38) (h : fieldOk a0 (bytesOf a1) = true) (hk : kindOf a0 = 1) (hd : putBcd (bytesOf a1) = (bcd (evened (bytesOf a1)), true)) :
    Calls Tryd.prog 22 #[.int .i64 a0, .string a1] w fun e w' => ∃ v, e = .returned (.tuple #[v, .bool true]) ∧ RowB 5 w' w.heap.size v (bcd (evened (bytesOf a1))) ∧ Below w.heap.size w w' := by
  have HF := Aside0.mk (impl_FieldOk_at a0 a1 (by omega) (a1.size + 1000) (by omega))
  have HK := Aside0.mk (impl_FieldKind_at a0 (a1.size + 1000) (by omega))
  have HD := Aside0.mk (impl_PutBcd_at a1 (by omega) (a1.size + 1000) (by omega))
  rw [h] at HF
  rw [hk] at HK
  rw [hd] at HD
  generalize bcd (evened (bytesOf a1)) = B at HD ⊢
  go_enter Tryd.func22, Tryd.ntmps22
  go_wp2_with (first | (go_at_call 34; (with_reducible refine (impl_FieldOk.calls _ a0 a1 true _ HF.out).mono ?_); rintro e w1 ⟨rfl, hb1⟩; have HB1 := Aside0.mk hb1; clear hb1) | ((with_reducible refine gate_dst (N := 15) rfl ?_); refine conv_event (src := 9) (dst := 22) (e := 5) (x := .tmp 14) (s := a1) rfl rfl rfl Tryd.underlying9 Tryd.underlying22 Tryd.underlying5 (by unfold maxLen; omega) ?_; intro g c w2 hg hr hb2; have HG2 := Aside0.mk (Nat.le_trans HB1.out.size (Nat.le_of_eq hg.symm)); have HR2 := Aside0.mk hr; have HB2 := Aside0.mk (below_step HB1.out hb2); clear hg hr hb2) | (go_at_call 55; (with_reducible refine (impl_FieldKind.calls _ a0 1 _ HK.out).mono ?_); rintro e w3 ⟨rfl, hb3⟩; have HB3 := Aside0.mk (below_step HB2.out hb3); clear hb3) | (go_at_call 10; (with_reducible refine (impl_PutBcd.calls _ a1 B true _ HD.out).mono ?_); rintro e w4 ⟨v4, rfl, hr4, hb4⟩; have HR4 := Aside0.mk (RowB_lower (RowB_of_R hr4) HB3.out.size); have HB4 := Aside0.mk (below_step HB3.out hb4); clear hr4 hb4))
  go_ret2
  exact ⟨_, rfl, HR4.out, HB4.out⟩
set_option maxHeartbeats 8000000 in
set_option maxRecDepth 100000 in
theorem iput_text (a0 : Int) (a1 : ByteArray) (w : World) (hs : a1.size ≤ 100) (h : fieldOk a0 (bytesOf a1) = true) (hk : kindOf a0 = 2) :
    Calls Tryd.prog 22 #[.int .i64 a0, .string a1] w fun e w' => ∃ v, e = .returned (.tuple #[v, .bool true]) ∧ RowB 5 w' w.heap.size v (bytesOf a1) ∧ Below w.heap.size w w' := by
  have HF := Aside0.mk (impl_FieldOk_at a0 a1 (by omega) (a1.size + 1000) (by omega))
  have HK := Aside0.mk (impl_FieldKind_at a0 (a1.size + 1000) (by omega))
  rw [h] at HF
  rw [hk] at HK
  have hlen := bytesOf_length a1
  go_enter Tryd.func22, Tryd.ntmps22
  go_wp2_with (first | (go_at_call 34; (with_reducible refine (impl_FieldOk.calls _ a0 a1 true _ HF.out).mono ?_); rintro e w1 ⟨rfl, hb1⟩; have HB1 := Aside0.mk hb1; clear hb1) | ((with_reducible refine gate_dst (N := 15) rfl ?_); refine conv_event (src := 9) (dst := 22) (e := 5) (x := .tmp 14) (s := a1) rfl rfl rfl Tryd.underlying9 Tryd.underlying22 Tryd.underlying5 (by unfold maxLen; omega) ?_; intro g c w2 hg hr hb2; have HG2 := Aside0.mk (Nat.le_trans HB1.out.size (Nat.le_of_eq hg.symm)); have HR2 := Aside0.mk hr; have HB2 := Aside0.mk (below_step HB1.out hb2); clear hg hr hb2) | (go_at_call 55; (with_reducible refine (impl_FieldKind.calls _ a0 2 _ HK.out).mono ?_); rintro e w3 ⟨rfl, hb3⟩; have HR3 := Aside0.mk (RB_below HR2.out hb3); have HB3 := Aside0.mk (below_step HB2.out hb3); clear hb3))
  go_ret2
  exact ⟨.slice (some ⟨g, 0, none⟩) a1.size c, by first | rfl | (simp; done), .inr ⟨g, c, by rw [hlen], HG2.out, HR3.out⟩, HB3.out⟩
set_option maxHeartbeats 8000000 in
set_option maxRecDepth 100000 in
theorem iput_numVar (a0 : Int) (a1 : ByteArray) (w : World) (hG : GLW w) (hs : a1.size ≤ 38) (h : fieldOk a0 (bytesOf a1) = true) (hk : kindOf a0 = 3) (hd : putBcd (bytesOf a1) = (bcd (evened (bytesOf a1)), true)) (H : List Int) (b : Bool) (hH : putLen (a1.size : Int) 2 = (H, b)) (hl : H.length ≤ 100) (hl2 : (bcd (evened (bytesOf a1))).length ≤ 100) :
    Calls Tryd.prog 22 #[.int .i64 a0, .string a1] w fun e w' => ∃ v, e = .returned (.tuple #[v, .bool true]) ∧ RowB 5 w' w.heap.size v (H ++ bcd (evened (bytesOf a1))) ∧ Below w.heap.size w w' := by
  have HF := Aside0.mk (impl_FieldOk_at a0 a1 (by omega) (a1.size + 1000) (by omega))
  have HK := Aside0.mk (impl_FieldKind_at a0 (a1.size + 1000) (by omega))
  have HD := Aside0.mk (impl_PutBcd_at a1 (by omega) (a1.size + 1000) (by omega))
  have HW := Aside0.mk (impl_lenDigits_at a0 (a1.size + 1000) (by omega))
  have HL := Aside0.mk (impl_PutLen_at (a1.size : Int) 2 (by omega) (by omega) (a1.size + 1000) (by omega))
  have hw2 : lenWidth a0 = 2 := by unfold lenWidth; rw [if_neg (by omega)]
  rw [hw2] at HW
  rw [hH] at HL
  rw [h] at HF
  rw [hk] at HK
  rw [hd] at HD
  have HG0 := Aside0.mk hG
  clear hG hH h hk hd hw2
  generalize bcd (evened (bytesOf a1)) = B at HD hl2 ⊢
  go_enter Tryd.func22, Tryd.ntmps22
  go_wp2_with (first | (go_at_call 34; (with_reducible refine (impl_FieldOk.calls _ a0 a1 true _ HF.out).mono ?_); rintro e w1 ⟨rfl, hb1⟩; have HB1 := Aside0.mk hb1; clear hb1) | ((with_reducible refine gate_dst (N := 15) rfl ?_); refine conv_event (src := 9) (dst := 22) (e := 5) (x := .tmp 14) (s := a1) rfl rfl rfl Tryd.underlying9 Tryd.underlying22 Tryd.underlying5 (by unfold maxLen; omega) ?_; intro g c w2 hg hr hb2; have HB2 := Aside0.mk (below_step HB1.out hb2); clear hg hr hb2) | (go_at_call 55; (with_reducible refine (impl_FieldKind.calls _ a0 3 _ HK.out).mono ?_); rintro e w3 ⟨rfl, hb3⟩; have HB3 := Aside0.mk (below_step HB2.out hb3); clear hb3) | (go_at_call 10; (with_reducible refine (impl_PutBcd.calls _ a1 B true _ HD.out).mono ?_); rintro e w4 ⟨v4, rfl, hr4, hb4⟩; obtain ⟨A4, c4, rfl, hle4, hc4⟩ := Kd.R_reads hr4; have HC4 := Aside0.mk hc4; have HB4 := Aside0.mk (below_step HB3.out hb4); clear hr4 hb4 hle4 hc4) | (go_at_call 56; (with_reducible refine (impl_lenDigits.calls _ a0 2 _ HW.out).mono ?_); rintro e w5 ⟨rfl, hb5⟩; have HC5 := Aside0.mk (Kd.C_below HC4.out hb5); have HB5 := Aside0.mk (below_step HB4.out hb5); clear hb5) | (go_at_call 13; (with_reducible refine (impl_PutLen.calls _ (a1.size : Int) 2 H b _ (GLW_below HG0.out HB5.out) HL.out).mono ?_); rintro e w6 ⟨v6, rfl, hr6, hb6⟩; have HC6 := Aside0.mk (Kd.C_below HC5.out hb6); have HR6 := Aside0.mk (Kd.R_lower hr6 HB5.out.size); have HB6 := Aside0.mk (below_step HB5.out hb6); clear hr6 hb6) | ((with_reducible refine gate_builtin (b := .append) (xs := #[.tmp 44, .tmp 45]) rfl ?_); at_builtin; refine Kd.R_append_row (w0 := w) (Value.int .u8) (0 : Int) (h1 := fun _ => rfl) w.heap.size rfl (.tmp 44) (.tmp 45) 22 5 (.int .u8 0) 1 rfl Tryd.underlying22 iput_info rfl (by decide) v6 H B A4 B.length c4 (fun _ => True) rfl rfl (fun _ _ => trivial) HR6.out HC6.out HB6.out HB6.out.size (by omega) ?_; intro v7 w7 hr7 hb7 hg7 hat7; have HR7 := Aside0.mk (RowB_of_R hr7); have HB7 := Aside0.mk hb7; clear hr7 hb7 hg7 hat7))
  go_ret2
  exact ⟨_, rfl, HR7.out, HB7.out⟩
set_option maxHeartbeats 8000000 in
set_option maxRecDepth 100000 in
theorem iput_textVar (a0 k0 W0 : Int) (a1 : ByteArray) (w : World) (hG : GLW w) (hs : a1.size ≤ 100) (h : fieldOk a0 (bytesOf a1) = true) (hk : kindOf a0 = k0) (hk2 : k0 = 4 ∨ k0 = 5) (hW : lenWidth a0 = W0) (H : List Int) (b : Bool) (hH : putLen (a1.size : Int) W0 = (H, b)) (hl : H.length ≤ 100) :
    Calls Tryd.prog 22 #[.int .i64 a0, .string a1] w fun e w' => ∃ v, e = .returned (.tuple #[v, .bool true]) ∧ RowB 5 w' w.heap.size v (H ++ bytesOf a1) ∧ Below w.heap.size w w' := by
  have HF := Aside0.mk (impl_FieldOk_at a0 a1 (by omega) (a1.size + 1000) (by omega))
  have HK := Aside0.mk (impl_FieldKind_at a0 (a1.size + 1000) (by omega))
  have HW := Aside0.mk (impl_lenDigits_at a0 (a1.size + 1000) (by omega))
  have HL := Aside0.mk (impl_PutLen_at (a1.size : Int) W0 (by omega) (by omega) (a1.size + 1000) (by omega))
  have hlen := bytesOf_length a1
  rw [hW] at HW
  rw [hH] at HL
  rw [h] at HF
  rw [hk] at HK
  have HG0 := Aside0.mk hG
  clear hG hH h hk hW
  generalize hB : bytesOf a1 = B at hlen ⊢
  rcases hk2 with rfl | rfl
  all_goals
    go_enter Tryd.func22, Tryd.ntmps22
    go_wp2_with (first | (go_at_call 34; (with_reducible refine (impl_FieldOk.calls _ a0 a1 true _ HF.out).mono ?_); rintro e w1 ⟨rfl, hb1⟩; have HB1 := Aside0.mk hb1; clear hb1) | ((with_reducible refine gate_dst (N := 15) rfl ?_); refine conv_event (src := 9) (dst := 22) (e := 5) (x := .tmp 14) (s := a1) rfl rfl rfl Tryd.underlying9 Tryd.underlying22 Tryd.underlying5 (by unfold maxLen; omega) ?_; intro g c w2 hg hr hb2; have HC2 := Aside0.mk (RB_C hr); have HB2 := Aside0.mk (below_step HB1.out hb2); clear hg hr hb2; rw [hB] at HC2) | (go_at_call 55; (with_reducible refine (impl_FieldKind.calls _ a0 _ _ HK.out).mono ?_); rintro e w3 ⟨rfl, hb3⟩; have HC3 := Aside0.mk (Kd.C_below HC2.out hb3); have HB3 := Aside0.mk (below_step HB2.out hb3); clear hb3) | (go_at_call 56; (with_reducible refine (impl_lenDigits.calls _ a0 W0 _ HW.out).mono ?_); rintro e w5 ⟨rfl, hb5⟩; have HC5 := Aside0.mk (Kd.C_below HC3.out hb5); have HB5 := Aside0.mk (below_step HB3.out hb5); clear hb5) | (go_at_call 13; (with_reducible refine (impl_PutLen.calls _ (a1.size : Int) W0 H b _ (GLW_below HG0.out HB5.out) HL.out).mono ?_); rintro e w6 ⟨v6, rfl, hr6, hb6⟩; have HC6 := Aside0.mk (Kd.C_below HC5.out hb6); have HR6 := Aside0.mk (Kd.R_lower hr6 HB5.out.size); have HB6 := Aside0.mk (below_step HB5.out hb6); clear hr6 hb6) | ((with_reducible refine gate_builtin (b := .append) (xs := #[.tmp 44, .tmp 45]) rfl ?_); at_builtin; refine Kd.R_append_row (w0 := w) (Value.int .u8) (0 : Int) (h1 := fun _ => rfl) w.heap.size rfl (.tmp 44) (.tmp 45) 22 5 (.int .u8 0) 1 rfl Tryd.underlying22 iput_info rfl (by decide) v6 H B _ _ _ (fun _ => True) rfl rfl (fun _ _ => trivial) HR6.out (by rw [← hlen]; exact HC6.out) HB6.out HB6.out.size (by omega) ?_; intro v7 w7 hr7 hb7 hg7 hat7; have HR7 := Aside0.mk (RowB_of_R hr7); have HB7 := Aside0.mk hb7; clear hr7 hb7 hg7 hat7))
    go_ret2
    exact ⟨_, rfl, HR7.out, HB7.out⟩
theorem impl_PutField.strong (a0 : Int) (a1 : ByteArray) (w : World) (hG : GLW w) (hs : a1.size ≤ 140737488351232) :
    Calls Tryd.prog 22 #[.int .i64 a0, .string a1] w fun e w' => ∃ v, e = .returned (.tuple #[v, .bool (putField a0 (bytesOf a1)).2]) ∧ RowB 5 w' w.heap.size v (putField a0 (bytesOf a1)).1 ∧ Below w.heap.size w w' := by
  cases h : fieldOk a0 (bytesOf a1) with
  | false =>
    have e : putField a0 (bytesOf a1) = ([], false) := by unfold putField; rw [h]; rfl
    rw [e]
    exact iput_no a0 a1 w hs h
  | true =>
    have hl := fieldOk_len a0 _ h
    rw [bytesOf_length] at hl
    have hz := sizeOf_range a0
    have kr := kind_range a0
    have e : putField a0 (bytesOf a1) = (pfHead a0 a1.size ++ pfBody a0 (bytesOf a1), true) := by unfold putField; rw [if_pos h, bytesOf_length]
    rw [e]
    have hp := putLen_short (a1.size : Int) (lenWidth a0)
    by_cases hd : inDigits a0 = true
    · obtain ⟨d1, d2, d3⟩ := fieldOk_digits a0 _ h hd
      have hbcd := putBcd_digits _ d1 d2 d3
      have hbl := bcd_length _ _ (evened_length (bytesOf a1))
      rw [bytesOf_length] at d3
      rw [bytesOf_length] at hbl
      have eb : pfBody a0 (bytesOf a1) = bcd (evened (bytesOf a1)) := by unfold pfBody; rw [if_pos hd]
      rw [eb]
      rcases of_decide_eq_true hd with k | k
      · have eh : pfHead a0 a1.size = [] := by unfold pfHead prefixed; rw [if_neg (by simp [k])]
        rw [eh, List.nil_append]
        exact iput_num a0 a1 w d3 h k hbcd
      · have ew : lenWidth a0 = 2 := by unfold lenWidth; rw [if_neg (by omega)]
        have eh : pfHead a0 a1.size = (putLen (a1.size : Int) 2).1 := by unfold pfHead prefixed; rw [if_pos (by simp [k]), ew]
        rw [eh]
        rw [ew] at hp
        exact iput_numVar a0 a1 w hG d3 h k hbcd _ _ rfl (by omega) (by omega)
    · have hd' := of_decide_eq_false (by simpa using hd : inDigits a0 = false)
      have eb : pfBody a0 (bytesOf a1) = bytesOf a1 := by unfold pfBody; rw [if_neg hd]
      rw [eb]
      by_cases k2 : kindOf a0 = 2
      · have eh : pfHead a0 a1.size = [] := by unfold pfHead prefixed; rw [if_neg (by simp [k2])]
        rw [eh, List.nil_append]
        exact iput_text a0 a1 w (by omega) h k2
      · have k0 : ¬ kindOf a0 = 0 := fieldOk_kind a0 _ h
        have eh : pfHead a0 a1.size = (putLen (a1.size : Int) (lenWidth a0)).1 := by unfold pfHead prefixed; rw [if_pos (by simp; omega)]
        rw [eh]
        exact iput_textVar a0 _ _ a1 w hG (by omega) h rfl (by omega) rfl _ _ rfl (by omega)
theorem impl_PutField.calls (a0 : Int) (a1 : ByteArray) (r1 : List Int) (r2 : Bool) (w : World) (hG : GLW w) (h : impl_PutField.f a0 a1 = some (r1, r2)) :
    Calls Tryd.prog 22 #[.int .i64 a0, .string a1] w fun e w' => ∃ v0_ : Value, e = .returned (.tuple #[v0_, .bool r2]) ∧ Kd.V (Kd.int .u8) 5 w' w.heap.size (fun k_ => w.heap.size ≤ k_) v0_ r1 ∧ Below w.heap.size w w' := by
  unfold impl_PutField.f at h
  by_cases hs : a1.size ≤ 140737488351232
  · rw [if_pos hs] at h
    have e := Option.some.inj h
    refine (impl_PutField.strong a0 a1 w hG hs).mono ?_
    rw [e]
    rintro e w' ⟨v, rfl, hr, hb⟩
    exact ⟨v, rfl, RowB_V hr, hb⟩
  · rw [if_neg hs] at h
    exact absurd h (by simp)
def spec_PutField.f (a0 : Int) (a1 : ByteArray) : Option (List Int × Bool) := if a1.size ≤ 140737488351232 then some (putField a0 (bytesOf a1)) else none
theorem sput_info : (Tryd.prog.info? 5).map (fun i => (i.zero, i.size, i.bytes)) = some (some (.int .u8 0), 1, 1) := by kernel_rfl
set_option maxHeartbeats 8000000 in
set_option maxRecDepth 100000 in
theorem sput_no (a0 : Int) (a1 : ByteArray) (w : World) (hs : a1.size ≤ 140737488351232) (h : fieldOk a0 (bytesOf a1) = false) :
    Calls Tryd.prog 21 #[.int .i64 a0, .string a1] w fun e w' => ∃ v, e = .returned (.tuple #[v, .bool false]) ∧ Kd.R (Kd.int .u8) 5 w' w.heap.size (fun _ => True) v [] ∧ Below w.heap.size w w' := by
  have HF := Aside0.mk (spec_FieldOk_at a0 a1 hs (a1.size + 1000) (by omega))
  rw [h] at HF
  have HB := Aside0.mk (Below.refl w.heap.size w)
  go_enter Tryd.func21, Tryd.ntmps21
  go_wp2_with (go_at_call 50; (with_reducible refine (spec_FieldOk.calls _ a0 a1 false _ HF.out).mono ?_); rintro e w1 ⟨rfl, hd_⟩; have hb := hd_.below; have n0_ := Aside0.mk (below_step HB.out hb); clear HB; have HB := n0_; clear n0_; clear hd_ hb)
  go_ret2
  exact ⟨_, rfl, Kd.R_nil _ _ _ _ _, HB.out⟩
set_option maxHeartbeats 8000000 in
set_option maxRecDepth 100000 in
theorem sput_num (a0 : Int) (a1 : ByteArray) (w : World) (hs : a1.size ≤ 38) (h : fieldOk a0 (bytesOf a1) = true) (hk : kindOf a0 = 1) (hd : putBcd (bytesOf a1) = (bcd (evened (bytesOf a1)), true)) (hl2 : (bcd (evened (bytesOf a1))).length ≤ 100) :
    Calls Tryd.prog 21 #[.int .i64 a0, .string a1] w fun e w' => ∃ v, e = .returned (.tuple #[v, .bool true]) ∧ Kd.R (Kd.int .u8) 5 w' w.heap.size (fun _ => True) v (bcd (evened (bytesOf a1))) ∧ Below w.heap.size w w' := by
  have HF := Aside0.mk (spec_FieldOk_at a0 a1 (by omega) (a1.size + 1000) (by omega))
  have HK := Aside0.mk (spec_FieldKind_at a0 (a1.size + 1000) (by omega))
  have HW := Aside0.mk (spec_l03Width_at 1 (a1.size + 1000) (by omega))
  rw [h] at HF
  rw [hk] at HK
  have hw_ : (if (1 : Int) = 3 ∨ (1 : Int) = 4 then (2 : Int) else if (1 : Int) = 5 then 3 else 0) = 0 := by decide
  rw [hw_] at HW
  have HD := Aside0.mk (spec_PutBcd_at a1 (by omega) (a1.size + 1000) (by omega))
  rw [hd] at HD
  clear hd
  generalize bcd (evened (bytesOf a1)) = B at HD hl2 ⊢
  clear h hk hw_
  have HB := Aside0.mk (Below.refl w.heap.size w)
  go_enter Tryd.func21, Tryd.ntmps21
  go_wp2_with (first | (go_at_call 50; (with_reducible refine (spec_FieldOk.calls _ a0 a1 true _ HF.out).mono ?_); rintro e w1 ⟨rfl, hd_⟩; have hb := hd_.below; have n0_ := Aside0.mk (below_step HB.out hb); clear HB; have HB := n0_; clear n0_; clear hd_ hb) | (go_at_call 51; (with_reducible refine (spec_FieldKind.calls _ a0 1 _ HK.out).mono ?_); rintro e w1 ⟨rfl, hd_⟩; have hb := hd_.below; have n0_ := Aside0.mk (below_step HB.out hb); clear HB; have HB := n0_; clear n0_; clear hd_ hb) | ((with_reducible refine gate_dst (N := 16) rfl ?_); refine Kd.R_lit (Kd.int .u8) _ 5 ?hg (N := 16) ?hd (xs := ([] : List Int)) (inner := []) (ok := fun _ => True) (okp := fun _ => True) ?hr ?hp (fun _ hk => hk) trivial (Below.refl _ _) (Nat.le_refl _) (by simp) ?_; (case hd => rfl); (case hg => rfl); (case hr => first | (go_simp; done) | (go_simp; rfl)); (case hp => exact (Reps.none _ _)); intro vb w2 hr_ hb hg_ hnew_; clear hg_ hnew_; have HR := Aside0.mk (Kd.R_lower hr_ HB.out.size); have n0_ := Aside0.mk (below_step HB.out hb); clear HB; have HB := n0_; clear n0_; clear hr_ hb) | (go_at_call 52; (with_reducible refine (spec_l03Width.calls _ 1 0 _ HW.out).mono ?_); rintro e w1 ⟨rfl, hd_⟩; have hb := hd_.below; have n0_ := Aside0.mk (Kd.R_below HR.out hb); have n1_ := Aside0.mk (below_step HB.out hb); clear HR; clear HB; have HR := n0_; have HB := n1_; clear n0_ n1_; clear hd_ hb) | (go_at_call 54; (with_reducible refine (spec_PutBcd.calls _ a1 B true _ HD.out).mono ?_); rintro e w1 ⟨vd, rfl, hr_, hb⟩; obtain ⟨Ad, cd, rfl, hle_, hc_⟩ := Kd.R_reads hr_; have HC := Aside0.mk hc_; have n0_ := Aside0.mk (Kd.R_below HR.out hb); have n1_ := Aside0.mk (below_step HB.out hb); clear HR; clear HB; have HR := n0_; have HB := n1_; clear n0_ n1_; clear hr_ hb hle_ hc_) | ((with_reducible refine gate_builtin (b := .append) (xs := #[.tmp 39, .tmp 40]) rfl ?_); at_builtin; refine Kd.R_append_row (w0 := w) (Value.int .u8) (0 : Int) (h1 := fun _ => rfl) w.heap.size rfl (.tmp 39) (.tmp 40) 22 5 (.int .u8 0) 1 rfl Tryd.underlying22 sput_info rfl (by decide) vb ([] : List Int) B _ _ _ (fun _ => True) rfl rfl (fun _ _ => trivial) HR.out HC.out HB.out HB.out.size (by first | omega | (simp; omega)) ?_; intro v7 w7 hr7 hb7 hg7 hat7; have HR7 := Aside0.mk hr7; have HB7 := Aside0.mk hb7; clear hr7 hb7 hg7 hat7))
  go_ret2
  exact ⟨_, rfl, by first | exact HR7.out | simpa using HR7.out, HB7.out⟩
set_option maxHeartbeats 8000000 in
set_option maxRecDepth 100000 in
theorem sput_text (a0 : Int) (a1 : ByteArray) (w : World) (hs : a1.size ≤ 100) (h : fieldOk a0 (bytesOf a1) = true) (hk : kindOf a0 = 2) :
    Calls Tryd.prog 21 #[.int .i64 a0, .string a1] w fun e w' => ∃ v, e = .returned (.tuple #[v, .bool true]) ∧ Kd.R (Kd.int .u8) 5 w' w.heap.size (fun _ => True) v (bytesOf a1) ∧ Below w.heap.size w w' := by
  have HF := Aside0.mk (spec_FieldOk_at a0 a1 (by omega) (a1.size + 1000) (by omega))
  have HK := Aside0.mk (spec_FieldKind_at a0 (a1.size + 1000) (by omega))
  have HW := Aside0.mk (spec_l03Width_at 2 (a1.size + 1000) (by omega))
  rw [h] at HF
  rw [hk] at HK
  have hw_ : (if (2 : Int) = 3 ∨ (2 : Int) = 4 then (2 : Int) else if (2 : Int) = 5 then 3 else 0) = 0 := by decide
  rw [hw_] at HW
  have hlen := bytesOf_length a1
  generalize hB : bytesOf a1 = B at hlen ⊢
  clear h hk hw_
  have HB := Aside0.mk (Below.refl w.heap.size w)
  go_enter Tryd.func21, Tryd.ntmps21
  go_wp2_with (first | (go_at_call 50; (with_reducible refine (spec_FieldOk.calls _ a0 a1 true _ HF.out).mono ?_); rintro e w1 ⟨rfl, hd_⟩; have hb := hd_.below; have n0_ := Aside0.mk (below_step HB.out hb); clear HB; have HB := n0_; clear n0_; clear hd_ hb) | (go_at_call 51; (with_reducible refine (spec_FieldKind.calls _ a0 2 _ HK.out).mono ?_); rintro e w1 ⟨rfl, hd_⟩; have hb := hd_.below; have n0_ := Aside0.mk (below_step HB.out hb); clear HB; have HB := n0_; clear n0_; clear hd_ hb) | ((with_reducible refine gate_dst (N := 16) rfl ?_); refine Kd.R_lit (Kd.int .u8) _ 5 ?hg (N := 16) ?hd (xs := ([] : List Int)) (inner := []) (ok := fun _ => True) (okp := fun _ => True) ?hr ?hp (fun _ hk => hk) trivial (Below.refl _ _) (Nat.le_refl _) (by simp) ?_; (case hd => rfl); (case hg => rfl); (case hr => first | (go_simp; done) | (go_simp; rfl)); (case hp => exact (Reps.none _ _)); intro vb w2 hr_ hb hg_ hnew_; clear hg_ hnew_; have HR := Aside0.mk (Kd.R_lower hr_ HB.out.size); have n0_ := Aside0.mk (below_step HB.out hb); clear HB; have HB := n0_; clear n0_; clear hr_ hb) | (go_at_call 52; (with_reducible refine (spec_l03Width.calls _ 2 0 _ HW.out).mono ?_); rintro e w1 ⟨rfl, hd_⟩; have hb := hd_.below; have n0_ := Aside0.mk (Kd.R_below HR.out hb); have n1_ := Aside0.mk (below_step HB.out hb); clear HR; clear HB; have HR := n0_; have HB := n1_; clear n0_ n1_; clear hd_ hb) | ((with_reducible refine gate_dst (N := 44) rfl ?_); refine conv_event (src := 9) (dst := 22) (e := 5) (x := .tmp 43) (s := a1) rfl rfl rfl Tryd.underlying9 Tryd.underlying22 Tryd.underlying5 (by unfold maxLen; omega) ?_; intro g c w2 hg hr_ hb; have HC := Aside0.mk (RB_C hr_); rw [hB] at HC; have n0_ := Aside0.mk (Kd.R_below HR.out hb); have n1_ := Aside0.mk (below_step HB.out hb); clear HR; clear HB; have HR := n0_; have HB := n1_; clear n0_ n1_; clear hg hr_ hb) | ((with_reducible refine gate_builtin (b := .append) (xs := #[.tmp 42, .tmp 44]) rfl ?_); at_builtin; refine Kd.R_append_row (w0 := w) (Value.int .u8) (0 : Int) (h1 := fun _ => rfl) w.heap.size rfl (.tmp 42) (.tmp 44) 22 5 (.int .u8 0) 1 rfl Tryd.underlying22 sput_info rfl (by decide) vb ([] : List Int) B _ _ _ (fun _ => True) rfl rfl (fun _ _ => trivial) HR.out (by rw [← hlen]; exact HC.out) HB.out HB.out.size (by first | omega | (simp; omega)) ?_; intro v7 w7 hr7 hb7 hg7 hat7; have HR7 := Aside0.mk hr7; have HB7 := Aside0.mk hb7; clear hr7 hb7 hg7 hat7))
  go_ret2
  exact ⟨_, rfl, by first | exact HR7.out | simpa using HR7.out, HB7.out⟩
set_option maxHeartbeats 8000000 in
set_option maxRecDepth 100000 in
theorem sput_numVar (a0 : Int) (a1 : ByteArray) (w : World) (hs : a1.size ≤ 38) (h : fieldOk a0 (bytesOf a1) = true) (hk : kindOf a0 = 3) (hd : putBcd (bytesOf a1) = (bcd (evened (bytesOf a1)), true)) (hl2 : (bcd (evened (bytesOf a1))).length ≤ 100) (H : List Int) (b : Bool) (hH : putLen (a1.size : Int) 2 = (H, b)) (hl : H.length ≤ 100) :
    Calls Tryd.prog 21 #[.int .i64 a0, .string a1] w fun e w' => ∃ v, e = .returned (.tuple #[v, .bool true]) ∧ Kd.R (Kd.int .u8) 5 w' w.heap.size (fun _ => True) v (H ++ bcd (evened (bytesOf a1))) ∧ Below w.heap.size w w' := by
  have HF := Aside0.mk (spec_FieldOk_at a0 a1 (by omega) (a1.size + 1000) (by omega))
  have HK := Aside0.mk (spec_FieldKind_at a0 (a1.size + 1000) (by omega))
  have HW := Aside0.mk (spec_l03Width_at 3 (a1.size + 1000) (by omega))
  rw [h] at HF
  rw [hk] at HK
  have hw_ : (if (3 : Int) = 3 ∨ (3 : Int) = 4 then (2 : Int) else if (3 : Int) = 5 then 3 else 0) = 2 := by decide
  rw [hw_] at HW
  have HD := Aside0.mk (spec_PutBcd_at a1 (by omega) (a1.size + 1000) (by omega))
  rw [hd] at HD
  clear hd
  generalize bcd (evened (bytesOf a1)) = B at HD hl2 ⊢
  have HL := Aside0.mk (spec_PutLen_at (a1.size : Int) 2 (by omega) (a1.size + 1000) (by omega))
  rw [hH] at HL
  clear hH
  clear h hk hw_
  have HB := Aside0.mk (Below.refl w.heap.size w)
  go_enter Tryd.func21, Tryd.ntmps21
  go_wp2_with (first | (go_at_call 50; (with_reducible refine (spec_FieldOk.calls _ a0 a1 true _ HF.out).mono ?_); rintro e w1 ⟨rfl, hd_⟩; have hb := hd_.below; have n0_ := Aside0.mk (below_step HB.out hb); clear HB; have HB := n0_; clear n0_; clear hd_ hb) | (go_at_call 51; (with_reducible refine (spec_FieldKind.calls _ a0 3 _ HK.out).mono ?_); rintro e w1 ⟨rfl, hd_⟩; have hb := hd_.below; have n0_ := Aside0.mk (below_step HB.out hb); clear HB; have HB := n0_; clear n0_; clear hd_ hb) | ((with_reducible refine gate_dst (N := 16) rfl ?_); refine Kd.R_lit (Kd.int .u8) _ 5 ?hg (N := 16) ?hd (xs := ([] : List Int)) (inner := []) (ok := fun _ => True) (okp := fun _ => True) ?hr ?hp (fun _ hk => hk) trivial (Below.refl _ _) (Nat.le_refl _) (by simp) ?_; (case hd => rfl); (case hg => rfl); (case hr => first | (go_simp; done) | (go_simp; rfl)); (case hp => exact (Reps.none _ _)); intro vb w2 hr_ hb hg_ hnew_; clear hg_ hnew_; have HR := Aside0.mk (Kd.R_lower hr_ HB.out.size); have n0_ := Aside0.mk (below_step HB.out hb); clear HB; have HB := n0_; clear n0_; clear hr_ hb) | (go_at_call 52; (with_reducible refine (spec_l03Width.calls _ 3 2 _ HW.out).mono ?_); rintro e w1 ⟨rfl, hd_⟩; have hb := hd_.below; have n0_ := Aside0.mk (Kd.R_below HR.out hb); have n1_ := Aside0.mk (below_step HB.out hb); clear HR; clear HB; have HR := n0_; have HB := n1_; clear n0_ n1_; clear hd_ hb) | (go_at_call 53; (with_reducible refine (spec_PutLen.calls _ (a1.size : Int) 2 H b _ HL.out).mono ?_); rintro e w1 ⟨vb, rfl, hr_, hb⟩; clear HR; have HR := Aside0.mk (Kd.R_lower hr_ HB.out.size); have n0_ := Aside0.mk (below_step HB.out hb); clear HB; have HB := n0_; clear n0_; clear hr_ hb) | (go_at_call 54; (with_reducible refine (spec_PutBcd.calls _ a1 B true _ HD.out).mono ?_); rintro e w1 ⟨vd, rfl, hr_, hb⟩; obtain ⟨Ad, cd, rfl, hle_, hc_⟩ := Kd.R_reads hr_; have HC := Aside0.mk hc_; have n0_ := Aside0.mk (Kd.R_below HR.out hb); have n1_ := Aside0.mk (below_step HB.out hb); clear HR; clear HB; have HR := n0_; have HB := n1_; clear n0_ n1_; clear hr_ hb hle_ hc_) | ((with_reducible refine gate_builtin (b := .append) (xs := #[.tmp 39, .tmp 40]) rfl ?_); at_builtin; refine Kd.R_append_row (w0 := w) (Value.int .u8) (0 : Int) (h1 := fun _ => rfl) w.heap.size rfl (.tmp 39) (.tmp 40) 22 5 (.int .u8 0) 1 rfl Tryd.underlying22 sput_info rfl (by decide) vb H B _ _ _ (fun _ => True) rfl rfl (fun _ _ => trivial) HR.out HC.out HB.out HB.out.size (by first | omega | (simp; omega)) ?_; intro v7 w7 hr7 hb7 hg7 hat7; have HR7 := Aside0.mk hr7; have HB7 := Aside0.mk hb7; clear hr7 hb7 hg7 hat7))
  go_ret2
  exact ⟨_, rfl, HR7.out, HB7.out⟩
set_option maxHeartbeats 8000000 in
set_option maxRecDepth 100000 in
theorem sput_textVar (a0 : Int) (a1 : ByteArray) (w : World) (hs : a1.size ≤ 100) (h : fieldOk a0 (bytesOf a1) = true) (hk : kindOf a0 = 4) (H : List Int) (b : Bool) (hH : putLen (a1.size : Int) 2 = (H, b)) (hl : H.length ≤ 100) :
    Calls Tryd.prog 21 #[.int .i64 a0, .string a1] w fun e w' => ∃ v, e = .returned (.tuple #[v, .bool true]) ∧ Kd.R (Kd.int .u8) 5 w' w.heap.size (fun _ => True) v (H ++ bytesOf a1) ∧ Below w.heap.size w w' := by
  have HF := Aside0.mk (spec_FieldOk_at a0 a1 (by omega) (a1.size + 1000) (by omega))
  have HK := Aside0.mk (spec_FieldKind_at a0 (a1.size + 1000) (by omega))
  have HW := Aside0.mk (spec_l03Width_at 4 (a1.size + 1000) (by omega))
  rw [h] at HF
  rw [hk] at HK
  have hw_ : (if (4 : Int) = 3 ∨ (4 : Int) = 4 then (2 : Int) else if (4 : Int) = 5 then 3 else 0) = 2 := by decide
  rw [hw_] at HW
  have hlen := bytesOf_length a1
  generalize hB : bytesOf a1 = B at hlen ⊢
  have HL := Aside0.mk (spec_PutLen_at (a1.size : Int) 2 (by omega) (a1.size + 1000) (by omega))
  rw [hH] at HL
  clear hH
  clear h hk hw_
  have HB := Aside0.mk (Below.refl w.heap.size w)
  go_enter Tryd.func21, Tryd.ntmps21
  go_wp2_with (first | (go_at_call 50; (with_reducible refine (spec_FieldOk.calls _ a0 a1 true _ HF.out).mono ?_); rintro e w1 ⟨rfl, hd_⟩; have hb := hd_.below; have n0_ := Aside0.mk (below_step HB.out hb); clear HB; have HB := n0_; clear n0_; clear hd_ hb) | (go_at_call 51; (with_reducible refine (spec_FieldKind.calls _ a0 4 _ HK.out).mono ?_); rintro e w1 ⟨rfl, hd_⟩; have hb := hd_.below; have n0_ := Aside0.mk (below_step HB.out hb); clear HB; have HB := n0_; clear n0_; clear hd_ hb) | ((with_reducible refine gate_dst (N := 16) rfl ?_); refine Kd.R_lit (Kd.int .u8) _ 5 ?hg (N := 16) ?hd (xs := ([] : List Int)) (inner := []) (ok := fun _ => True) (okp := fun _ => True) ?hr ?hp (fun _ hk => hk) trivial (Below.refl _ _) (Nat.le_refl _) (by simp) ?_; (case hd => rfl); (case hg => rfl); (case hr => first | (go_simp; done) | (go_simp; rfl)); (case hp => exact (Reps.none _ _)); intro vb w2 hr_ hb hg_ hnew_; clear hg_ hnew_; have HR := Aside0.mk (Kd.R_lower hr_ HB.out.size); have n0_ := Aside0.mk (below_step HB.out hb); clear HB; have HB := n0_; clear n0_; clear hr_ hb) | (go_at_call 52; (with_reducible refine (spec_l03Width.calls _ 4 2 _ HW.out).mono ?_); rintro e w1 ⟨rfl, hd_⟩; have hb := hd_.below; have n0_ := Aside0.mk (Kd.R_below HR.out hb); have n1_ := Aside0.mk (below_step HB.out hb); clear HR; clear HB; have HR := n0_; have HB := n1_; clear n0_ n1_; clear hd_ hb) | (go_at_call 53; (with_reducible refine (spec_PutLen.calls _ (a1.size : Int) 2 H b _ HL.out).mono ?_); rintro e w1 ⟨vb, rfl, hr_, hb⟩; clear HR; have HR := Aside0.mk (Kd.R_lower hr_ HB.out.size); have n0_ := Aside0.mk (below_step HB.out hb); clear HB; have HB := n0_; clear n0_; clear hr_ hb) | ((with_reducible refine gate_dst (N := 44) rfl ?_); refine conv_event (src := 9) (dst := 22) (e := 5) (x := .tmp 43) (s := a1) rfl rfl rfl Tryd.underlying9 Tryd.underlying22 Tryd.underlying5 (by unfold maxLen; omega) ?_; intro g c w2 hg hr_ hb; have HC := Aside0.mk (RB_C hr_); rw [hB] at HC; have n0_ := Aside0.mk (Kd.R_below HR.out hb); have n1_ := Aside0.mk (below_step HB.out hb); clear HR; clear HB; have HR := n0_; have HB := n1_; clear n0_ n1_; clear hg hr_ hb) | ((with_reducible refine gate_builtin (b := .append) (xs := #[.tmp 42, .tmp 44]) rfl ?_); at_builtin; refine Kd.R_append_row (w0 := w) (Value.int .u8) (0 : Int) (h1 := fun _ => rfl) w.heap.size rfl (.tmp 42) (.tmp 44) 22 5 (.int .u8 0) 1 rfl Tryd.underlying22 sput_info rfl (by decide) vb H B _ _ _ (fun _ => True) rfl rfl (fun _ _ => trivial) HR.out (by rw [← hlen]; exact HC.out) HB.out HB.out.size (by first | omega | (simp; omega)) ?_; intro v7 w7 hr7 hb7 hg7 hat7; have HR7 := Aside0.mk hr7; have HB7 := Aside0.mk hb7; clear hr7 hb7 hg7 hat7))
  go_ret2
  exact ⟨_, rfl, HR7.out, HB7.out⟩
set_option maxHeartbeats 8000000 in
set_option maxRecDepth 100000 in
theorem sput_textLong (a0 : Int) (a1 : ByteArray) (w : World) (hs : a1.size ≤ 100) (h : fieldOk a0 (bytesOf a1) = true) (hk : kindOf a0 = 5) (H : List Int) (b : Bool) (hH : putLen (a1.size : Int) 3 = (H, b)) (hl : H.length ≤ 100) :
    Calls Tryd.prog 21 #[.int .i64 a0, .string a1] w fun e w' => ∃ v, e = .returned (.tuple #[v, .bool true]) ∧ Kd.R (Kd.int .u8) 5 w' w.heap.size (fun _ => True) v (H ++ bytesOf a1) ∧ Below w.heap.size w w' := by
  have HF := Aside0.mk (spec_FieldOk_at a0 a1 (by omega) (a1.size + 1000) (by omega))
  have HK := Aside0.mk (spec_FieldKind_at a0 (a1.size + 1000) (by omega))
  have HW := Aside0.mk (spec_l03Width_at 5 (a1.size + 1000) (by omega))
  rw [h] at HF
  rw [hk] at HK
  have hw_ : (if (5 : Int) = 3 ∨ (5 : Int) = 4 then (2 : Int) else if (5 : Int) = 5 then 3 else 0) = 3 := by decide
  rw [hw_] at HW
  have hlen := bytesOf_length a1
  generalize hB : bytesOf a1 = B at hlen ⊢
  have HL := Aside0.mk (spec_PutLen_at (a1.size : Int) 3 (by omega) (a1.size + 1000) (by omega))
  rw [hH] at HL
  clear hH
  clear h hk hw_
  have HB := Aside0.mk (Below.refl w.heap.size w)
  go_enter Tryd.func21, Tryd.ntmps21
  go_wp2_with (first | (go_at_call 50; (with_reducible refine (spec_FieldOk.calls _ a0 a1 true _ HF.out).mono ?_); rintro e w1 ⟨rfl, hd_⟩; have hb := hd_.below; have n0_ := Aside0.mk (below_step HB.out hb); clear HB; have HB := n0_; clear n0_; clear hd_ hb) | (go_at_call 51; (with_reducible refine (spec_FieldKind.calls _ a0 5 _ HK.out).mono ?_); rintro e w1 ⟨rfl, hd_⟩; have hb := hd_.below; have n0_ := Aside0.mk (below_step HB.out hb); clear HB; have HB := n0_; clear n0_; clear hd_ hb) | ((with_reducible refine gate_dst (N := 16) rfl ?_); refine Kd.R_lit (Kd.int .u8) _ 5 ?hg (N := 16) ?hd (xs := ([] : List Int)) (inner := []) (ok := fun _ => True) (okp := fun _ => True) ?hr ?hp (fun _ hk => hk) trivial (Below.refl _ _) (Nat.le_refl _) (by simp) ?_; (case hd => rfl); (case hg => rfl); (case hr => first | (go_simp; done) | (go_simp; rfl)); (case hp => exact (Reps.none _ _)); intro vb w2 hr_ hb hg_ hnew_; clear hg_ hnew_; have HR := Aside0.mk (Kd.R_lower hr_ HB.out.size); have n0_ := Aside0.mk (below_step HB.out hb); clear HB; have HB := n0_; clear n0_; clear hr_ hb) | (go_at_call 52; (with_reducible refine (spec_l03Width.calls _ 5 3 _ HW.out).mono ?_); rintro e w1 ⟨rfl, hd_⟩; have hb := hd_.below; have n0_ := Aside0.mk (Kd.R_below HR.out hb); have n1_ := Aside0.mk (below_step HB.out hb); clear HR; clear HB; have HR := n0_; have HB := n1_; clear n0_ n1_; clear hd_ hb) | (go_at_call 53; (with_reducible refine (spec_PutLen.calls _ (a1.size : Int) 3 H b _ HL.out).mono ?_); rintro e w1 ⟨vb, rfl, hr_, hb⟩; clear HR; have HR := Aside0.mk (Kd.R_lower hr_ HB.out.size); have n0_ := Aside0.mk (below_step HB.out hb); clear HB; have HB := n0_; clear n0_; clear hr_ hb) | ((with_reducible refine gate_dst (N := 44) rfl ?_); refine conv_event (src := 9) (dst := 22) (e := 5) (x := .tmp 43) (s := a1) rfl rfl rfl Tryd.underlying9 Tryd.underlying22 Tryd.underlying5 (by unfold maxLen; omega) ?_; intro g c w2 hg hr_ hb; have HC := Aside0.mk (RB_C hr_); rw [hB] at HC; have n0_ := Aside0.mk (Kd.R_below HR.out hb); have n1_ := Aside0.mk (below_step HB.out hb); clear HR; clear HB; have HR := n0_; have HB := n1_; clear n0_ n1_; clear hg hr_ hb) | ((with_reducible refine gate_builtin (b := .append) (xs := #[.tmp 42, .tmp 44]) rfl ?_); at_builtin; refine Kd.R_append_row (w0 := w) (Value.int .u8) (0 : Int) (h1 := fun _ => rfl) w.heap.size rfl (.tmp 42) (.tmp 44) 22 5 (.int .u8 0) 1 rfl Tryd.underlying22 sput_info rfl (by decide) vb H B _ _ _ (fun _ => True) rfl rfl (fun _ _ => trivial) HR.out (by rw [← hlen]; exact HC.out) HB.out HB.out.size (by first | omega | (simp; omega)) ?_; intro v7 w7 hr7 hb7 hg7 hat7; have HR7 := Aside0.mk hr7; have HB7 := Aside0.mk hb7; clear hr7 hb7 hg7 hat7))
  go_ret2
  exact ⟨_, rfl, HR7.out, HB7.out⟩
theorem spec_PutField.calls (a0 : Int) (a1 : ByteArray) (r1 : List Int) (r2 : Bool) (w : World) (h : spec_PutField.f a0 a1 = some (r1, r2)) :
    Calls Tryd.prog 21 #[.int .i64 a0, .string a1] w fun e w' => ∃ v0_ : Value, e = .returned (.tuple #[v0_, .bool r2]) ∧ Kd.R (Kd.int .u8) 5 w' w.heap.size (fun _ => True) v0_ r1 ∧ Below w.heap.size w w' := by
  unfold spec_PutField.f at h
  by_cases hs : a1.size ≤ 140737488351232
  · rw [if_pos hs] at h
    have e0 := Option.some.inj h
    cases hf : fieldOk a0 (bytesOf a1) with
    | false =>
      have e : putField a0 (bytesOf a1) = ([], false) := by unfold putField; rw [hf]; rfl
      rw [e] at e0
      simp only [Prod.mk.injEq] at e0
      obtain ⟨rfl, rfl⟩ := e0
      exact sput_no a0 a1 w hs hf
    | true =>
      have hl := fieldOk_len a0 _ hf
      rw [bytesOf_length] at hl
      have hz := sizeOf_range a0
      have kr := kind_range a0
      have e : putField a0 (bytesOf a1) = (pfHead a0 a1.size ++ pfBody a0 (bytesOf a1), true) := by unfold putField; rw [if_pos hf, bytesOf_length]
      rw [e] at e0
      simp only [Prod.mk.injEq] at e0
      obtain ⟨rfl, rfl⟩ := e0
      have hp := putLen_short (a1.size : Int) (lenWidth a0)
      by_cases hd : inDigits a0 = true
      · obtain ⟨d1, d2, d3⟩ := fieldOk_digits a0 _ hf hd
        have hbcd := putBcd_digits _ d1 d2 d3
        have hbl := bcd_length _ _ (evened_length (bytesOf a1))
        rw [bytesOf_length] at d3
        rw [bytesOf_length] at hbl
        have eb : pfBody a0 (bytesOf a1) = bcd (evened (bytesOf a1)) := by unfold pfBody; rw [if_pos hd]
        rw [eb]
        rcases of_decide_eq_true hd with k | k
        · have eh : pfHead a0 a1.size = [] := by unfold pfHead prefixed; rw [if_neg (by simp [k])]
          rw [eh, List.nil_append]
          exact sput_num a0 a1 w d3 hf k hbcd (by omega)
        · have ew : lenWidth a0 = 2 := by unfold lenWidth; rw [if_neg (by omega)]
          have eh : pfHead a0 a1.size = (putLen (a1.size : Int) 2).1 := by unfold pfHead prefixed; rw [if_pos (by simp [k]), ew]
          rw [eh]
          rw [ew] at hp
          exact sput_numVar a0 a1 w d3 hf k hbcd (by omega) _ _ rfl (by omega)
      · have hd' := of_decide_eq_false (by simpa using hd : inDigits a0 = false)
        have eb : pfBody a0 (bytesOf a1) = bytesOf a1 := by unfold pfBody; rw [if_neg hd]
        rw [eb]
        by_cases k2 : kindOf a0 = 2
        · have eh : pfHead a0 a1.size = [] := by unfold pfHead prefixed; rw [if_neg (by simp [k2])]
          rw [eh, List.nil_append]
          exact sput_text a0 a1 w (by omega) hf k2
        · have k0 : ¬ kindOf a0 = 0 := fieldOk_kind a0 _ hf
          have eh : pfHead a0 a1.size = (putLen (a1.size : Int) (lenWidth a0)).1 := by unfold pfHead prefixed; rw [if_pos (by simp; omega)]
          rw [eh]
          by_cases k5 : kindOf a0 = 5
          · have ew : lenWidth a0 = 3 := by unfold lenWidth; rw [if_pos k5]
            rw [ew] at hp ⊢
            exact sput_textLong a0 a1 w (by omega) hf k5 _ _ rfl (by omega)
          · have ew : lenWidth a0 = 2 := by unfold lenWidth; rw [if_neg k5]
            rw [ew] at hp ⊢
            exact sput_textVar a0 a1 w (by omega) hf (by omega) _ _ rfl (by omega)
  · rw [if_neg hs] at h
    exact absurd h (by simp)
end Go.Proofs.YtfiieppnpmodoaaDoor.Q
end
section
namespace Go.Proofs.YtfiieppnpmodoaaDoor.Q
open Go.RowKit Go.Proofs.YtfiieppnpmodoaaDoorW.PrintWords Go.Proofs.YtfiieppnpmodoaaDoorW.PrintLast Go.Proofs.YtfiieppnpmodoaaDoorW.PrintMore
attribute [local go_sem] max2_int min2_int max_two min_two max_three min_three max_four min_four
set_option linter.unusedVariables false
set_option linter.unusedSimpArgs false
def laws_eqByteS.l0 : Nat → List Int → List Int → Int → Option (Bool)
 | 0, _, _, _ => none
 | k + 1, x0, x1, x5 => if x5 < (x0.length : Int) then (if 0 ≤ x5 then (if x5 < (x1.length : Int) then (if (rd x0 x5) = (rd x1 x5) then (laws_eqByteS.l0 k x0 x1 (wrap64 (x5 + 1))) else (some false)) else (none)) else (none)) else (some true)
def laws_eqByteS.f (k : Nat) (l0 : List Int) (l1 : List Int) : Option (Bool) := if (l0.length : Int) = (l1.length : Int) then (laws_eqByteS.l0 k l0 l1 0) else (some false)
set_option maxHeartbeats 8000000 in
set_option maxRecDepth 100000 in
theorem laws_eqByteS.calls (k : Nat) (A0 : Option Addr) (c0 : Nat) (l0 : List Int) (A1 : Option Addr) (c1 : Nat) (l1 : List Int) (r : Bool) (w : World) (hr0 : Kd.C (Kd.int .u8) w A0 l0.length l0) (hc0 : l0.length ≤ c0) (hr1 : Kd.C (Kd.int .u8) w A1 l1.length l1) (hc1 : l1.length ≤ c1) (h : laws_eqByteS.f k l0 l1 = some r) :
  Calls Tryd.prog 23 #[.slice A0 l0.length c0, .slice A1 l1.length c1] w fun e w' => e = .returned (.bool r) ∧ Drawn0 w w' := by
 have HR0 := Aside0.mk hr0
 have HC0 := Aside0.mk hc0
 clear hr0 hc0
 have HR1 := Aside0.mk hr1
 have HC1 := Aside0.mk hc1
 clear hr1 hc1
 have H : (if (l0.length : Int) = (l1.length : Int) then (laws_eqByteS.l0 k l0 l1 0) else (some false)) = some r := h
 clear h
 by_cases c3 : (l0.length : Int) = (l1.length : Int)
 ·rw [if_pos c3] at H
  have c3b0 : ((l0.length : Int) == (l1.length : Int)) = true := beq_iff_eq.mpr c3
  have c3b1 : ((l0.length : Int) != (l1.length : Int)) = false := bne_eq_false_iff_eq.mpr c3
  have c3b2 : (l0.length == l1.length) = true := by first | simpa using c3 | (simp at c3 ⊢; omega)
  clear c3
  have H' := Aside0.mk H
  clear H
  go_enter Tryd.func23, Tryd.ntmps23
  go_wp2
  repeat (go_quiet (fail); try go_wp2)
  go_loopg [5] k (fun kq v5 w' => ∃ (x5_1 : Int), v5 = .int .i64 x5_1 ∧ Aside0 (laws_eqByteS.l0 kq l0 l1 x5_1 = some r) ∧ Aside0 (kq ≤ k) ∧ Drawn0 w w')
  case atStart => exact ⟨(0), (by first | rfl | (simp; done) | (simp [*]; done) | (simp [i64_w, IntKind.wrap_u8, e256_]; done) | (simp; generalize ByteArray.toList _ = zz_; cases zz_ <;> rfl)), H', ⟨Nat.le_refl _⟩, by repeat (first | exact Drawn0.refl _ | apply Drawn0.step)⟩
  case round =>
   clear H'
   try clear c1
   try clear c2
   try clear p2
   try clear c3
   try clear c3b0
   try clear c3b1
   try clear c3b2
   obtain ⟨x5_1, rfl, HA, HK1, ⟨m1, rfl⟩⟩ := hrel
   cases gk with
   | zero => exact absurd HA.out (by simp [laws_eqByteS.l0])
   | succ k1 =>
    have H := HA.out
    clear HA
    simp only [laws_eqByteS.l0] at H
    by_cases c4 : x5_1 < (l0.length : Int)
    ·rw [if_pos c4] at H
     have c4b0 : decide (x5_1 < (l0.length : Int)) = true := decide_eq_true c4
     clear c4
     by_cases c5 : 0 ≤ x5_1
     ·rw [if_pos c5] at H
      have c5b0 : decide (0 ≤ x5_1) = true := decide_eq_true c5
      clear c5
      by_cases c6 : x5_1 < (l1.length : Int)
      ·rw [if_pos c6] at H
       have c6b0 : decide (x5_1 < (l1.length : Int)) = true := decide_eq_true c6
       clear c6
       by_cases c7 : (rd l0 x5_1) = (rd l1 x5_1)
       ·rw [if_pos c7] at H
        have c7b0 : ((rd l0 x5_1) == (rd l1 x5_1)) = true := beq_iff_eq.mpr c7
        have c7b1 : ((rd l0 x5_1) != (rd l1 x5_1)) = false := bne_eq_false_iff_eq.mpr c7
        clear c7
        have H' := Aside0.mk H
        clear H
        have p318 : 0 ≤ (x5_1 : Int) := of_decide_eq_true (by first | (with_reducible assumption) | assumption)
        have q318 : x5_1 < (l0.length : Int) := of_decide_eq_true (by first | (with_reducible assumption) | assumption)
        obtain ⟨ad318, e318, hx318_0⟩ := Kd.at_int HR0.out x5_1 p318 q318
        cases e318
        replace p318 := eq_true p318
        replace q318 := eq_true q318
        have p319 : 0 ≤ (x5_1 : Int) := of_decide_eq_true (by first | (with_reducible assumption) | assumption)
        have q319 : x5_1 < (l1.length : Int) := of_decide_eq_true (by first | (with_reducible assumption) | assumption)
        obtain ⟨ad319, e319, hx319_0⟩ := Kd.at_int HR1.out x5_1 p319 q319
        cases e319
        replace p319 := eq_true p319
        replace q319 := eq_true q319
        go_wp2
        repeat (go_quiet (fail); try go_wp2)
        go_roundg k1
        case measure => have := HK1.out; omega
        case rel => exact ⟨(wrap64 (x5_1 + 1)), (by first | rfl | (simp; done) | (simp [*]; done) | (simp [i64_w, IntKind.wrap_u8, e256_]; done) | (simp; generalize ByteArray.toList _ = zz_; cases zz_ <;> rfl)), H', ⟨by have := HK1.out; omega⟩, by repeat (first | exact Drawn0.refl _ | apply Drawn0.step)⟩
       ·rw [if_neg c7] at H
        have c7b0 : ((rd l0 x5_1) == (rd l1 x5_1)) = false := beq_eq_false_iff_ne.mpr c7
        have c7b1 : ((rd l0 x5_1) != (rd l1 x5_1)) = true := bne_iff_ne.mpr c7
        obtain rfl := Option.some.inj H
        have p318 : 0 ≤ (x5_1 : Int) := of_decide_eq_true (by first | (with_reducible assumption) | assumption)
        have q318 : x5_1 < (l0.length : Int) := of_decide_eq_true (by first | (with_reducible assumption) | assumption)
        obtain ⟨ad318, e318, hx318_0⟩ := Kd.at_int HR0.out x5_1 p318 q318
        cases e318
        replace p318 := eq_true p318
        replace q318 := eq_true q318
        have p319 : 0 ≤ (x5_1 : Int) := of_decide_eq_true (by first | (with_reducible assumption) | assumption)
        have q319 : x5_1 < (l1.length : Int) := of_decide_eq_true (by first | (with_reducible assumption) | assumption)
        obtain ⟨ad319, e319, hx319_0⟩ := Kd.at_int HR1.out x5_1 p319 q319
        cases e319
        replace p319 := eq_true p319
        replace q319 := eq_true q319
        go_wp2
        repeat (go_quiet (fail); try go_wp2)
        go_ret
        exact ⟨by first | rfl | (simp; done) | (simp [*]; done) | (simp [i64_w, IntKind.wrap_u8, e256_]; done) | (simp; generalize ByteArray.toList _ = zz_; cases zz_ <;> rfl), by repeat (first | exact Drawn0.refl _ | apply Drawn0.step)⟩
      ·rw [if_neg c6] at H
       exact absurd H (by simp)
     ·rw [if_neg c5] at H
      exact absurd H (by simp)
    ·rw [if_neg c4] at H
     have c4b0 : decide (x5_1 < (l0.length : Int)) = false := decide_eq_false c4
     clear c4
     obtain rfl := Option.some.inj H
     go_wp2
     repeat (go_quiet (fail); try go_wp2)
     go_ret
     exact ⟨by first | rfl | (simp; done) | (simp [*]; done) | (simp [i64_w, IntKind.wrap_u8, e256_]; done) | (simp; generalize ByteArray.toList _ = zz_; cases zz_ <;> rfl), by repeat (first | exact Drawn0.refl _ | apply Drawn0.step)⟩
 ·rw [if_neg c3] at H
  have c3b0 : ((l0.length : Int) == (l1.length : Int)) = false := beq_eq_false_iff_ne.mpr c3
  have c3b1 : ((l0.length : Int) != (l1.length : Int)) = true := bne_iff_ne.mpr c3
  have c3b2 : (l0.length == l1.length) = false := by first | simpa using c3 | (simp at c3 ⊢; omega)
  obtain rfl := Option.some.inj H
  go_enter Tryd.func23, Tryd.ntmps23
  go_wp2
  repeat (go_quiet (fail); try go_wp2)
  go_ret
  exact ⟨by first | rfl | (simp; done) | (simp [*]; done) | (simp [i64_w, IntKind.wrap_u8, e256_]; done) | (simp; generalize ByteArray.toList _ = zz_; cases zz_ <;> rfl), by repeat (first | exact Drawn0.refl _ | apply Drawn0.step)⟩
end Go.Proofs.YtfiieppnpmodoaaDoor.Q
end
section
namespace Go.Proofs.YtfiieppnpmodoaaDoor.Q
open Go.RowKit Go.Proofs.YtfiieppnpmodoaaDoorW.PrintWords Go.Proofs.YtfiieppnpmodoaaDoorW.PrintLast Go.Proofs.YtfiieppnpmodoaaDoorW.PrintMore
set_option linter.unusedVariables false
set_option linter.unusedSimpArgs false
theorem eqByteS_l (l : List Int) (hl : l.length ≤ 1000000000) : ∀ (d n k : Nat), n + d = l.length → d < k → laws_eqByteS.l0 k l l (n : Int) = some true := by
  intro d
  induction d with
  | zero =>
    intro n k hd hk
    obtain ⟨k, rfl⟩ : ∃ m, k = m + 1 := ⟨k - 1, by omega⟩
    have c1 : ¬ (n : Int) < (l.length : Int) := by omega
    simp only [laws_eqByteS.l0, if_neg c1]
  | succ d ih =>
    intro n k hd hk
    obtain ⟨k, rfl⟩ : ∃ m, k = m + 1 := ⟨k - 1, by omega⟩
    have c1 : (n : Int) < (l.length : Int) := by omega
    have c2 : 0 ≤ (n : Int) := by omega
    simp only [laws_eqByteS.l0, if_pos c1, if_pos c2, if_true, w64 c2 (by omega)]
    exact ih (n + 1) k (by omega) (by omega)
theorem eqByteS_self (l : List Int) (hl : l.length ≤ 1000000000) (k : Nat) (hk : l.length < k) : laws_eqByteS.f k l l = some true := by
  unfold laws_eqByteS.f
  rw [if_pos rfl]
  exact eqByteS_l l hl l.length 0 k (by omega) hk
end Go.Proofs.YtfiieppnpmodoaaDoor.Q
end
section
namespace Go.Proofs.YtfiieppnpmodoaaDoor.Q
open Go.RowKit Go.Proofs.YtfiieppnpmodoaaDoorW.PrintWords Go.Proofs.YtfiieppnpmodoaaDoorW.PrintLast Go.Proofs.YtfiieppnpmodoaaDoorW.PrintMore
attribute [local go_sem] max2_int min2_int max_two min_two max_three min_three max_four min_four
set_option linter.unusedVariables false
set_option linter.unusedSimpArgs false
def laws_heldByteS.l0 : Nat → List Int → Int → Int → Option (Int)
 | 0, _, _, _ => none
 | k + 1, x0, x1, x5 => if x5 < (x0.length : Int) then (if 0 ≤ x5 then (if (rd x0 x5) = ((x1) % 256) then (laws_heldByteS.l0 k x0 (wrap64 (x1 + 1)) (wrap64 (x5 + 1))) else (some (-1))) else (none)) else (some x1)
def laws_heldByteS.f (k : Nat) (l0 : List Int) (a1 : Int) : Option (Int) := laws_heldByteS.l0 k l0 a1 0
set_option maxHeartbeats 8000000 in
set_option maxRecDepth 100000 in
theorem laws_heldByteS.calls (k : Nat) (A0 : Option Addr) (c0 : Nat) (l0 : List Int) (a1 : Int) (r : Int) (w : World) (hr0 : Kd.C (Kd.int .u8) w A0 l0.length l0) (hc0 : l0.length ≤ c0) (h : laws_heldByteS.f k l0 a1 = some r) :
  Calls Tryd.prog 25 #[.slice A0 l0.length c0, .int .i64 a1] w fun e w' => e = .returned (.int .i64 r) ∧ Drawn0 w w' := by
 have HR0 := Aside0.mk hr0
 have HC0 := Aside0.mk hc0
 clear hr0 hc0
 have H : (laws_heldByteS.l0 k l0 a1 0) = some r := h
 clear h
 have H' := Aside0.mk H
 clear H
 go_enter Tryd.func25, Tryd.ntmps25
 go_wp2
 go_loopg [1, 5] k (fun kq v1 v5 w' => ∃ (x1_1 : Int) (x5_1 : Int), v1 = .int .i64 x1_1 ∧ v5 = .int .i64 x5_1 ∧ Aside0 (laws_heldByteS.l0 kq l0 x1_1 x5_1 = some r) ∧ Aside0 (kq ≤ k) ∧ Drawn0 w w')
 case atStart => exact ⟨(a1), (0), (by first | rfl | (simp; done) | (simp [*]; done) | (simp [i64_w, IntKind.wrap_u8, e256_]; done) | (simp; generalize ByteArray.toList _ = zz_; cases zz_ <;> rfl)), (by first | rfl | (simp; done) | (simp [*]; done) | (simp [i64_w, IntKind.wrap_u8, e256_]; done) | (simp; generalize ByteArray.toList _ = zz_; cases zz_ <;> rfl)), H', ⟨Nat.le_refl _⟩, by repeat (first | exact Drawn0.refl _ | apply Drawn0.step)⟩
 case round =>
  clear H'
  try clear c2
  try clear p2
  obtain ⟨x1_1, x5_1, rfl, rfl, HA, HK1, ⟨m1, rfl⟩⟩ := hrel
  cases gk with
  | zero => exact absurd HA.out (by simp [laws_heldByteS.l0])
  | succ k1 =>
   have H := HA.out
   clear HA
   simp only [laws_heldByteS.l0] at H
   by_cases c3 : x5_1 < (l0.length : Int)
   ·rw [if_pos c3] at H
    have c3b0 : decide (x5_1 < (l0.length : Int)) = true := decide_eq_true c3
    clear c3
    by_cases c4 : 0 ≤ x5_1
    ·rw [if_pos c4] at H
     have c4b0 : decide (0 ≤ x5_1) = true := decide_eq_true c4
     clear c4
     by_cases c5 : (rd l0 x5_1) = ((x1_1) % 256)
     ·rw [if_pos c5] at H
      have c5b0 : ((rd l0 x5_1) == ((x1_1) % 256)) = true := beq_iff_eq.mpr c5
      have c5b1 : ((rd l0 x5_1) != ((x1_1) % 256)) = false := bne_eq_false_iff_eq.mpr c5
      clear c5
      have H' := Aside0.mk H
      clear H
      have p321 : 0 ≤ (x5_1 : Int) := of_decide_eq_true (by first | (with_reducible assumption) | assumption)
      have q321 : x5_1 < (l0.length : Int) := of_decide_eq_true (by first | (with_reducible assumption) | assumption)
      obtain ⟨ad321, e321, hx321_0⟩ := Kd.at_int HR0.out x5_1 p321 q321
      cases e321
      replace p321 := eq_true p321
      replace q321 := eq_true q321
      go_wp2
      go_roundg k1
      case measure => have := HK1.out; omega
      case rel => exact ⟨(wrap64 (x1_1 + 1)), (wrap64 (x5_1 + 1)), (by first | rfl | (simp; done) | (simp [*]; done) | (simp [i64_w, IntKind.wrap_u8, e256_]; done) | (simp; generalize ByteArray.toList _ = zz_; cases zz_ <;> rfl)), (by first | rfl | (simp; done) | (simp [*]; done) | (simp [i64_w, IntKind.wrap_u8, e256_]; done) | (simp; generalize ByteArray.toList _ = zz_; cases zz_ <;> rfl)), H', ⟨by have := HK1.out; omega⟩, by repeat (first | exact Drawn0.refl _ | apply Drawn0.step)⟩
     ·rw [if_neg c5] at H
      have c5b0 : ((rd l0 x5_1) == ((x1_1) % 256)) = false := beq_eq_false_iff_ne.mpr c5
      have c5b1 : ((rd l0 x5_1) != ((x1_1) % 256)) = true := bne_iff_ne.mpr c5
      obtain rfl := Option.some.inj H
      have p321 : 0 ≤ (x5_1 : Int) := of_decide_eq_true (by first | (with_reducible assumption) | assumption)
      have q321 : x5_1 < (l0.length : Int) := of_decide_eq_true (by first | (with_reducible assumption) | assumption)
      obtain ⟨ad321, e321, hx321_0⟩ := Kd.at_int HR0.out x5_1 p321 q321
      cases e321
      replace p321 := eq_true p321
      replace q321 := eq_true q321
      go_wp2
      go_ret
      exact ⟨by first | rfl | (simp; done) | (simp [*]; done) | (simp [i64_w, IntKind.wrap_u8, e256_]; done) | (simp; generalize ByteArray.toList _ = zz_; cases zz_ <;> rfl), by repeat (first | exact Drawn0.refl _ | apply Drawn0.step)⟩
    ·rw [if_neg c4] at H
     exact absurd H (by simp)
   ·rw [if_neg c3] at H
    have c3b0 : decide (x5_1 < (l0.length : Int)) = false := decide_eq_false c3
    clear c3
    obtain rfl := Option.some.inj H
    go_wp2
    go_ret
    exact ⟨by first | rfl | (simp; done) | (simp [*]; done) | (simp [i64_w, IntKind.wrap_u8, e256_]; done) | (simp; generalize ByteArray.toList _ = zz_; cases zz_ <;> rfl), by repeat (first | exact Drawn0.refl _ | apply Drawn0.step)⟩
attribute [local go_sem] max2_int min2_int max_two min_two max_three min_three max_four min_four
set_option linter.unusedVariables false
set_option linter.unusedSimpArgs false
def laws_markByteS.l0 : Nat → List Int → Int → Int → Option (Int × List Int)
 | 0, _, _, _ => none
 | k + 1, x0, x1, x5 => if x5 < (x0.length : Int) then (if 0 ≤ x5 then (laws_markByteS.l0 k (x0.set (x5 : Int).toNat ((x1) % 256)) (wrap64 (x1 + 1)) (wrap64 (x5 + 1))) else (none)) else (some (x1, x0))
def laws_markByteS.f (k : Nat) (l0 : List Int) (a1 : Int) : Option (Int × List Int) := laws_markByteS.l0 k l0 a1 0
theorem laws_markByteS.mono_l : ∀ k, (∀ y0 y1 y2, LeO (laws_markByteS.l0 k y0 y1 y2) (laws_markByteS.l0 (k + 1) y0 y1 y2))
 | 0 => fun _ _ _ r h => by simp [laws_markByteS.l0] at h
 | k + 1 => by
  have ih0 := laws_markByteS.mono_l k
  ·intro y0 y1 y2
   unfold laws_markByteS.l0
   repeat' first
   | (with_reducible exact ih0 _ _ _)
   | (with_reducible exact LeO.refl _)
   | (with_reducible exact LeO.none _)
   | (with_reducible refine LeO.ite ?_ ?_)
   | (with_reducible refine LeO.bind ?_ (fun _ => ?_))
   | exact ih0 _ _ _
   | exact LeO.none _
   | refine LeO.ite ?_ ?_
   | refine LeO.bind ?_ (fun _ => ?_)
theorem laws_markByteS.mono : ∀ a0 a1 k, LeO (laws_markByteS.f k a0 a1) (laws_markByteS.f (k + 1) a0 a1) := by
 intro a0 a1 k
 have ih0 := laws_markByteS.mono_l k
 unfold laws_markByteS.f
 repeat' first
   | (with_reducible exact ih0 _ _ _)
   | (with_reducible exact LeO.refl _)
   | (with_reducible exact LeO.none _)
   | (with_reducible refine LeO.ite ?_ ?_)
   | (with_reducible refine LeO.bind ?_ (fun _ => ?_))
   | exact ih0 _ _ _
   | exact LeO.none _
   | refine LeO.ite ?_ ?_
   | refine LeO.bind ?_ (fun _ => ?_)
set_option maxHeartbeats 8000000 in
set_option maxRecDepth 100000 in
theorem laws_markByteS.calls (k : Nat) (P0_ : Nat → Prop) (u9000_ : Value) (l0 : List Int) (a1 : Int) (r1 : Int) (r2 : List Int) (w0 w : World) (hB : Below w0.heap.size w0 w) (ho0 : Kd.R (Kd.int .u8) 5 w w0.heap.size P0_ u9000_ l0) (h : laws_markByteS.f k l0 a1 = some (r1, r2)) :
  Calls Tryd.prog 24 #[u9000_, .int .i64 a1] w fun e w' => e = .returned (.int .i64 r1) ∧ Kd.R (Kd.int .u8) 5 w' w0.heap.size (fun k_ => (P0_ k_ ∨ w.heap.size ≤ k_)) u9000_ r2 ∧ Below w0.heap.size w0 w' ∧ Kept w w' (fun k_ => P0_ k_) := by
 have HO0 := Aside0.mk (show Kd.R (Kd.int .u8) 5 w w0.heap.size (fun k_ => (P0_ k_ ∨ w.heap.size ≤ k_)) u9000_ l0 from Kd.R_mono ho0 (fun k_ hk => (.inl hk)))
 have HK := Aside0.mk (Kept.refl w (fun k_ => P0_ k_))
 have HW0 := Aside0.mk hB.size
 have HB := Aside0.mk hB
 clear hB
 have H : (laws_markByteS.l0 k l0 a1 0) = some (r1, r2) := h
 clear h
 have H' := Aside0.mk H
 clear H
 go_enter Tryd.func24, Tryd.ntmps24
 go_wp2
 go_loopg [1, 5] k (fun kq v1 v5 w' => ∃ (x0_1 : List Int) (x1_1 : Int) (x5_1 : Int), v1 = .int .i64 x1_1 ∧ v5 = .int .i64 x5_1 ∧ Aside0 (laws_markByteS.l0 kq x0_1 x1_1 x5_1 = some (r1, r2)) ∧ Aside0 (kq ≤ k) ∧ Aside0 (Kd.R (Kd.int .u8) 5 w' w0.heap.size (fun k_ => (P0_ k_ ∨ w.heap.size ≤ k_)) u9000_ x0_1) ∧ Aside0 (Kept w w' (fun k_ => P0_ k_)) ∧ Aside0 (Below w0.heap.size w0 w'))
 case atStart => exact ⟨(l0), (a1), (0), (by first | rfl | (simp; done) | (simp [*]; done) | (simp [i64_w, IntKind.wrap_u8, e256_]; done) | (simp; generalize ByteArray.toList _ = zz_; cases zz_ <;> rfl)), (by first | rfl | (simp; done) | (simp [*]; done) | (simp [i64_w, IntKind.wrap_u8, e256_]; done) | (simp; generalize ByteArray.toList _ = zz_; cases zz_ <;> rfl)), H', ⟨Nat.le_refl _⟩, ⟨rA HO0.out⟩, ⟨by repeat (first | (with_reducible first | exact HK.out | apply Kept.alloc | apply Kept.drewN | apply Kept.drew) | exact HK.out)⟩, ⟨bB⟩⟩
 case round =>
  clear H'
  try clear c2
  try clear p2
  obtain ⟨x0_1, x1_1, x5_1, rfl, rfl, HA, HK1, HO_0, HK, HB⟩ := hrel
  cases gk with
  | zero => exact absurd HA.out (by simp [laws_markByteS.l0])
  | succ k1 =>
   have H := HA.out
   clear HA
   simp only [laws_markByteS.l0] at H
   by_cases c3 : x5_1 < (x0_1.length : Int)
   ·rw [if_pos c3] at H
    have c3b0 : decide (x5_1 < (x0_1.length : Int)) = true := decide_eq_true c3
    clear c3
    by_cases c4 : 0 ≤ x5_1
    ·rw [if_pos c4] at H
     have c4b0 : decide (0 ≤ x5_1) = true := decide_eq_true c4
     clear c4
     obtain ⟨y320, hy320⟩ : ∃ y_ : List Int, y_ = (x0_1.set (x5_1 : Int).toNat ((x1_1) % 256)) := ⟨_, rfl⟩
     replace H : (laws_markByteS.l0 k1 y320 (wrap64 (x1_1 + 1)) (wrap64 (x5_1 + 1))) = some (r1, r2) := by first | (rw [hy320]; with_reducible exact H) | (have H2_ := (Option.bind_some _ _).symm.trans H; rw [hy320]; with_reducible exact H2_) | (have H2_ := (Option.bind_some _ _).symm.trans H; with_reducible exact H2_) | with_reducible exact H | (rw [hy320]; exact H) | exact H
     have Ny320 := Aside0.mk hy320
     clear hy320
     have H' := Aside0.mk H
     clear H
     obtain ⟨Ao6, co6, eo6⟩ := Kd.R_slice HO_0.out
     subst eo6
     have p5 : 0 ≤ (x5_1 : Int) := of_decide_eq_true (by first | (with_reducible assumption) | assumption)
     have q5 : (x5_1 : Int) < ((x0_1.length : Int) : Int) := of_decide_eq_true (by first | (with_reducible assumption) | assumption)
     obtain ⟨go5, co5, eo5, gb5, gl5, cl5, HG5⟩ := Kd.R_form HO_0.out (by omega)
     (first | cases eo5 | (injection eo5 with ea_ en_ ec_; (first | subst ea_ | (injection ea_ with ea_; subst ea_)); subst ec_; clear en_))
     have GB5 := Aside0.mk gb5
     have GG5 := Aside0.mk HG5
     clear gb5 gl5 HG5
     have HMgo5 := Aside0.mk (show (P0_ go5 ∨ w.heap.size ≤ go5) from (HO_0.out.1 _ rfl))
     obtain ⟨hx5_0, hf5_0⟩ := Kd.R_celln 0 HO_0.out (x5_1 : Int) p5 q5
     replace p5 := eq_true p5
     replace q5 := eq_true q5
     have HP7 := Kd.R_putg HO_0.out (x5_1 : Int) ((x1_1) % 256)
     go_wp2_with (first | ((with_reducible refine gate_store (t := 5) (p := 16) rfl ?_); refine store_event (t := 5) (p := 16) (v := ?vo_w8) (w1 := (wr.setCell ⟨go5, (x5_1 : Int).toNat, none⟩ (.int .u8 ((x1_1) % 256)))) ?hg ?ho ?hn ?hr ?_; (case ho => rfl); (case hg => rfl); (case hn => rfl); (case hr => first | (go_simp; done) | (go_simp; rfl)); intro w8 hw; have hg : wr.grownBy w8 (some go5) := (by rw [hw]; exact HP7.2); have hp_ : Kd.R (Kd.int .u8) 5 w8 w0.heap.size (fun k_ => (P0_ k_ ∨ w.heap.size ≤ k_)) (.slice (some ⟨go5, 0, none⟩) x0_1.length co6) y320 := (by rw [hw, Ny320.out]; exact HP7.1); clear HP7; have n0_ := Aside0.mk (hp_); have n1_ := Aside0.mk ((by rw [hw]; exact below_set (HB.out) GB5.out : Below w0.heap.size w0 w8)); have n2_ := Aside0.mk (Kept.of_grown (S := (fun k_ => P0_ k_)) hg (by repeat (first | (with_reducible first | exact HK.out | apply Kept.alloc | apply Kept.drewN | apply Kept.drew) | exact HK.out)) (fun k_ e_ => (HO_0.out.1 k_ e_))); clear HO_0; clear HB; clear HK; have HO_0 := n0_; have HB := n1_; have HK := n2_; clear n0_ n1_ n2_; clear hg hw hp_))
     go_roundg k1
     case measure => have := HK1.out; omega
     case rel => exact ⟨(y320), (wrap64 (x1_1 + 1)), (wrap64 (x5_1 + 1)), (by first | rfl | (simp; done) | (simp [*]; done) | (simp [i64_w, IntKind.wrap_u8, e256_]; done) | (simp; generalize ByteArray.toList _ = zz_; cases zz_ <;> rfl)), (by first | rfl | (simp; done) | (simp [*]; done) | (simp [i64_w, IntKind.wrap_u8, e256_]; done) | (simp; generalize ByteArray.toList _ = zz_; cases zz_ <;> rfl)), H', ⟨by have := HK1.out; omega⟩, ⟨rA HO_0.out⟩, ⟨by repeat (first | (with_reducible first | exact HK.out | apply Kept.alloc | apply Kept.drewN | apply Kept.drew) | exact HK.out)⟩, ⟨bB⟩⟩
    ·rw [if_neg c4] at H
     exact absurd H (by simp)
   ·rw [if_neg c3] at H
    have c3b0 : decide (x5_1 < (x0_1.length : Int)) = false := decide_eq_false c3
    clear c3
    simp only [Option.some.injEq, Prod.mk.injEq] at H
    obtain ⟨rfl, rfl⟩ := H
    obtain ⟨Ao9, co9, eo9⟩ := Kd.R_slice HO_0.out
    subst eo9
    go_wp2
    go_ret
    exact ⟨by first | rfl | (simp [errW_none, errW_some] <;> rfl) | (simp [*, errW_none, errW_some] <;> rfl), rA HO_0.out, bB, by repeat (first | (with_reducible first | exact HK.out | apply Kept.alloc | apply Kept.drewN | apply Kept.drew) | exact HK.out)⟩
end Go.Proofs.YtfiieppnpmodoaaDoor.Q
end
section
namespace Go.Proofs.YtfiieppnpmodoaaDoor.Q
open Go.RowKit Go.Proofs.YtfiieppnpmodoaaDoorW.PrintWords Go.Proofs.YtfiieppnpmodoaaDoorW.PrintLast Go.Proofs.YtfiieppnpmodoaaDoorW.PrintMore
set_option linter.unusedVariables false
set_option linter.unusedSimpArgs false
theorem markByteS_l : ∀ (d n k : Nat) (y : List Int) (a : Int), n + d = y.length → y.length ≤ 1000000000000 → 0 ≤ a → a + d ≤ 1000000000000 → d < k →
    ∃ y', laws_markByteS.l0 k y a (n : Int) = some (a + d, y') ∧ y'.length = y.length ∧ (∀ j : Nat, j < n → rd y' (j : Int) = rd y (j : Int)) ∧ ∀ j : Nat, n ≤ j → j < y.length → rd y' (j : Int) = (a + ((j : Int) - (n : Int))) % 256 := by
  intro d
  induction d with
  | zero =>
    intro n k y a hd hy ha hb hk
    obtain ⟨k, rfl⟩ : ∃ m, k = m + 1 := ⟨k - 1, by omega⟩
    have c1 : ¬ (n : Int) < (y.length : Int) := by omega
    simp only [laws_markByteS.l0, if_neg c1]
    refine ⟨y, ?_, rfl, fun _ _ => rfl, fun j h1 h2 => by omega⟩
    simp
  | succ d ih =>
    intro n k y a hd hy ha hb hk
    obtain ⟨k, rfl⟩ : ∃ m, k = m + 1 := ⟨k - 1, by omega⟩
    have c1 : (n : Int) < (y.length : Int) := by omega
    have c2 : 0 ≤ (n : Int) := by omega
    simp only [laws_markByteS.l0, if_pos c1, if_pos c2, toNat_cast]
    rw [show wrap64 ((n : Int) + 1) = ((n + 1 : Nat) : Int) from by unfold wrap64; omega, show wrap64 (a + 1) = a + 1 from by unfold wrap64; omega]
    obtain ⟨y', h1, h2, h3, h4⟩ := ih (n + 1) k (y.set n ((a) % 256)) (a + 1) (by simpa using (by omega : n + 1 + d = y.length)) (by simpa using hy) (by omega) (by omega) (by omega)
    refine ⟨y', ?_, by simpa using h2, fun j hj => ?_, fun j hj1 hj2 => ?_⟩
    · rw [h1, show a + 1 + (d : Int) = a + ((d + 1 : Nat) : Int) from by omega]
    · rw [h3 j (by omega), rd_set_other _ _ _ _ (by omega)]
    · by_cases e : j = n
      · rw [e, h3 n (by omega), rd_set_same _ _ _ (by omega)]
        have : a + ((n : Int) - (n : Int)) = a := by omega
        rw [this]
      · rw [h4 j (by omega) (by simpa using hj2)]
        have : a + 1 + ((j : Int) - ((n + 1 : Nat) : Int)) = a + ((j : Int) - (n : Int)) := by omega
        rw [this]
theorem heldByteS_l : ∀ (d n k : Nat) (y : List Int) (a : Int), n + d = y.length → y.length ≤ 1000000000000 → 0 ≤ a → a + d ≤ 1000000000000 → d < k → (∀ j : Nat, n ≤ j → j < y.length → rd y (j : Int) = (a + ((j : Int) - (n : Int))) % 256) →
    laws_heldByteS.l0 k y a (n : Int) = some (a + d) := by
  intro d
  induction d with
  | zero =>
    intro n k y a hd hy ha hb hk hv
    obtain ⟨k, rfl⟩ : ∃ m, k = m + 1 := ⟨k - 1, by omega⟩
    have c1 : ¬ (n : Int) < (y.length : Int) := by omega
    simp only [laws_heldByteS.l0, if_neg c1]
    simp
  | succ d ih =>
    intro n k y a hd hy ha hb hk hv
    obtain ⟨k, rfl⟩ : ∃ m, k = m + 1 := ⟨k - 1, by omega⟩
    have c1 : (n : Int) < (y.length : Int) := by omega
    have c2 : 0 ≤ (n : Int) := by omega
    have c3 : rd y (n : Int) = (a) % 256 := by
      rw [hv n (by omega) (by omega)]
      have : a + ((n : Int) - (n : Int)) = a := by omega
      rw [this]
    simp only [laws_heldByteS.l0, if_pos c1, if_pos c2, if_pos c3]
    rw [show wrap64 ((n : Int) + 1) = ((n + 1 : Nat) : Int) from by unfold wrap64; omega, show wrap64 (a + 1) = a + 1 from by unfold wrap64; omega]
    rw [ih (n + 1) k y (a + 1) (by omega) hy (by omega) (by omega) (by omega) (fun j h1 h2 => ?_)]
    · rw [show a + 1 + (d : Int) = a + ((d + 1 : Nat) : Int) from by omega]
    · rw [hv j (by omega) h2]
      have : a + 1 + ((j : Int) - ((n + 1 : Nat) : Int)) = a + ((j : Int) - (n : Int)) := by omega
      rw [this]
theorem markByteS_held (y : List Int) (hy : y.length ≤ 1000000000) (a : Int) (ha : 0 ≤ a) (hb : a ≤ 1000000000) :
    ∃ y', y'.length = y.length ∧ ∀ k, y.length < k → laws_markByteS.f k y a = some (a + y.length, y') ∧ laws_heldByteS.f k y' a = some (a + y.length) := by
  obtain ⟨y', h1, h2, _, h4⟩ := markByteS_l y.length 0 (y.length + 1) y a (by omega) (by omega) ha (by omega) (by omega)
  refine ⟨y', h2, fun k hk => ⟨later (g := fun k => laws_markByteS.f k y a) (fun k => laws_markByteS.mono y a k) h1 k hk, ?_⟩⟩
  have h := heldByteS_l y'.length 0 k y' a (by omega) (by omega) ha (by omega) (by omega) (fun j hj1 hj2 => h4 j hj1 (by omega))
  rw [h2] at h
  exact h
theorem putField_short (x : Int) (L : List Int) : (putField x L).1.length ≤ 100 := by
  unfold putField
  split
  · rename_i h
    have hl := fieldOk_len x L h
    have := sizeOf_range x
    have h1 : (pfHead x L.length).length ≤ 38 := by
      unfold pfHead
      split
      · exact putLen_short _ _
      · simp
    have h2 : (pfBody x L).length ≤ 60 := by
      unfold pfBody
      split
      · rw [bcd_length _ _ (evened_length L)]
        omega
      · omega
    simp only [List.length_append]
    omega
  · simp
end Go.Proofs.YtfiieppnpmodoaaDoor.Q
end
section
/- FnExactPutField's walk: the law answers true at every int64 and every string of at most 2^47 - 4096 bytes; the powers of ten lie in their table. -/
namespace Go.Proofs.YtfiieppnpmodoaaDoor.Q
open Go.RowKit Go.Proofs.YtfiieppnpmodoaaDoorW.PrintWords Go.Proofs.YtfiieppnpmodoaaDoorW.PrintLast Go.Proofs.YtfiieppnpmodoaaDoorW.PrintMore
set_option linter.unusedVariables false
set_option linter.unusedSimpArgs false
/-- A slice of bytes that reads xs. -/
def RdB (w : World) (v : Value) (xs : List Int) : Prop := ∃ A c, v = .slice A xs.length c ∧ xs.length ≤ c ∧ Kd.C (Kd.int .u8) w A xs.length xs
theorem RdB_below {w w1 : World} {v : Value} {xs : List Int} (h : RdB w v xs) (hb : Below w.heap.size w w1) : RdB w1 v xs := by
  obtain ⟨A, c, rfl, hl, hc⟩ := h
  exact ⟨A, c, rfl, hl, Kd.C_below hc hb⟩
theorem RdB_of_R {e : TypeId} {w : World} {base : Nat} {ok : Nat → Prop} {v : Value} {xs : List Int} (h : Kd.R (Kd.int .u8) e w base ok v xs) : RdB w v xs := Kd.R_reads h
theorem RowB_rd {e : TypeId} {w : World} {base : Nat} {v : Value} {xs : List Int} (h : RowB e w base v xs) : RdB w v xs := RowB_reads h
theorem eqB_calls (k : Nat) (u v : Value) (l0 l1 : List Int) (r : Bool) (w : World) (h0 : RdB w u l0) (h1 : RdB w v l1) (h : laws_eqByteS.f k l0 l1 = some r) :
    Calls Tryd.prog 23 #[u, v] w fun e w' => e = .returned (.bool r) ∧ Drawn0 w w' := by
  obtain ⟨A, c, rfl, hl, hc⟩ := h0
  obtain ⟨A1, c1, rfl, hl1, hc1⟩ := h1
  exact laws_eqByteS.calls k A c l0 A1 c1 l1 r w hc hl hc1 hl1 h
theorem heldB_calls (k : Nat) (v : Value) (l0 : List Int) (a1 r : Int) (w : World) (h0 : RdB w v l0) (h : laws_heldByteS.f k l0 a1 = some r) :
    Calls Tryd.prog 25 #[v, .int .i64 a1] w fun e w' => e = .returned (.int .i64 r) ∧ Drawn0 w w' := by
  obtain ⟨A, c, rfl, hl, hc⟩ := h0
  exact laws_heldByteS.calls k A c l0 a1 r w hc hl h
theorem RB_put {e : TypeId} {w : World} {g c : Nat} {xs : List Int} (h : RB e w g c xs) (n : Nat) (x : Int) : RB e (w.setCell ⟨g, n, none⟩ (.int .u8 x)) g c (xs.set n x) := by
  obtain ⟨cur, fr, hh, hf, hl, hm, hs, hc⟩ := h
  refine ⟨cur.setIfInBounds n (.int .u8 x), fr, ?_, ?_, by simpa using hl, hm, by simpa using hs, fun j hj => ?_⟩
  · simp [World.setCell, Array.getElem?_modify, hh]
  · simpa using hf
  · have hj' : j < xs.length := by simpa using hj
    by_cases q : n = j
    · subst q
      rw [Array.getElem?_setIfInBounds_self_of_lt (by omega)]
      simp [List.getD, hj']
    · rw [Array.getElem?_setIfInBounds_ne q, hc j hj']
      simp [List.getD, List.getElem?_set_ne q]
set_option maxHeartbeats 8000000 in
set_option maxRecDepth 100000 in
theorem markB_row (k g c : Nat) (l0 : List Int) (a1 : Int) (r1 : Int) (r2 : List Int) (w : World) (h0 : RB 5 w g c l0) (h : laws_markByteS.f k l0 a1 = some (r1, r2)) :
    Calls Tryd.prog 24 #[.slice (some ⟨g, 0, none⟩) l0.length c, .int .i64 a1] w fun e w' => e = .returned (.int .i64 r1) ∧ (r2.length = l0.length ∧ RB 5 w' g c r2) ∧ Below g w w' := by
  have HO0 := Aside0.mk h0
  have HB := Aside0.mk (Below.refl g w)
  have H' := Aside0.mk (show laws_markByteS.l0 k l0 a1 0 = some (r1, r2) from h)
  clear h h0
  go_enter Tryd.func24, Tryd.ntmps24
  go_wp2
  go_loopg [1, 5] k (fun kq v1 v5 w' => ∃ (x0_1 : List Int) (x1_1 : Int) (x5_1 : Int), v1 = .int .i64 x1_1 ∧ v5 = .int .i64 x5_1 ∧ Aside0 (laws_markByteS.l0 kq x0_1 x1_1 x5_1 = some (r1, r2)) ∧ Aside0 (kq ≤ k) ∧ Aside0 (x0_1.length = l0.length) ∧ Aside0 (RB 5 w' g c x0_1) ∧ Aside0 (Below g w w'))
  case atStart => exact ⟨l0, a1, 0, rfl, rfl, H', ⟨Nat.le_refl _⟩, ⟨rfl⟩, HO0, HB⟩
  case round =>
    clear H'
    obtain ⟨x0_1, x1_1, x5_1, rfl, rfl, HA, HK1, HL, HO_0, HB⟩ := hrel
    cases gk with
    | zero => exact absurd HA.out (by simp [laws_markByteS.l0])
    | succ k1 =>
      have H := HA.out
      clear HA
      simp only [laws_markByteS.l0] at H
      by_cases c3 : x5_1 < (x0_1.length : Int)
      · rw [if_pos c3] at H
        have c3b0 : decide (x5_1 < (l0.length : Int)) = true := decide_eq_true (by rw [← HL.out]; exact c3)
        by_cases c4 : 0 ≤ x5_1
        · rw [if_pos c4] at H
          have c4b0 : decide (0 ≤ x5_1) = true := decide_eq_true c4
          have p5 : (0 ≤ (x5_1 : Int)) = True := eq_true c4
          have q5 : ((x5_1 : Int) < ((l0.length : Int) : Int)) = True := eq_true (by rw [← HL.out]; exact c3)
          have hx5_0 := RB_cell HO_0.out x5_1.toNat (by omega)
          have hf5_0 := RB_free HO_0.out x5_1.toNat (by omega)
          have HP := Aside0.mk (RB_put HO_0.out x5_1.toNat (x1_1 % 256))
          have HPL := Aside0.mk (show (x0_1.set x5_1.toNat (x1_1 % 256)).length = l0.length by rw [List.length_set]; exact HL.out)
          generalize x0_1.set x5_1.toNat (x1_1 % 256) = y at H HP HPL
          have H' := Aside0.mk H
          have HBp := Aside0.mk (HB.out.setCell (Nat.le_refl g) (p := ⟨g, x5_1.toNat, none⟩) (.int .u8 (x1_1 % 256)))
          clear H c3 c4 HO_0 HB HL
          go_wp2_with (first | ((with_reducible refine gate_store (t := 5) (p := 16) rfl ?_); refine store_event (t := 5) (p := 16) (v := ?vo_w8) (w1 := (wr.setCell ⟨g, (x5_1 : Int).toNat, none⟩ (.int .u8 ((x1_1) % 256)))) ?hg ?ho ?hn ?hr ?_; (case ho => rfl); (case hg => rfl); (case hn => rfl); (case hr => first | (go_simp; done) | (go_simp; rfl)); intro w8 hw; have HP8 : Aside0 (RB 5 w8 g c y) := ⟨by rw [hw]; exact HP.out⟩; have HB8 : Aside0 (Below g w w8) := ⟨by rw [hw]; exact HBp.out⟩; clear HP HBp hw))
          go_roundg k1
          case measure => have := HK1.out; omega
          case rel => exact ⟨y, (wrap64 (x1_1 + 1)), (wrap64 (x5_1 + 1)), (by first | rfl | (simp; done) | (simp [*]; done)), (by first | rfl | (simp; done) | (simp [*]; done)), H', ⟨by have := HK1.out; omega⟩, HPL, HP8, HB8⟩
        · rw [if_neg c4] at H
          exact absurd H (by simp)
      · rw [if_neg c3] at H
        have c3b0 : decide (x5_1 < (l0.length : Int)) = false := decide_eq_false (by rw [← HL.out]; exact c3)
        clear c3
        simp only [Option.some.injEq, Prod.mk.injEq] at H
        obtain ⟨rfl, rfl⟩ := H
        go_wp2
        go_ret
        exact ⟨by first | rfl | (simp; done), ⟨HL.out, HO_0.out⟩, HB.out⟩
theorem markB_calls (k : Nat) (v : Value) (l0 : List Int) (a1 : Int) (r1 : Int) (r2 : List Int) (base : Nat) (w : World) (hbase : base ≤ w.heap.size) (h0 : RowB 5 w base v l0) (h : laws_markByteS.f k l0 a1 = some (r1, r2)) :
    Calls Tryd.prog 24 #[v, .int .i64 a1] w fun e w' => e = .returned (.int .i64 r1) ∧ RowB 5 w' base v r2 ∧ Below base w w' := by
  rcases h0 with ⟨rfl, rfl⟩ | ⟨g, c, rfl, hg, hr⟩
  · refine (laws_markByteS.calls k (fun _ => True) _ [] a1 r1 r2 w w (Below.refl _ _) (Kd.R_nil _ _ _ _ _) h).mono ?_
    rintro e w' ⟨rfl, hr, hb, _⟩
    exact ⟨rfl, RowB_lower (RowB_of_R hr) hbase, hb.mono hbase⟩
  · refine (markB_row k g c l0 a1 r1 r2 w hr h).mono ?_
    rintro e w' ⟨rfl, ⟨hl, hr'⟩, hb⟩
    exact ⟨rfl, .inr ⟨g, c, by rw [hl], hg, hr'⟩, hb.mono hg⟩
set_option maxHeartbeats 8000000 in
set_option maxRecDepth 100000 in
theorem putLaw_walk (a0 : Int) (a1 : ByteArray) (P Y : List Int) (b : Bool) (K : Nat) (w : World) (hG : GLW w) (hl : a1.size ≤ 1048576) (hs : spec_PutField.f a0 a1 = some (P, b))
    (hi : ∀ w, GLW w → Calls Tryd.prog 22 #[.int .i64 a0, .string a1] w fun e w' => ∃ v, e = .returned (.tuple #[v, .bool b]) ∧ RowB 5 w' w.heap.size v P ∧ Below w.heap.size w w')
    (he : laws_eqByteS.f K P P = some true) (hm : laws_markByteS.f K P 1 = some (1 + (P.length : Int), Y)) (hh : laws_heldByteS.f K Y 1 = some (1 + (P.length : Int))) :
    Calls Tryd.prog 4 #[.int .i64 a0, .string a1] w fun e w' => e = .returned (.bool true) ∧ Below w.heap.size w w' := by
  have d0 : decide (1048576 < (a1.size : Int)) = false := decide_eq_false (by omega)
  have HG := Aside0.mk hG
  have HS := Aside0.mk hs
  have HI := Aside0.mk hi
  have HE := Aside0.mk he
  have HM := Aside0.mk hm
  have HH := Aside0.mk hh
  obtain ⟨M, hM⟩ : ∃ M : Int, M = 1 + (P.length : Int) := ⟨_, rfl⟩
  have dm : decide (M < 0) = false := decide_eq_false (by omega)
  rw [← hM] at HM HH
  clear hG hs hi he hm hh hl
  cases b with
  | true =>
    go_enter Tryd.func4, Tryd.ntmps4
    go_wp2_with (first | ((with_reducible refine gate_callee (f := 21) rfl ?_); refine goesL_ (some 19) rfl rfl Tryd.func21 (by kernel_rfl) rfl #[.int .i64 a0, .string a1] rfl (by (try simp only [List.map_toArray, List.map_cons, List.map_nil]); first | done | rfl | (simp only [List.length_drop, List.length_take]; rfl)) ?_; (with_reducible refine (spec_PutField.calls a0 a1 P _ _ HS.out).mono ?_); rintro e w1 ⟨vs, rfl, hr_, hb⟩; refine ⟨_, rfl, ?_⟩; have HY1 := Aside0.mk (RdB_of_R hr_); have HB1 := Aside0.mk hb; have HU := Aside0.mk (Below.refl w1.heap.size w1); clear hr_ hb) | ((with_reducible refine gate_callee (f := 22) rfl ?_); refine goesL_ (some 25) rfl rfl Tryd.func22 (by kernel_rfl) rfl #[.int .i64 a0, .string a1] rfl (by (try simp only [List.map_toArray, List.map_cons, List.map_nil]); first | done | rfl | (simp only [List.length_drop, List.length_take]; rfl)) ?_; (with_reducible refine (HI.out w1 (GLW_below HG.out HB1.out)).mono ?_); rintro e w2 ⟨vg, rfl, hr_, hb⟩; refine ⟨_, rfl, ?_⟩; have HR2 := Aside0.mk hr_; have HK2 := Aside0.mk hb; have HY2 := Aside0.mk (RdB_below HY1.out hb); have HB2 := Aside0.mk (below_step HB1.out hb); clear hr_ hb) | ((with_reducible refine gate_callee (f := 23) rfl ?_); refine goesL_ (some 30) rfl rfl Tryd.func23 (by kernel_rfl) rfl #[vg, vs] rfl (by (try simp only [List.map_toArray, List.map_cons, List.map_nil]); first | done | rfl | (simp only [List.length_drop, List.length_take]; rfl)) ?_; (with_reducible refine (eqB_calls K vg vs P P true w2 (RowB_rd HR2.out) HY2.out HE.out).mono ?_); rintro e w3 ⟨rfl, hd_⟩; refine ⟨_, rfl, ?_⟩; have hb := hd_.below; have HR3 := Aside0.mk (RowB_below HR2.out hb); have HK3 := Aside0.mk (HK2.out.trans (hb.mono HK2.out.size)); have HB3 := Aside0.mk (below_step HB2.out hb); clear hd_ hb) | ((with_reducible refine gate_callee (f := 24) rfl ?_); refine goesL_ (some 39) rfl rfl Tryd.func24 (by kernel_rfl) rfl #[vg, .int .i64 1] rfl (by (try simp only [List.map_toArray, List.map_cons, List.map_nil]); first | done | rfl | (simp only [List.length_drop, List.length_take]; rfl)) ?_; (with_reducible refine (markB_calls K vg P 1 M Y w1.heap.size w3 HK3.out.size HR3.out HM.out).mono ?_); rintro e w4 ⟨rfl, hr_, hb⟩; refine ⟨_, rfl, ?_⟩; have HR4 := Aside0.mk hr_; have HK4 := Aside0.mk (HK3.out.trans hb); have HB4 := Aside0.mk (HB3.out.trans (hb.mono HB1.out.size)); clear hr_ hb) | ((with_reducible refine gate_callee (f := 25) rfl ?_); refine goesL_ (some 42) rfl rfl Tryd.func25 (by kernel_rfl) rfl #[vg, .int .i64 1] rfl (by (try simp only [List.map_toArray, List.map_cons, List.map_nil]); first | done | rfl | (simp only [List.length_drop, List.length_take]; rfl)) ?_; (with_reducible refine (heldB_calls K vg Y 1 M w4 (RowB_rd HR4.out) HH.out).mono ?_); rintro e w5 ⟨rfl, hd_⟩; refine ⟨_, rfl, ?_⟩; have hb := hd_.below; have HR5 := Aside0.mk (RowB_below HR4.out hb); have HK5 := Aside0.mk (HK4.out.trans (hb.mono HK4.out.size)); have HB5 := Aside0.mk (below_step HB4.out hb); clear hd_ hb) | ((with_reducible refine gate_callee (f := 22) rfl ?_); refine goesL_ (some 51) rfl rfl Tryd.func22 (by kernel_rfl) rfl #[.int .i64 a0, .string a1] rfl (by (try simp only [List.map_toArray, List.map_cons, List.map_nil]); first | done | rfl | (simp only [List.length_drop, List.length_take]; rfl)) ?_; (with_reducible refine (HI.out w5 (GLW_below HG.out HB5.out)).mono ?_); rintro e w6 ⟨vh, rfl, hr_, hb⟩; refine ⟨_, rfl, ?_⟩; have HQ6 := Aside0.mk (RowB_rd hr_); have HR6 := Aside0.mk (RowB_below HR5.out hb); have HK6 := Aside0.mk (HK5.out.trans (hb.mono HK5.out.size)); have HB6 := Aside0.mk (below_step HB5.out hb); clear hr_ hb) | ((with_reducible refine gate_callee (f := 23) rfl ?_); refine goesL_ (some 56) rfl rfl Tryd.func23 (by kernel_rfl) rfl #[vh, vs] rfl (by (try simp only [List.map_toArray, List.map_cons, List.map_nil]); first | done | rfl | (simp only [List.length_drop, List.length_take]; rfl)) ?_; (with_reducible refine (eqB_calls K vh vs P P true w6 HQ6.out (RdB_below HY1.out HK6.out) HE.out).mono ?_); rintro e w7 ⟨rfl, hd_⟩; refine ⟨_, rfl, ?_⟩; have hb := hd_.below; have HR7 := Aside0.mk (RowB_below HR6.out hb); have HB7 := Aside0.mk (below_step HB6.out hb); clear hd_ hb) | ((with_reducible refine gate_callee (f := 25) rfl ?_); refine goesL_ (some 65) rfl rfl Tryd.func25 (by kernel_rfl) rfl #[vg, .int .i64 1] rfl (by (try simp only [List.map_toArray, List.map_cons, List.map_nil]); first | done | rfl | (simp only [List.length_drop, List.length_take]; rfl)) ?_; (with_reducible refine (heldB_calls K vg Y 1 M w7 (RowB_rd HR7.out) HH.out).mono ?_); rintro e w8 ⟨rfl, hd_⟩; refine ⟨_, rfl, ?_⟩; have hb := hd_.below; have HB8 := Aside0.mk (below_step HB7.out hb); clear hd_ hb))
    go_ret
    exact ⟨rfl, HB8.out⟩
  | false =>
    go_enter Tryd.func4, Tryd.ntmps4
    go_wp2_with (first | ((with_reducible refine gate_callee (f := 21) rfl ?_); refine goesL_ (some 19) rfl rfl Tryd.func21 (by kernel_rfl) rfl #[.int .i64 a0, .string a1] rfl (by (try simp only [List.map_toArray, List.map_cons, List.map_nil]); first | done | rfl | (simp only [List.length_drop, List.length_take]; rfl)) ?_; (with_reducible refine (spec_PutField.calls a0 a1 P _ _ HS.out).mono ?_); rintro e w1 ⟨vs, rfl, hr_, hb⟩; refine ⟨_, rfl, ?_⟩; have HY1 := Aside0.mk (RdB_of_R hr_); have HB1 := Aside0.mk hb; have HU := Aside0.mk (Below.refl w1.heap.size w1); clear hr_ hb) | ((with_reducible refine gate_callee (f := 22) rfl ?_); refine goesL_ (some 25) rfl rfl Tryd.func22 (by kernel_rfl) rfl #[.int .i64 a0, .string a1] rfl (by (try simp only [List.map_toArray, List.map_cons, List.map_nil]); first | done | rfl | (simp only [List.length_drop, List.length_take]; rfl)) ?_; (with_reducible refine (HI.out w1 (GLW_below HG.out HB1.out)).mono ?_); rintro e w2 ⟨vg, rfl, hr_, hb⟩; refine ⟨_, rfl, ?_⟩; have HR2 := Aside0.mk hr_; have HK2 := Aside0.mk hb; have HY2 := Aside0.mk (RdB_below HY1.out hb); have HB2 := Aside0.mk (below_step HB1.out hb); clear hr_ hb) | ((with_reducible refine gate_callee (f := 23) rfl ?_); refine goesL_ (some 30) rfl rfl Tryd.func23 (by kernel_rfl) rfl #[vg, vs] rfl (by (try simp only [List.map_toArray, List.map_cons, List.map_nil]); first | done | rfl | (simp only [List.length_drop, List.length_take]; rfl)) ?_; (with_reducible refine (eqB_calls K vg vs P P true w2 (RowB_rd HR2.out) HY2.out HE.out).mono ?_); rintro e w3 ⟨rfl, hd_⟩; refine ⟨_, rfl, ?_⟩; have hb := hd_.below; have HR3 := Aside0.mk (RowB_below HR2.out hb); have HK3 := Aside0.mk (HK2.out.trans (hb.mono HK2.out.size)); have HB3 := Aside0.mk (below_step HB2.out hb); clear hd_ hb) | ((with_reducible refine gate_callee (f := 24) rfl ?_); refine goesL_ (some 39) rfl rfl Tryd.func24 (by kernel_rfl) rfl #[vg, .int .i64 1] rfl (by (try simp only [List.map_toArray, List.map_cons, List.map_nil]); first | done | rfl | (simp only [List.length_drop, List.length_take]; rfl)) ?_; (with_reducible refine (markB_calls K vg P 1 M Y w1.heap.size w3 HK3.out.size HR3.out HM.out).mono ?_); rintro e w4 ⟨rfl, hr_, hb⟩; refine ⟨_, rfl, ?_⟩; have HR4 := Aside0.mk hr_; have HK4 := Aside0.mk (HK3.out.trans hb); have HB4 := Aside0.mk (HB3.out.trans (hb.mono HB1.out.size)); clear hr_ hb) | ((with_reducible refine gate_callee (f := 25) rfl ?_); refine goesL_ (some 42) rfl rfl Tryd.func25 (by kernel_rfl) rfl #[vg, .int .i64 1] rfl (by (try simp only [List.map_toArray, List.map_cons, List.map_nil]); first | done | rfl | (simp only [List.length_drop, List.length_take]; rfl)) ?_; (with_reducible refine (heldB_calls K vg Y 1 M w4 (RowB_rd HR4.out) HH.out).mono ?_); rintro e w5 ⟨rfl, hd_⟩; refine ⟨_, rfl, ?_⟩; have hb := hd_.below; have HR5 := Aside0.mk (RowB_below HR4.out hb); have HK5 := Aside0.mk (HK4.out.trans (hb.mono HK4.out.size)); have HB5 := Aside0.mk (below_step HB4.out hb); clear hd_ hb) | ((with_reducible refine gate_callee (f := 22) rfl ?_); refine goesL_ (some 51) rfl rfl Tryd.func22 (by kernel_rfl) rfl #[.int .i64 a0, .string a1] rfl (by (try simp only [List.map_toArray, List.map_cons, List.map_nil]); first | done | rfl | (simp only [List.length_drop, List.length_take]; rfl)) ?_; (with_reducible refine (HI.out w5 (GLW_below HG.out HB5.out)).mono ?_); rintro e w6 ⟨vh, rfl, hr_, hb⟩; refine ⟨_, rfl, ?_⟩; have HQ6 := Aside0.mk (RowB_rd hr_); have HR6 := Aside0.mk (RowB_below HR5.out hb); have HK6 := Aside0.mk (HK5.out.trans (hb.mono HK5.out.size)); have HB6 := Aside0.mk (below_step HB5.out hb); clear hr_ hb) | ((with_reducible refine gate_callee (f := 23) rfl ?_); refine goesL_ (some 56) rfl rfl Tryd.func23 (by kernel_rfl) rfl #[vh, vs] rfl (by (try simp only [List.map_toArray, List.map_cons, List.map_nil]); first | done | rfl | (simp only [List.length_drop, List.length_take]; rfl)) ?_; (with_reducible refine (eqB_calls K vh vs P P true w6 HQ6.out (RdB_below HY1.out HK6.out) HE.out).mono ?_); rintro e w7 ⟨rfl, hd_⟩; refine ⟨_, rfl, ?_⟩; have hb := hd_.below; have HR7 := Aside0.mk (RowB_below HR6.out hb); have HB7 := Aside0.mk (below_step HB6.out hb); clear hd_ hb) | ((with_reducible refine gate_callee (f := 25) rfl ?_); refine goesL_ (some 65) rfl rfl Tryd.func25 (by kernel_rfl) rfl #[vg, .int .i64 1] rfl (by (try simp only [List.map_toArray, List.map_cons, List.map_nil]); first | done | rfl | (simp only [List.length_drop, List.length_take]; rfl)) ?_; (with_reducible refine (heldB_calls K vg Y 1 M w7 (RowB_rd HR7.out) HH.out).mono ?_); rintro e w8 ⟨rfl, hd_⟩; refine ⟨_, rfl, ?_⟩; have hb := hd_.below; have HB8 := Aside0.mk (below_step HB7.out hb); clear hd_ hb))
    go_ret
    exact ⟨rfl, HB8.out⟩
set_option maxHeartbeats 8000000 in
set_option maxRecDepth 100000 in
theorem laws_FnExactPutField.walk (a0 : Int) (a1 : ByteArray) (w : World) (w0 : (Lit.int .i64 a0).wf = true) (w1 : a1.size ≤ 140737488351232) (hG : GLW w) :
    Calls Tryd.prog 4 #[.int .i64 a0, .string a1] w fun e w' => e = .returned (.bool true) ∧ Below w.heap.size w w' := by
  by_cases hl : (a1.size : Int) > 1048576
  · have d0 : decide (1048576 < (a1.size : Int)) = true := decide_eq_true hl
    clear hG
    go_enter Tryd.func4, Tryd.ntmps4
    go_wp2
    go_ret
    exact ⟨rfl, Below.refl _ _⟩
  · have hz := putField_short a0 (bytesOf a1)
    have hs : spec_PutField.f a0 a1 = some (putField a0 (bytesOf a1)) := by unfold spec_PutField.f; rw [if_pos w1]
    have hi := fun w hw => impl_PutField.strong a0 a1 w hw w1
    obtain ⟨y, _, hy⟩ := markByteS_held (putField a0 (bytesOf a1)).1 (by omega) 1 (by omega) (by omega)
    obtain ⟨K, hK⟩ : ∃ K : Nat, K = 1000 := ⟨_, rfl⟩
    have h1 := hy K (by omega)
    have h2 := eqByteS_self (putField a0 (bytesOf a1)).1 (by omega) K (by omega)
    clear hy hK hz
    generalize putField a0 (bytesOf a1) = p at hs hi h1 h2
    obtain ⟨P, b⟩ := p
    exact putLaw_walk a0 a1 P y b K w hG (by omega) hs hi h2 h1.1 h1.2
end Go.Proofs.YtfiieppnpmodoaaDoor.Q
end
section
/- The start that fits a row that lists the three tables, and what the rows' list gives the walks: for rows of tied cards. -/
namespace Go.Proofs.YtfiieppnpmodoaaDoor.Laid
open Go.ChangeShapes Go.WideShapes Go.ChangeAt Go.RowKit
def valsOf (d : DataW Unit) : Array Value := match d with
  | .agg l => (l.map fun | .lit (.int k z) => Value.int k z | _ => .bool false).toArray
  | _ => #[]
def put (d : DataW Unit) : Obj → Obj
  | .cells _ t frozen => .cells (valsOf d) t frozen
  | o => o
/-- The settled world with the three tables laid. -/
noncomputable def world (os : Os) : World :=
  let w0 := World.holding Tryd.prog os ⟨#[], #[], []⟩
  { w0 with heap := ((w0.heap.modify 3 (put Rows.laid_internal_strconv_uint64pow10)).modify 4 (put Rows.laid_math_bits_deBruijn32tab)).modify 5 (put Rows.laid_math_bits_deBruijn64tab) }
abbrev list3 : List (String × DataW Unit) := [("math/bits.deBruijn32tab", Rows.laid_math_bits_deBruijn32tab), ("math/bits.deBruijn64tab", Rows.laid_math_bits_deBruijn64tab), ("internal/strconv.uint64pow10", Rows.laid_internal_strconv_uint64pow10)]
set_option maxRecDepth 100000 in
theorem met (os : Os) (args : Array Value) : laidMet Tryd.prog list3 ((world os).forCall (fun _ _ => 0) ⟨#[], args, []⟩).memory :=
  laidMet_of_run' 100 (by kernel_rfl) (by kernel_rfl)
theorem gPowType : (Tryd.prog.globals[3]?).map (·.type) = some 147 := by kernel_rfl
theorem gl {W : World} (h : laidMet Tryd.prog list3 W) : Q.GLW W :=
  Lib.tabIs_of_head Q.gPow gPowType Tryd.underlying147 Tryd.underlying120 (by kernel_rfl) (by kernel_rfl) (show laidMet Tryd.prog [("internal/strconv.uint64pow10", Lib.tabData .u64 Lib.pow10Tab)] W from h.tail.tail)
end Go.Proofs.YtfiieppnpmodoaaDoor.Laid
end
