/- Texts for FnExactGetField, packed by a program of this session (wip/pack.py), part 2 of 3: the print's words that are used, the printed walks, the plain laws, the row; no condition. -/
import Derived.Test.YtiglmmofapcefaaDoorMgFnExactGetField1
import Derived.Test.YtiglmmofapcefaaDoorRows
import Derived.LaidLaws
import Derived.Stop.LaidErr
import Derived.ChangeMaps5
section
namespace Go.Proofs.YtiglmmofapcefaaDoor.Q
open Go.RowKit Go.Proofs.YtiglmmofapcefaaDoorW.PrintWords Go.Proofs.YtiglmmofapcefaaDoorW.PrintLast Go.Proofs.YtiglmmofapcefaaDoorW.PrintMore
attribute [local go_sem] max2_int min2_int max_two min_two max_three min_three max_four min_four
set_option linter.unusedVariables false
set_option linter.unusedSimpArgs false
def impl_FieldOk.j0 : Nat → ByteArray → Bool → Int → Int → Int → Option (Bool)
 | 0, _, _, _, _, _ => none
 | k + 1, x1, x43, x261000, x261001, x261002 => if x43 = true then ((impl_Printable.f k x1).bind fun t265 => (if t265 = true then ((impl_within.f (x1.size : Int) 1 x261002).bind fun t266 => (some t266)) else (some false))) else (some false)
def impl_FieldOk.f (k : Nat) (a0 : Int) (a1 : ByteArray) : Option (Bool) := (impl_rowOf.f k a0).bind fun bt257 => (if bt257.2.1 = 1 then ((impl_Digits.f k a1).bind fun t261 => (if t261 = true then (some ((a1.size : Int) == bt257.2.2)) else (some false))) else (if bt257.2.1 = 2 then ((impl_Printable.f k a1).bind fun t262 => (if t262 = true then (some ((a1.size : Int) == bt257.2.2)) else (some false))) else (if bt257.2.1 = 3 then ((impl_Digits.f k a1).bind fun t263 => (if t263 = true then ((impl_within.f (a1.size : Int) 1 bt257.2.2).bind fun t264 => (some t264)) else (some false))) else (if bt257.2.1 = 4 then (impl_FieldOk.j0 k a1 (bt257.2.1 == 4) bt257.1 bt257.2.1 bt257.2.2) else (impl_FieldOk.j0 k a1 (bt257.2.1 == 5) bt257.1 bt257.2.1 bt257.2.2)))))
set_option maxHeartbeats 8000000 in
set_option maxRecDepth 100000 in
theorem impl_FieldOk.calls (k : Nat) (a0 : Int) (a1 : ByteArray) (r : Bool) (w : World) (h : impl_FieldOk.f k a0 a1 = some r) :
  Calls Tryd.prog 61 #[.int .i64 a0, .string a1] w fun e w' => e = .returned (.bool r) ∧ Below w.heap.size w w' := by
 have hu100 := Tryd.underlying100
 have HB := Aside0.mk (Below.refl w.heap.size w)
 have H : ((impl_rowOf.f k a0).bind fun bt257 => (if bt257.2.1 = 1 then ((impl_Digits.f k a1).bind fun t261 => (if t261 = true then (some ((a1.size : Int) == bt257.2.2)) else (some false))) else (if bt257.2.1 = 2 then ((impl_Printable.f k a1).bind fun t262 => (if t262 = true then (some ((a1.size : Int) == bt257.2.2)) else (some false))) else (if bt257.2.1 = 3 then ((impl_Digits.f k a1).bind fun t263 => (if t263 = true then ((impl_within.f (a1.size : Int) 1 bt257.2.2).bind fun t264 => (some t264)) else (some false))) else (if bt257.2.1 = 4 then (impl_FieldOk.j0 k a1 (bt257.2.1 == 4) bt257.1 bt257.2.1 bt257.2.2) else (impl_FieldOk.j0 k a1 (bt257.2.1 == 5) bt257.1 bt257.2.1 bt257.2.2)))))) = some r := h
 clear h
 replace H := Option.bind_eq_some_iff.mp H
 obtain ⟨⟨t257, t258, t259⟩, A30, H⟩ := H
 replace H : (if t258 = 1 then ((impl_Digits.f k a1).bind fun t261 => (if t261 = true then (some ((a1.size : Int) == t259)) else (some false))) else (if t258 = 2 then ((impl_Printable.f k a1).bind fun t262 => (if t262 = true then (some ((a1.size : Int) == t259)) else (some false))) else (if t258 = 3 then ((impl_Digits.f k a1).bind fun t263 => (if t263 = true then ((impl_within.f (a1.size : Int) 1 t259).bind fun t264 => (some t264)) else (some false))) else (if t258 = 4 then (impl_FieldOk.j0 k a1 (t258 == 4) t257 t258 t259) else (impl_FieldOk.j0 k a1 (t258 == 5) t257 t258 t259))))) = some r := H
 have A3 := Aside0.mk A30
 clear A30
 by_cases c4 : t258 = 1
 ·rw [if_pos c4] at H
  have c4b0 : (t258 == 1) = true := beq_iff_eq.mpr c4
  have c4b1 : (t258 != 1) = false := bne_eq_false_iff_eq.mpr c4
  clear c4
  replace H := Option.bind_eq_some_iff.mp H
  obtain ⟨t261, A50, H⟩ := H
  replace H : (if t261 = true then (some ((a1.size : Int) == t259)) else (some false)) = some r := H
  have A5 := Aside0.mk A50
  clear A50
  by_cases c6 : t261 = true
  ·subst c6
   have H1 : (some ((a1.size : Int) == t259)) = some r := by rw [if_pos rfl] at H; exact H
   clear H
   have H := H1
   clear H1
   obtain rfl := Option.some.inj H
   go_enter Tryd.func61, Tryd.ntmps61
   go_wp2_with (first | ((with_reducible refine gate_callee (f := 103) rfl ?_); refine goesM_ (some 7) rfl rfl Tryd.func103 (by kernel_rfl) rfl #[.int .i64 a0] rfl ?_; (with_reducible refine (impl_rowOf.calls k a0 t257 t258 t259 _ A3.out).mono ?_); rintro e w7 ⟨rfl, hb⟩; refine ⟨_, rfl, ?_⟩; have n0_ := Aside0.mk (below_step bB hb); clear HB; have HB := n0_; clear n0_; (try clear hb); (try clear hb2); (try clear hk); (try clear hi)) | ((with_reducible refine gate_dst (N := 5) rfl ?_); (try (refine gate_guard (by rfl) ?_; dsimp only)); refine box_event ?hg (N := 5) ?hd (cs := #[.int .i64 0, .int .i64 0, .int .i64 0]) (t := 100) ?hr ?_; (case hd => rfl); (case hg => rfl); (case hr => first | (go_simp; done) | (go_simp; rfl)); intro gb260 hg w8 hbox hb; have n0_ := Aside0.mk (below_step bB hb); have n1_ := Aside0.mk (hbox); have n2_ := Aside0.mk ((by rw [hg]; exact (below_size bB) : w.heap.size ≤ gb260)); have n3_ := Aside0.mk ((by rw [hg]; exact (below_size bB) : w.heap.size ≤ gb260)); clear HB; have HB := n0_; have BK260 := n1_; have GW260 := n2_; have GE260 := n3_; clear n0_ n1_ n2_ n3_; clear hb hbox hg; have hcz9_0 : w8.cell? ⟨gb260, 0, none⟩ = some (.int .i64 0) := (blk_cell BK260.out 0).trans rfl; have hcz9_1 : w8.cell? ⟨gb260, 1, none⟩ = some (.int .i64 0) := (blk_cell BK260.out 1).trans rfl; have hcz9_2 : w8.cell? ⟨gb260, 2, none⟩ = some (.int .i64 0) := (blk_cell BK260.out 2).trans rfl; have hfz9_0 := blk_frozen BK260.out 0; have hfz9_1 := blk_frozen BK260.out 1; have hfz9_2 := blk_frozen BK260.out 2) | ((with_reducible refine gate_callee (f := 70) rfl ?_); refine goesM_ (some 13) rfl rfl Tryd.func70 (by kernel_rfl) rfl #[.string a1] rfl ?_; (with_reducible refine (impl_Digits.calls k a1 true _ A5.out).mono ?_); rintro e w' ⟨rfl, ⟨nd, rfl⟩⟩; refine ⟨_, rfl, ?_⟩))
   go_ret
   exact ⟨by first | rfl | (simp [errW_none, errW_some] <;> rfl) | (simp [*, errW_none, errW_some] <;> rfl), bG⟩
  ·replace c6 := Bool.eq_false_iff.mpr c6
   subst c6
   have H1 : (some false) = some r := by rw [if_neg (show ¬ (false = true) by decide)] at H; exact H
   clear H
   have H := H1
   clear H1
   obtain rfl := Option.some.inj H
   go_enter Tryd.func61, Tryd.ntmps61
   go_wp2_with (first | ((with_reducible refine gate_callee (f := 103) rfl ?_); refine goesM_ (some 7) rfl rfl Tryd.func103 (by kernel_rfl) rfl #[.int .i64 a0] rfl ?_; (with_reducible refine (impl_rowOf.calls k a0 t257 t258 t259 _ A3.out).mono ?_); rintro e w10 ⟨rfl, hb⟩; refine ⟨_, rfl, ?_⟩; have n0_ := Aside0.mk (below_step bB hb); clear HB; have HB := n0_; clear n0_; (try clear hb); (try clear hb2); (try clear hk); (try clear hi)) | ((with_reducible refine gate_dst (N := 5) rfl ?_); (try (refine gate_guard (by rfl) ?_; dsimp only)); refine box_event ?hg (N := 5) ?hd (cs := #[.int .i64 0, .int .i64 0, .int .i64 0]) (t := 100) ?hr ?_; (case hd => rfl); (case hg => rfl); (case hr => first | (go_simp; done) | (go_simp; rfl)); intro gb260 hg w11 hbox hb; have n0_ := Aside0.mk (below_step bB hb); have n1_ := Aside0.mk (hbox); have n2_ := Aside0.mk ((by rw [hg]; exact (below_size bB) : w.heap.size ≤ gb260)); have n3_ := Aside0.mk ((by rw [hg]; exact (below_size bB) : w.heap.size ≤ gb260)); clear HB; have HB := n0_; have BK260 := n1_; have GW260 := n2_; have GE260 := n3_; clear n0_ n1_ n2_ n3_; clear hb hbox hg; have hcz12_0 : w11.cell? ⟨gb260, 0, none⟩ = some (.int .i64 0) := (blk_cell BK260.out 0).trans rfl; have hcz12_1 : w11.cell? ⟨gb260, 1, none⟩ = some (.int .i64 0) := (blk_cell BK260.out 1).trans rfl; have hcz12_2 : w11.cell? ⟨gb260, 2, none⟩ = some (.int .i64 0) := (blk_cell BK260.out 2).trans rfl; have hfz12_0 := blk_frozen BK260.out 0; have hfz12_1 := blk_frozen BK260.out 1; have hfz12_2 := blk_frozen BK260.out 2) | ((with_reducible refine gate_callee (f := 70) rfl ?_); refine goesM_ (some 13) rfl rfl Tryd.func70 (by kernel_rfl) rfl #[.string a1] rfl ?_; (with_reducible refine (impl_Digits.calls k a1 false _ A5.out).mono ?_); rintro e w' ⟨rfl, ⟨nd, rfl⟩⟩; refine ⟨_, rfl, ?_⟩))
   go_ret
   exact ⟨by first | rfl | (simp [errW_none, errW_some] <;> rfl) | (simp [*, errW_none, errW_some] <;> rfl), bG⟩
 ·rw [if_neg c4] at H
  have c4b0 : (t258 == 1) = false := beq_eq_false_iff_ne.mpr c4
  have c4b1 : (t258 != 1) = true := bne_iff_ne.mpr c4
  by_cases c13 : t258 = 2
  ·rw [if_pos c13] at H
   have c13b0 : (t258 == 2) = true := beq_iff_eq.mpr c13
   have c13b1 : (t258 != 2) = false := bne_eq_false_iff_eq.mpr c13
   clear c13
   replace H := Option.bind_eq_some_iff.mp H
   obtain ⟨t262, A140, H⟩ := H
   replace H : (if t262 = true then (some ((a1.size : Int) == t259)) else (some false)) = some r := H
   have A14 := Aside0.mk A140
   clear A140
   by_cases c15 : t262 = true
   ·subst c15
    have H1 : (some ((a1.size : Int) == t259)) = some r := by rw [if_pos rfl] at H; exact H
    clear H
    have H := H1
    clear H1
    obtain rfl := Option.some.inj H
    go_enter Tryd.func61, Tryd.ntmps61
    go_wp2_with (first | ((with_reducible refine gate_callee (f := 103) rfl ?_); refine goesM_ (some 7) rfl rfl Tryd.func103 (by kernel_rfl) rfl #[.int .i64 a0] rfl ?_; (with_reducible refine (impl_rowOf.calls k a0 t257 t258 t259 _ A3.out).mono ?_); rintro e w16 ⟨rfl, hb⟩; refine ⟨_, rfl, ?_⟩; have n0_ := Aside0.mk (below_step bB hb); clear HB; have HB := n0_; clear n0_; (try clear hb); (try clear hb2); (try clear hk); (try clear hi)) | ((with_reducible refine gate_dst (N := 5) rfl ?_); (try (refine gate_guard (by rfl) ?_; dsimp only)); refine box_event ?hg (N := 5) ?hd (cs := #[.int .i64 0, .int .i64 0, .int .i64 0]) (t := 100) ?hr ?_; (case hd => rfl); (case hg => rfl); (case hr => first | (go_simp; done) | (go_simp; rfl)); intro gb260 hg w17 hbox hb; have n0_ := Aside0.mk (below_step bB hb); have n1_ := Aside0.mk (hbox); have n2_ := Aside0.mk ((by rw [hg]; exact (below_size bB) : w.heap.size ≤ gb260)); have n3_ := Aside0.mk ((by rw [hg]; exact (below_size bB) : w.heap.size ≤ gb260)); clear HB; have HB := n0_; have BK260 := n1_; have GW260 := n2_; have GE260 := n3_; clear n0_ n1_ n2_ n3_; clear hb hbox hg; have hcz18_0 : w17.cell? ⟨gb260, 0, none⟩ = some (.int .i64 0) := (blk_cell BK260.out 0).trans rfl; have hcz18_1 : w17.cell? ⟨gb260, 1, none⟩ = some (.int .i64 0) := (blk_cell BK260.out 1).trans rfl; have hcz18_2 : w17.cell? ⟨gb260, 2, none⟩ = some (.int .i64 0) := (blk_cell BK260.out 2).trans rfl; have hfz18_0 := blk_frozen BK260.out 0; have hfz18_1 := blk_frozen BK260.out 1; have hfz18_2 := blk_frozen BK260.out 2) | ((with_reducible refine gate_callee (f := 104) rfl ?_); refine goesM_ (some 24) rfl rfl Tryd.func104 (by kernel_rfl) rfl #[.string a1] rfl ?_; (with_reducible refine (impl_Printable.calls k a1 true _ A14.out).mono ?_); rintro e w' ⟨rfl, ⟨nd, rfl⟩⟩; refine ⟨_, rfl, ?_⟩))
    go_ret
    exact ⟨by first | rfl | (simp [errW_none, errW_some] <;> rfl) | (simp [*, errW_none, errW_some] <;> rfl), bG⟩
   ·replace c15 := Bool.eq_false_iff.mpr c15
    subst c15
    have H1 : (some false) = some r := by rw [if_neg (show ¬ (false = true) by decide)] at H; exact H
    clear H
    have H := H1
    clear H1
    obtain rfl := Option.some.inj H
    go_enter Tryd.func61, Tryd.ntmps61
    go_wp2_with (first | ((with_reducible refine gate_callee (f := 103) rfl ?_); refine goesM_ (some 7) rfl rfl Tryd.func103 (by kernel_rfl) rfl #[.int .i64 a0] rfl ?_; (with_reducible refine (impl_rowOf.calls k a0 t257 t258 t259 _ A3.out).mono ?_); rintro e w19 ⟨rfl, hb⟩; refine ⟨_, rfl, ?_⟩; have n0_ := Aside0.mk (below_step bB hb); clear HB; have HB := n0_; clear n0_; (try clear hb); (try clear hb2); (try clear hk); (try clear hi)) | ((with_reducible refine gate_dst (N := 5) rfl ?_); (try (refine gate_guard (by rfl) ?_; dsimp only)); refine box_event ?hg (N := 5) ?hd (cs := #[.int .i64 0, .int .i64 0, .int .i64 0]) (t := 100) ?hr ?_; (case hd => rfl); (case hg => rfl); (case hr => first | (go_simp; done) | (go_simp; rfl)); intro gb260 hg w20 hbox hb; have n0_ := Aside0.mk (below_step bB hb); have n1_ := Aside0.mk (hbox); have n2_ := Aside0.mk ((by rw [hg]; exact (below_size bB) : w.heap.size ≤ gb260)); have n3_ := Aside0.mk ((by rw [hg]; exact (below_size bB) : w.heap.size ≤ gb260)); clear HB; have HB := n0_; have BK260 := n1_; have GW260 := n2_; have GE260 := n3_; clear n0_ n1_ n2_ n3_; clear hb hbox hg; have hcz21_0 : w20.cell? ⟨gb260, 0, none⟩ = some (.int .i64 0) := (blk_cell BK260.out 0).trans rfl; have hcz21_1 : w20.cell? ⟨gb260, 1, none⟩ = some (.int .i64 0) := (blk_cell BK260.out 1).trans rfl; have hcz21_2 : w20.cell? ⟨gb260, 2, none⟩ = some (.int .i64 0) := (blk_cell BK260.out 2).trans rfl; have hfz21_0 := blk_frozen BK260.out 0; have hfz21_1 := blk_frozen BK260.out 1; have hfz21_2 := blk_frozen BK260.out 2) | ((with_reducible refine gate_callee (f := 104) rfl ?_); refine goesM_ (some 24) rfl rfl Tryd.func104 (by kernel_rfl) rfl #[.string a1] rfl ?_; (with_reducible refine (impl_Printable.calls k a1 false _ A14.out).mono ?_); rintro e w' ⟨rfl, ⟨nd, rfl⟩⟩; refine ⟨_, rfl, ?_⟩))
    go_ret
    exact ⟨by first | rfl | (simp [errW_none, errW_some] <;> rfl) | (simp [*, errW_none, errW_some] <;> rfl), bG⟩
  ·rw [if_neg c13] at H
   have c13b0 : (t258 == 2) = false := beq_eq_false_iff_ne.mpr c13
   have c13b1 : (t258 != 2) = true := bne_iff_ne.mpr c13
   by_cases c22 : t258 = 3
   ·rw [if_pos c22] at H
    have c22b0 : (t258 == 3) = true := beq_iff_eq.mpr c22
    have c22b1 : (t258 != 3) = false := bne_eq_false_iff_eq.mpr c22
    clear c22
    replace H := Option.bind_eq_some_iff.mp H
    obtain ⟨t263, A230, H⟩ := H
    replace H : (if t263 = true then ((impl_within.f (a1.size : Int) 1 t259).bind fun t264 => (some t264)) else (some false)) = some r := H
    have A23 := Aside0.mk A230
    clear A230
    by_cases c24 : t263 = true
    ·subst c24
     have H1 : ((impl_within.f (a1.size : Int) 1 t259).bind fun t264 => (some t264)) = some r := by rw [if_pos rfl] at H; exact H
     clear H
     have H := H1
     clear H1
     replace H := Option.bind_eq_some_iff.mp H
     obtain ⟨t264, A250, H⟩ := H
     replace H : (some t264) = some r := H
     have A25 := Aside0.mk A250
     clear A250
     obtain rfl := Option.some.inj H
     go_enter Tryd.func61, Tryd.ntmps61
     go_wp2_with (first | ((with_reducible refine gate_callee (f := 103) rfl ?_); refine goesM_ (some 7) rfl rfl Tryd.func103 (by kernel_rfl) rfl #[.int .i64 a0] rfl ?_; (with_reducible refine (impl_rowOf.calls k a0 t257 t258 t259 _ A3.out).mono ?_); rintro e w26 ⟨rfl, hb⟩; refine ⟨_, rfl, ?_⟩; have n0_ := Aside0.mk (below_step bB hb); clear HB; have HB := n0_; clear n0_; (try clear hb); (try clear hb2); (try clear hk); (try clear hi)) | ((with_reducible refine gate_dst (N := 5) rfl ?_); (try (refine gate_guard (by rfl) ?_; dsimp only)); refine box_event ?hg (N := 5) ?hd (cs := #[.int .i64 0, .int .i64 0, .int .i64 0]) (t := 100) ?hr ?_; (case hd => rfl); (case hg => rfl); (case hr => first | (go_simp; done) | (go_simp; rfl)); intro gb260 hg w27 hbox hb; have n0_ := Aside0.mk (below_step bB hb); have n1_ := Aside0.mk (hbox); have n2_ := Aside0.mk ((by rw [hg]; exact (below_size bB) : w.heap.size ≤ gb260)); have n3_ := Aside0.mk ((by rw [hg]; exact (below_size bB) : w.heap.size ≤ gb260)); clear HB; have HB := n0_; have BK260 := n1_; have GW260 := n2_; have GE260 := n3_; clear n0_ n1_ n2_ n3_; clear hb hbox hg; have hcz28_0 : w27.cell? ⟨gb260, 0, none⟩ = some (.int .i64 0) := (blk_cell BK260.out 0).trans rfl; have hcz28_1 : w27.cell? ⟨gb260, 1, none⟩ = some (.int .i64 0) := (blk_cell BK260.out 1).trans rfl; have hcz28_2 : w27.cell? ⟨gb260, 2, none⟩ = some (.int .i64 0) := (blk_cell BK260.out 2).trans rfl; have hfz28_0 := blk_frozen BK260.out 0; have hfz28_1 := blk_frozen BK260.out 1; have hfz28_2 := blk_frozen BK260.out 2) | ((with_reducible refine gate_callee (f := 70) rfl ?_); refine goesM_ (some 35) rfl rfl Tryd.func70 (by kernel_rfl) rfl #[.string a1] rfl ?_; (with_reducible refine (impl_Digits.calls k a1 true _ A23.out).mono ?_); rintro e w' ⟨rfl, ⟨nd, rfl⟩⟩; refine ⟨_, rfl, ?_⟩) | (go_at_call 67; (with_reducible refine (impl_within.calls (a1.size : Int) 1 t259 t264 _ A25.out).mono ?_); rintro e w' ⟨rfl, ⟨nd, rfl⟩⟩))
     go_ret
     exact ⟨by first | rfl | (simp [errW_none, errW_some] <;> rfl) | (simp [*, errW_none, errW_some] <;> rfl), bG⟩
    ·replace c24 := Bool.eq_false_iff.mpr c24
     subst c24
     have H1 : (some false) = some r := by rw [if_neg (show ¬ (false = true) by decide)] at H; exact H
     clear H
     have H := H1
     clear H1
     obtain rfl := Option.some.inj H
     go_enter Tryd.func61, Tryd.ntmps61
     go_wp2_with (first | ((with_reducible refine gate_callee (f := 103) rfl ?_); refine goesM_ (some 7) rfl rfl Tryd.func103 (by kernel_rfl) rfl #[.int .i64 a0] rfl ?_; (with_reducible refine (impl_rowOf.calls k a0 t257 t258 t259 _ A3.out).mono ?_); rintro e w29 ⟨rfl, hb⟩; refine ⟨_, rfl, ?_⟩; have n0_ := Aside0.mk (below_step bB hb); clear HB; have HB := n0_; clear n0_; (try clear hb); (try clear hb2); (try clear hk); (try clear hi)) | ((with_reducible refine gate_dst (N := 5) rfl ?_); (try (refine gate_guard (by rfl) ?_; dsimp only)); refine box_event ?hg (N := 5) ?hd (cs := #[.int .i64 0, .int .i64 0, .int .i64 0]) (t := 100) ?hr ?_; (case hd => rfl); (case hg => rfl); (case hr => first | (go_simp; done) | (go_simp; rfl)); intro gb260 hg w30 hbox hb; have n0_ := Aside0.mk (below_step bB hb); have n1_ := Aside0.mk (hbox); have n2_ := Aside0.mk ((by rw [hg]; exact (below_size bB) : w.heap.size ≤ gb260)); have n3_ := Aside0.mk ((by rw [hg]; exact (below_size bB) : w.heap.size ≤ gb260)); clear HB; have HB := n0_; have BK260 := n1_; have GW260 := n2_; have GE260 := n3_; clear n0_ n1_ n2_ n3_; clear hb hbox hg; have hcz31_0 : w30.cell? ⟨gb260, 0, none⟩ = some (.int .i64 0) := (blk_cell BK260.out 0).trans rfl; have hcz31_1 : w30.cell? ⟨gb260, 1, none⟩ = some (.int .i64 0) := (blk_cell BK260.out 1).trans rfl; have hcz31_2 : w30.cell? ⟨gb260, 2, none⟩ = some (.int .i64 0) := (blk_cell BK260.out 2).trans rfl; have hfz31_0 := blk_frozen BK260.out 0; have hfz31_1 := blk_frozen BK260.out 1; have hfz31_2 := blk_frozen BK260.out 2) | ((with_reducible refine gate_callee (f := 70) rfl ?_); refine goesM_ (some 35) rfl rfl Tryd.func70 (by kernel_rfl) rfl #[.string a1] rfl ?_; (with_reducible refine (impl_Digits.calls k a1 false _ A23.out).mono ?_); rintro e w' ⟨rfl, ⟨nd, rfl⟩⟩; refine ⟨_, rfl, ?_⟩))
     go_ret
     exact ⟨by first | rfl | (simp [errW_none, errW_some] <;> rfl) | (simp [*, errW_none, errW_some] <;> rfl), bG⟩
   ·rw [if_neg c22] at H
    have c22b0 : (t258 == 3) = false := beq_eq_false_iff_ne.mpr c22
    have c22b1 : (t258 != 3) = true := bne_iff_ne.mpr c22
    have HC32 := Aside0.mk H
    clear H
    go_enter Tryd.func61, Tryd.ntmps61
    go_upto_if 43 with (first | ((with_reducible refine gate_callee (f := 103) rfl ?_); refine goesM_ (some 7) rfl rfl Tryd.func103 (by kernel_rfl) rfl #[.int .i64 a0] rfl ?_; (with_reducible refine (impl_rowOf.calls k a0 t257 t258 t259 _ A3.out).mono ?_); rintro e w33 ⟨rfl, hb⟩; refine ⟨_, rfl, ?_⟩; have n0_ := Aside0.mk (below_step bB hb); clear HB; have HB := n0_; clear n0_; (try clear hb); (try clear hb2); (try clear hk); (try clear hi)) | ((with_reducible refine gate_dst (N := 5) rfl ?_); (try (refine gate_guard (by rfl) ?_; dsimp only)); refine box_event ?hg (N := 5) ?hd (cs := #[.int .i64 0, .int .i64 0, .int .i64 0]) (t := 100) ?hr ?_; (case hd => rfl); (case hg => rfl); (case hr => first | (go_simp; done) | (go_simp; rfl)); intro gb260 hg w34 hbox hb; have n0_ := Aside0.mk (below_step bB hb); have n1_ := Aside0.mk (hbox); have n2_ := Aside0.mk ((by rw [hg]; exact (below_size bB) : w.heap.size ≤ gb260)); have n3_ := Aside0.mk ((by rw [hg]; exact (below_size bB) : w.heap.size ≤ gb260)); clear HB; have HB := n0_; have BK260 := n1_; have GW260 := n2_; have GE260 := n3_; clear n0_ n1_ n2_ n3_; clear hb hbox hg; have hcz35_0 : w34.cell? ⟨gb260, 0, none⟩ = some (.int .i64 0) := (blk_cell BK260.out 0).trans rfl; have hcz35_1 : w34.cell? ⟨gb260, 1, none⟩ = some (.int .i64 0) := (blk_cell BK260.out 1).trans rfl; have hcz35_2 : w34.cell? ⟨gb260, 2, none⟩ = some (.int .i64 0) := (blk_cell BK260.out 2).trans rfl; have hfz35_0 := blk_frozen BK260.out 0; have hfz35_1 := blk_frozen BK260.out 1; have hfz35_2 := blk_frozen BK260.out 2))
    (try simp only [Act.put, List.setIfInBounds_toArray, List.set_cons_zero, List.set_cons_succ])
    go_cut [43] (fun v43 wc => ∃ (kq : Nat) (x43_31 : Bool), v43 = .bool x43_31 ∧ Aside0 (impl_FieldOk.j0 kq a1 x43_31 t257 t258 t259 = some r) ∧ Aside0 (kq ≤ k) ∧ Aside0 (wc.heap[gb260]? = some (.cells #[.int .i64 t257, .int .i64 t258, .int .i64 t259] 100 (0, 0))) ∧ Aside0 (Below w.heap.size w wc))
    case first =>
     have H := HC32.out
     clear HC32
     by_cases c36 : t258 = 4
     ·rw [if_pos c36] at H
      have c36b0 : (t258 == 4) = true := beq_iff_eq.mpr c36
      have c36b1 : (t258 != 4) = false := bne_eq_false_iff_eq.mpr c36
      clear c36
      (first | rw [c36b0] | (simp only [i64_w, i32_w]; rw [c36b0]) | rw [c36b1] | (simp only [c36b1]) | skip)
      have H' := Aside0.mk H
      clear H
      go_wp2
      go_meet
      case rel => exact ⟨_, ((t258 == 4)), (by first | rfl | (simp; done) | (simp [*]; done) | (simp [i64_w, IntKind.wrap_u8, e256_]; done) | (simp; generalize ByteArray.toList _ = zz_; cases zz_ <;> rfl)), H', ⟨by first | omega | exact Nat.le_refl _⟩, ⟨by (with_reducible repeat (first | refine blk_drewN ?_ _ | refine blk_drew ?_ | refine blk_alloc ?_ _)); refine blk_put (cs := #[.int .i64 t257, .int .i64 t258, .int .i64 0]) ?_ 2 _ rfl; (with_reducible repeat (first | refine blk_drewN ?_ _ | refine blk_drew ?_ | refine blk_alloc ?_ _)); refine blk_put (cs := #[.int .i64 t257, .int .i64 0, .int .i64 0]) ?_ 1 _ rfl; (with_reducible repeat (first | refine blk_drewN ?_ _ | refine blk_drew ?_ | refine blk_alloc ?_ _)); refine blk_put (cs := #[.int .i64 0, .int .i64 0, .int .i64 0]) ?_ 0 _ rfl; (with_reducible repeat (first | refine blk_drewN ?_ _ | refine blk_drew ?_ | refine blk_alloc ?_ _)); exact BK260.out⟩, ⟨bG⟩⟩
     ·rw [if_neg c36] at H
      have c36b0 : (t258 == 4) = false := beq_eq_false_iff_ne.mpr c36
      have c36b1 : (t258 != 4) = true := bne_iff_ne.mpr c36
      (first | rw [c36b0] | (simp only [i64_w, i32_w]; rw [c36b0]) | rw [c36b1] | (simp only [c36b1]) | skip)
      have H' := Aside0.mk H
      clear H
      go_wp2
      go_meet
      case rel => exact ⟨_, ((t258 == 5)), (by first | rfl | (simp; done) | (simp [*]; done) | (simp [i64_w, IntKind.wrap_u8, e256_]; done) | (simp; generalize ByteArray.toList _ = zz_; cases zz_ <;> rfl)), H', ⟨by first | omega | exact Nat.le_refl _⟩, ⟨by (with_reducible repeat (first | refine blk_drewN ?_ _ | refine blk_drew ?_ | refine blk_alloc ?_ _)); refine blk_put (cs := #[.int .i64 t257, .int .i64 t258, .int .i64 0]) ?_ 2 _ rfl; (with_reducible repeat (first | refine blk_drewN ?_ _ | refine blk_drew ?_ | refine blk_alloc ?_ _)); refine blk_put (cs := #[.int .i64 t257, .int .i64 0, .int .i64 0]) ?_ 1 _ rfl; (with_reducible repeat (first | refine blk_drewN ?_ _ | refine blk_drew ?_ | refine blk_alloc ?_ _)); refine blk_put (cs := #[.int .i64 0, .int .i64 0, .int .i64 0]) ?_ 0 _ rfl; (with_reducible repeat (first | refine blk_drewN ?_ _ | refine blk_drew ?_ | refine blk_alloc ?_ _)); exact BK260.out⟩, ⟨bG⟩⟩
    case rest =>
     clear HC32
     try clear c1
     try clear c2
     try clear p2
     try clear c3
     try clear c4
     try clear c4b0
     try clear c4b1
     try clear c6
     try clear p6
     try clear c7
     try clear c10
     try clear c13
     try clear c13b0
     try clear c13b1
     try clear c15
     try clear c22
     try clear c22b0
     try clear c22b1
     try clear c24
     try clear c36
     try clear c36b0
     try clear c36b1
     try clear hcz12_0
     try clear hcz12_1
     try clear hcz12_2
     try clear hcz18_0
     try clear hcz18_1
     try clear hcz18_2
     try clear hcz21_0
     try clear hcz21_1
     try clear hcz21_2
     try clear hcz28_0
     try clear hcz28_1
     try clear hcz28_2
     try clear hcz31_0
     try clear hcz31_1
     try clear hcz31_2
     try clear hcz35_0
     try clear hcz35_1
     try clear hcz35_2
     try clear hcz9_0
     try clear hcz9_1
     try clear hcz9_2
     try clear hfz12_0
     try clear hfz12_1
     try clear hfz12_2
     try clear hfz18_0
     try clear hfz18_1
     try clear hfz18_2
     try clear hfz21_0
     try clear hfz21_1
     try clear hfz21_2
     try clear hfz28_0
     try clear hfz28_1
     try clear hfz28_2
     try clear hfz31_0
     try clear hfz31_1
     try clear hfz31_2
     try clear hfz35_0
     try clear hfz35_1
     try clear hfz35_2
     try clear hfz9_0
     try clear hfz9_1
     try clear hfz9_2
     obtain ⟨kq, x43_31, rfl, HA, HJ31, BK260, HB⟩ := hcut
     cases kq with
     | zero => exact absurd HA.out (by simp [impl_FieldOk.j0])
     | succ kj31 =>
      have H := HA.out
      clear HA
      simp only [impl_FieldOk.j0] at H
      by_cases c37 : x43_31 = true
      ·subst c37
       have H1 : ((impl_Printable.f kj31 a1).bind fun t265 => (if t265 = true then ((impl_within.f (a1.size : Int) 1 t259).bind fun t266 => (some t266)) else (some false))) = some r := by rw [if_pos rfl] at H; exact H
       clear H
       have H := H1
       clear H1
       replace H := Option.bind_eq_some_iff.mp H
       obtain ⟨t265, A380, H⟩ := H
       replace H : (if t265 = true then ((impl_within.f (a1.size : Int) 1 t259).bind fun t266 => (some t266)) else (some false)) = some r := H
       have A38 := Aside0.mk A380
       clear A380
       by_cases c39 : t265 = true
       ·subst c39
        have H1 : ((impl_within.f (a1.size : Int) 1 t259).bind fun t266 => (some t266)) = some r := by rw [if_pos rfl] at H; exact H
        clear H
        have H := H1
        clear H1
        replace H := Option.bind_eq_some_iff.mp H
        obtain ⟨t266, A400, H⟩ := H
        replace H : (some t266) = some r := H
        have A40 := Aside0.mk A400
        clear A400
        obtain rfl := Option.some.inj H
        go_wp2_with (first | ((with_reducible refine gate_callee (f := 104) rfl ?_); refine goesM_ (some 47) rfl rfl Tryd.func104 (by kernel_rfl) rfl #[.string a1] rfl ?_; (with_reducible refine (impl_Printable.calls kj31 a1 true _ A38.out).mono ?_); rintro e w' ⟨rfl, ⟨nd, rfl⟩⟩; refine ⟨_, rfl, ?_⟩; have hcz41_0 : wc.cell? ⟨gb260, 0, none⟩ = some (.int .i64 t257) := (blk_cell BK260.out 0).trans rfl; have hcz41_1 : wc.cell? ⟨gb260, 1, none⟩ = some (.int .i64 t258) := (blk_cell BK260.out 1).trans rfl; have hcz41_2 : wc.cell? ⟨gb260, 2, none⟩ = some (.int .i64 t259) := (blk_cell BK260.out 2).trans rfl; have hfz41_0 := blk_frozen BK260.out 0; have hfz41_1 := blk_frozen BK260.out 1; have hfz41_2 := blk_frozen BK260.out 2) | (go_at_call 67; (with_reducible refine (impl_within.calls (a1.size : Int) 1 t259 t266 _ A40.out).mono ?_); rintro e w' ⟨rfl, ⟨nd, rfl⟩⟩))
        go_ret
        exact ⟨by first | rfl | (simp [errW_none, errW_some] <;> rfl) | (simp [*, errW_none, errW_some] <;> rfl), bG⟩
       ·replace c39 := Bool.eq_false_iff.mpr c39
        subst c39
        have H1 : (some false) = some r := by rw [if_neg (show ¬ (false = true) by decide)] at H; exact H
        clear H
        have H := H1
        clear H1
        obtain rfl := Option.some.inj H
        go_wp2_with (first | ((with_reducible refine gate_callee (f := 104) rfl ?_); refine goesM_ (some 47) rfl rfl Tryd.func104 (by kernel_rfl) rfl #[.string a1] rfl ?_; (with_reducible refine (impl_Printable.calls kj31 a1 false _ A38.out).mono ?_); rintro e w' ⟨rfl, ⟨nd, rfl⟩⟩; refine ⟨_, rfl, ?_⟩))
        go_ret
        exact ⟨by first | rfl | (simp [errW_none, errW_some] <;> rfl) | (simp [*, errW_none, errW_some] <;> rfl), bG⟩
      ·replace c37 := Bool.eq_false_iff.mpr c37
       subst c37
       have H1 : (some false) = some r := by rw [if_neg (show ¬ (false = true) by decide)] at H; exact H
       clear H
       have H := H1
       clear H1
       obtain rfl := Option.some.inj H
       go_wp2
       go_ret
       exact ⟨by first | rfl | (simp [errW_none, errW_some] <;> rfl) | (simp [*, errW_none, errW_some] <;> rfl), bG⟩
attribute [local go_sem] max2_int min2_int max_two min_two max_three min_three max_four min_four
set_option linter.unusedVariables false
set_option linter.unusedSimpArgs false
def impl_FieldKind.f (k : Nat) (a0 : Int) : Option (Int) := (impl_rowOf.f k a0).bind fun bt267 => (some bt267.2.1)
set_option maxHeartbeats 8000000 in
set_option maxRecDepth 100000 in
theorem impl_FieldKind.calls (k : Nat) (a0 : Int) (r : Int) (w : World) (h : impl_FieldKind.f k a0 = some r) :
  Calls Tryd.prog 77 #[.int .i64 a0] w fun e w' => e = .returned (.int .i64 r) ∧ Below w.heap.size w w' := by
 have hfd100_1 : ∀ (x0_ x1_ x2_ : Value) (W : World), (Instr.field 100 (.agg #[x0_, x1_, x2_]) 1).run Tryd.prog W = .ok (x1_) W := fun _ _ _ _ => by kernel_rfl
 have HB := Aside0.mk (Below.refl w.heap.size w)
 have H : ((impl_rowOf.f k a0).bind fun bt267 => (some bt267.2.1)) = some r := h
 clear h
 replace H := Option.bind_eq_some_iff.mp H
 obtain ⟨⟨t267, t268, t269⟩, A20, H⟩ := H
 replace H : (some t268) = some r := H
 have A2 := Aside0.mk A20
 clear A20
 obtain rfl := Option.some.inj H
 go_enter Tryd.func77, Tryd.ntmps77
 go_wp2_with (first | ((with_reducible refine gate_callee (f := 103) rfl ?_); refine goesM_ (some 4) rfl rfl Tryd.func103 (by kernel_rfl) rfl #[.int .i64 a0] rfl ?_; (with_reducible refine (impl_rowOf.calls k a0 t267 t268 t269 _ A2.out).mono ?_); rintro e w3 ⟨rfl, hb⟩; refine ⟨_, rfl, ?_⟩; have n0_ := Aside0.mk (below_step bB hb); clear HB; have HB := n0_; clear n0_; (try clear hb); (try clear hb2); (try clear hk); (try clear hi)))
 go_ret
 exact ⟨by first | rfl | (simp [errW_none, errW_some] <;> rfl) | (simp [*, errW_none, errW_some] <;> rfl), bB⟩
def impl_lenDigits.f (k : Nat) (a0 : Int) : Option (Int) := (impl_FieldKind.f k a0).bind fun t270 => (if t270 = 5 then (some 3) else (some 2))
set_option maxHeartbeats 8000000 in
set_option maxRecDepth 100000 in
theorem impl_lenDigits.calls (k : Nat) (a0 : Int) (r : Int) (w : World) (h : impl_lenDigits.f k a0 = some r) :
  Calls Tryd.prog 78 #[.int .i64 a0] w fun e w' => e = .returned (.int .i64 r) ∧ Below w.heap.size w w' := by
 have HB := Aside0.mk (Below.refl w.heap.size w)
 have H : ((impl_FieldKind.f k a0).bind fun t270 => (if t270 = 5 then (some 3) else (some 2))) = some r := h
 clear h
 replace H := Option.bind_eq_some_iff.mp H
 obtain ⟨t270, A20, H⟩ := H
 replace H : (if t270 = 5 then (some 3) else (some 2)) = some r := H
 have A2 := Aside0.mk A20
 clear A20
 by_cases c3 : t270 = 5
 ·rw [if_pos c3] at H
  have c3b0 : (t270 == 5) = true := beq_iff_eq.mpr c3
  have c3b1 : (t270 != 5) = false := bne_eq_false_iff_eq.mpr c3
  clear c3
  obtain rfl := Option.some.inj H
  go_enter Tryd.func78, Tryd.ntmps78
  go_wp2_with (first | ((with_reducible refine gate_callee (f := 77) rfl ?_); refine goesM_ (some 4) rfl rfl Tryd.func77 (by kernel_rfl) rfl #[.int .i64 a0] rfl ?_; (with_reducible refine (impl_FieldKind.calls k a0 t270 _ A2.out).mono ?_); rintro e w4 ⟨rfl, hb⟩; refine ⟨_, rfl, ?_⟩; have n0_ := Aside0.mk (below_step bB hb); clear HB; have HB := n0_; clear n0_; (try clear hb); (try clear hb2); (try clear hk); (try clear hi)))
  go_ret
  exact ⟨by first | rfl | (simp [errW_none, errW_some] <;> rfl) | (simp [*, errW_none, errW_some] <;> rfl), bB⟩
 ·rw [if_neg c3] at H
  have c3b0 : (t270 == 5) = false := beq_eq_false_iff_ne.mpr c3
  have c3b1 : (t270 != 5) = true := bne_iff_ne.mpr c3
  obtain rfl := Option.some.inj H
  go_enter Tryd.func78, Tryd.ntmps78
  go_wp2_with (first | ((with_reducible refine gate_callee (f := 77) rfl ?_); refine goesM_ (some 4) rfl rfl Tryd.func77 (by kernel_rfl) rfl #[.int .i64 a0] rfl ?_; (with_reducible refine (impl_FieldKind.calls k a0 t270 _ A2.out).mono ?_); rintro e w5 ⟨rfl, hb⟩; refine ⟨_, rfl, ?_⟩; have n0_ := Aside0.mk (below_step bB hb); clear HB; have HB := n0_; clear n0_; (try clear hb); (try clear hb2); (try clear hk); (try clear hi)))
  go_ret
  exact ⟨by first | rfl | (simp [errW_none, errW_some] <;> rfl) | (simp [*, errW_none, errW_some] <;> rfl), bB⟩
attribute [local go_sem] max2_int min2_int max_two min_two max_three min_three max_four min_four
set_option linter.unusedVariables false
set_option linter.unusedSimpArgs false
def impl_FieldSize.f (k : Nat) (a0 : Int) : Option (Int) := (impl_rowOf.f k a0).bind fun bt294 => (some bt294.2.2)
set_option maxHeartbeats 8000000 in
set_option maxRecDepth 100000 in
theorem impl_FieldSize.calls (k : Nat) (a0 : Int) (r : Int) (w : World) (h : impl_FieldSize.f k a0 = some r) :
  Calls Tryd.prog 82 #[.int .i64 a0] w fun e w' => e = .returned (.int .i64 r) ∧ Below w.heap.size w w' := by
 have hfd100_2 : ∀ (x0_ x1_ x2_ : Value) (W : World), (Instr.field 100 (.agg #[x0_, x1_, x2_]) 2).run Tryd.prog W = .ok (x2_) W := fun _ _ _ _ => by kernel_rfl
 have HB := Aside0.mk (Below.refl w.heap.size w)
 have H : ((impl_rowOf.f k a0).bind fun bt294 => (some bt294.2.2)) = some r := h
 clear h
 replace H := Option.bind_eq_some_iff.mp H
 obtain ⟨⟨t294, t295, t296⟩, A20, H⟩ := H
 replace H : (some t296) = some r := H
 have A2 := Aside0.mk A20
 clear A20
 obtain rfl := Option.some.inj H
 go_enter Tryd.func82, Tryd.ntmps82
 go_wp2_with (first | ((with_reducible refine gate_callee (f := 103) rfl ?_); refine goesM_ (some 4) rfl rfl Tryd.func103 (by kernel_rfl) rfl #[.int .i64 a0] rfl ?_; (with_reducible refine (impl_rowOf.calls k a0 t294 t295 t296 _ A2.out).mono ?_); rintro e w3 ⟨rfl, hb⟩; refine ⟨_, rfl, ?_⟩; have n0_ := Aside0.mk (below_step bB hb); clear HB; have HB := n0_; clear n0_; (try clear hb); (try clear hb2); (try clear hk); (try clear hi)))
 go_ret
 exact ⟨by first | rfl | (simp [errW_none, errW_some] <;> rfl) | (simp [*, errW_none, errW_some] <;> rfl), bB⟩
attribute [local go_sem] max2_int min2_int max_two min_two max_three min_three max_four min_four
set_option linter.unusedVariables false
set_option linter.unusedSimpArgs false
mutual
def impl_GetField.j0 : Nat → List Int → Int → Int → Int → Int → Bool → Bool → Option (ByteArray × Int × Bool)
 | 0, _, _, _, _, _, _, _ => none
 | k + 1, x0, x1, x2, x9, x11, x12, x27 => if x27 = true then ((impl_lenDigits.f k x2).bind fun t299 => ((impl_GetLen.f k x0 x1 t299).bind fun bt300 => (impl_GetField.j1 k x0 bt300.2.1 x2 bt300.1 x11 bt300.2.2))) else (impl_GetField.j1 k x0 x1 x2 x9 x11 x12)
def impl_GetField.j1 : Nat → List Int → Int → Int → Int → Int → Bool → Option (ByteArray × Int × Bool)
 | 0, _, _, _, _, _, _ => none
 | k + 1, x0, x1, x2, x9, x11, x12 => if x12 = true then (if x11 = 1 then (impl_GetField.j2 k x0 x1 x2 x9 true) else (impl_GetField.j2 k x0 x1 x2 x9 (x11 == 3))) else (some ((⟨#[]⟩ : ByteArray), 0, false))
def impl_GetField.j2 : Nat → List Int → Int → Int → Int → Bool → Option (ByteArray × Int × Bool)
 | 0, _, _, _, _, _ => none
 | k + 1, x0, x1, x2, x9, x44 => if x44 = true then ((impl_GetBcd.f k x0 x1 x9).bind fun bt303 => (if bt303.2.2 = true then ((impl_FieldOk.f k x2 bt303.1).bind fun t306 => (if t306 = true then (some (bt303.1, bt303.2.1, true)) else (some ((⟨#[]⟩ : ByteArray), 0, false)))) else (some ((⟨#[]⟩ : ByteArray), 0, false)))) else ((impl_piece.f x0 x1 x9).bind fun bt307 => (if bt307.2 = true then ((impl_FieldOk.f k x2 (strOfNums bt307.1)).bind fun t311 => (if t311 = true then (some (strOfNums bt307.1, wrap64 (x1 + x9), true)) else (some ((⟨#[]⟩ : ByteArray), 0, false)))) else (some ((⟨#[]⟩ : ByteArray), 0, false))))
end
def impl_GetField.f (k : Nat) (l0 : List Int) (a1 : Int) (a2 : Int) : Option (ByteArray × Int × Bool) := (impl_FieldSize.f k a2).bind fun t297 => ((impl_FieldKind.f k a2).bind fun t298 => (if t298 = 3 then (impl_GetField.j0 k l0 a1 a2 t297 t298 true true) else (if t298 = 4 then (impl_GetField.j0 k l0 a1 a2 t297 t298 true true) else (impl_GetField.j0 k l0 a1 a2 t297 t298 true (t298 == 5)))))
set_option maxHeartbeats 8000000 in
set_option maxRecDepth 100000 in
theorem impl_GetField.calls (k : Nat) (A0 : Option Addr) (c0 : Nat) (l0 : List Int) (a1 : Int) (a2 : Int) (r1 : ByteArray) (r2 : Int) (r3 : Bool) (w : World) (hr0 : Kd.C (Kd.int .u8) w A0 l0.length l0) (hc0 : l0.length ≤ c0) (hG : GLW w) (h : impl_GetField.f k l0 a1 a2 = some (r1, r2, r3)) :
  Calls Tryd.prog 36 #[.slice A0 l0.length c0, .int .i64 a1, .int .i64 a2] w fun e w' => e = .returned (.tuple #[.string r1, .int .i64 r2, .bool r3]) ∧ Below w.heap.size w w' := by
 have HR0 := Aside0.mk hr0
 have HC0 := Aside0.mk hc0
 clear hr0 hc0
 have HB := Aside0.mk (Below.refl w.heap.size w)
 have HG := Aside0.mk hG
 clear hG
 have H : ((impl_FieldSize.f k a2).bind fun t297 => ((impl_FieldKind.f k a2).bind fun t298 => (if t298 = 3 then (impl_GetField.j0 k l0 a1 a2 t297 t298 true true) else (if t298 = 4 then (impl_GetField.j0 k l0 a1 a2 t297 t298 true true) else (impl_GetField.j0 k l0 a1 a2 t297 t298 true (t298 == 5)))))) = some (r1, r2, r3) := h
 clear h
 replace H := Option.bind_eq_some_iff.mp H
 obtain ⟨t297, A40, H⟩ := H
 replace H : ((impl_FieldKind.f k a2).bind fun t298 => (if t298 = 3 then (impl_GetField.j0 k l0 a1 a2 t297 t298 true true) else (if t298 = 4 then (impl_GetField.j0 k l0 a1 a2 t297 t298 true true) else (impl_GetField.j0 k l0 a1 a2 t297 t298 true (t298 == 5))))) = some (r1, r2, r3) := H
 have A4 := Aside0.mk A40
 clear A40
 replace H := Option.bind_eq_some_iff.mp H
 obtain ⟨t298, A50, H⟩ := H
 replace H : (if t298 = 3 then (impl_GetField.j0 k l0 a1 a2 t297 t298 true true) else (if t298 = 4 then (impl_GetField.j0 k l0 a1 a2 t297 t298 true true) else (impl_GetField.j0 k l0 a1 a2 t297 t298 true (t298 == 5)))) = some (r1, r2, r3) := H
 have A5 := Aside0.mk A50
 clear A50
 have HC6 := Aside0.mk H
 clear H
 go_enter Tryd.func36, Tryd.ntmps36
 go_upto_region 2 with (first | ((with_reducible refine gate_callee (f := 82) rfl ?_); refine goesM_ (some 15) rfl rfl Tryd.func82 (by kernel_rfl) rfl #[.int .i64 a2] rfl ?_; (with_reducible refine (impl_FieldSize.calls k a2 t297 _ A4.out).mono ?_); rintro e w7 ⟨rfl, hb⟩; refine ⟨_, rfl, ?_⟩; have n0_ := Aside0.mk (below_step bB hb); clear HB; have HB := n0_; clear n0_; (try clear hb); (try clear hb2); (try clear hk); (try clear hi)) | ((with_reducible refine gate_callee (f := 77) rfl ?_); refine goesM_ (some 17) rfl rfl Tryd.func77 (by kernel_rfl) rfl #[.int .i64 a2] rfl ?_; (with_reducible refine (impl_FieldKind.calls k a2 t298 _ A5.out).mono ?_); rintro e w8 ⟨rfl, hb⟩; refine ⟨_, rfl, ?_⟩; have n0_ := Aside0.mk (below_step bB hb); clear HB; have HB := n0_; clear n0_; (try clear hb); (try clear hb2); (try clear hk); (try clear hi)))
 (try simp only [Act.put, List.setIfInBounds_toArray, List.set_cons_zero, List.set_cons_succ])
 go_cut [27] (fun v27 wc => ∃ (kq : Nat) (x27_5 : Bool), v27 = .bool x27_5 ∧ Aside0 (impl_GetField.j0 kq l0 a1 a2 t297 t298 true x27_5 = some (r1, r2, r3)) ∧ Aside0 (kq ≤ k) ∧ Aside0 (Below w.heap.size w wc))
 case first =>
  have H := HC6.out
  clear HC6
  by_cases c9 : t298 = 3
  ·rw [if_pos c9] at H
   have c9b0 : (t298 == 3) = true := beq_iff_eq.mpr c9
   have c9b1 : (t298 != 3) = false := bne_eq_false_iff_eq.mpr c9
   clear c9
   (first | rw [c9b0] | (simp only [i64_w, i32_w]; rw [c9b0]) | rw [c9b1] | (simp only [c9b1]) | skip)
   have H' := Aside0.mk H
   clear H
   go_wp2
   go_meet
   case rel => exact ⟨_, (true), (by first | rfl | (simp; done) | (simp [*]; done) | (simp [i64_w, IntKind.wrap_u8, e256_]; done) | (simp; generalize ByteArray.toList _ = zz_; cases zz_ <;> rfl)), H', ⟨by first | omega | exact Nat.le_refl _⟩, ⟨bB⟩⟩
  ·rw [if_neg c9] at H
   have c9b0 : (t298 == 3) = false := beq_eq_false_iff_ne.mpr c9
   have c9b1 : (t298 != 3) = true := bne_iff_ne.mpr c9
   (first | rw [c9b0] | (simp only [i64_w, i32_w]; rw [c9b0]) | rw [c9b1] | (simp only [c9b1]) | skip)
   by_cases c10 : t298 = 4
   ·rw [if_pos c10] at H
    have c10b0 : (t298 == 4) = true := beq_iff_eq.mpr c10
    have c10b1 : (t298 != 4) = false := bne_eq_false_iff_eq.mpr c10
    clear c10
    have H' := Aside0.mk H
    clear H
    go_wp2
    go_meet
    case rel => exact ⟨_, (true), (by first | rfl | (simp; done) | (simp [*]; done) | (simp [i64_w, IntKind.wrap_u8, e256_]; done) | (simp; generalize ByteArray.toList _ = zz_; cases zz_ <;> rfl)), H', ⟨by first | omega | exact Nat.le_refl _⟩, ⟨bB⟩⟩
   ·rw [if_neg c10] at H
    have c10b0 : (t298 == 4) = false := beq_eq_false_iff_ne.mpr c10
    have c10b1 : (t298 != 4) = true := bne_iff_ne.mpr c10
    have H' := Aside0.mk H
    clear H
    go_wp2
    go_meet
    case rel => exact ⟨_, ((t298 == 5)), (by first | rfl | (simp; done) | (simp [*]; done) | (simp [i64_w, IntKind.wrap_u8, e256_]; done) | (simp; generalize ByteArray.toList _ = zz_; cases zz_ <;> rfl)), H', ⟨by first | omega | exact Nat.le_refl _⟩, ⟨bB⟩⟩
 case rest =>
  clear HC6
  try clear c1
  try clear p2
  try clear c3
  try clear p6
  try clear c7
  try clear c8
  try clear c9
  try clear c9b0
  try clear c9b1
  try clear c10
  try clear c10b0
  try clear c10b1
  obtain ⟨kq, x27_5, rfl, HA, HJ5, HB⟩ := hcut
  cases kq with
  | zero => exact absurd HA.out (by simp [impl_GetField.j0])
  | succ kj5 =>
   have H := HA.out
   clear HA
   simp only [impl_GetField.j0] at H
   have HC11 := Aside0.mk H
   clear H
   go_upto_if 27 with (fail)
   go_cut [1, 9, 12] (fun v1 v9 v12 wc => ∃ (kq : Nat) (x1_10 : Int) (x9_10 : Int) (x12_10 : Bool), v1 = .int .i64 x1_10 ∧ v9 = .int .i64 x9_10 ∧ v12 = .bool x12_10 ∧ Aside0 (impl_GetField.j1 kq l0 x1_10 a2 x9_10 t298 x12_10 = some (r1, r2, r3)) ∧ Aside0 (kq ≤ kj5) ∧ Aside0 (Below w.heap.size w wc))
   case first =>
    have H := HC11.out
    clear HC11
    by_cases c12 : x27_5 = true
    ·subst c12
     have H1 : ((impl_lenDigits.f kj5 a2).bind fun t299 => ((impl_GetLen.f kj5 l0 a1 t299).bind fun bt300 => (impl_GetField.j1 kj5 l0 bt300.2.1 a2 bt300.1 t298 bt300.2.2))) = some (r1, r2, r3) := by rw [if_pos rfl] at H; exact H
     clear H
     have H := H1
     clear H1
     replace H := Option.bind_eq_some_iff.mp H
     obtain ⟨t299, A130, H⟩ := H
     replace H : ((impl_GetLen.f kj5 l0 a1 t299).bind fun bt300 => (impl_GetField.j1 kj5 l0 bt300.2.1 a2 bt300.1 t298 bt300.2.2)) = some (r1, r2, r3) := H
     have A13 := Aside0.mk A130
     clear A130
     replace H := Option.bind_eq_some_iff.mp H
     obtain ⟨⟨t300, t301, t302⟩, A140, H⟩ := H
     replace H : (impl_GetField.j1 kj5 l0 t301 a2 t300 t298 t302) = some (r1, r2, r3) := H
     have A14 := Aside0.mk A140
     clear A140
     have H' := Aside0.mk H
     clear H
     go_wp2_with (first | ((with_reducible refine gate_callee (f := 78) rfl ?_); refine goesM_ (some 32) rfl rfl Tryd.func78 (by kernel_rfl) rfl #[.int .i64 a2] rfl ?_; (with_reducible refine (impl_lenDigits.calls kj5 a2 t299 _ A13.out).mono ?_); rintro e w15 ⟨rfl, hb⟩; refine ⟨_, rfl, ?_⟩; have n0_ := Aside0.mk (below_step bB hb); clear HB; have HB := n0_; clear n0_; (try clear hb); (try clear hb2); (try clear hk); (try clear hi)) | ((with_reducible refine gate_callee (f := 32) rfl ?_); refine goesM_ (some 33) rfl rfl Tryd.func32 (by kernel_rfl) rfl #[.slice A0 l0.length c0, .int .i64 a1, .int .i64 t299] rfl ?_; (with_reducible refine (impl_GetLen.calls kj5 _ _ l0 a1 t299 t300 t301 t302 _ ?side1 ?side2 ?side3 A14.out).mono ?_); (case side1 => repeat (first | exact (Kd.C_below HR0.out HB.out) | (with_reducible refine Kd.C_alloc ?_ _) | (with_reducible refine Kd.C_drewN ?_ _) | (with_reducible refine Kd.C_drew ?_))); (case side2 => exact HC0.out); (case side3 => exact GLW_below HG.out bB); rintro e w16 ⟨rfl, hb⟩; refine ⟨_, rfl, ?_⟩; have n0_ := Aside0.mk (below_step bB hb); clear HB; have HB := n0_; clear n0_; (try clear hb); (try clear hb2); (try clear hk); (try clear hi)))
     go_meet
     case rel => exact ⟨_, (t301), (t300), (t302), (by first | rfl | (simp; done) | (simp [*]; done) | (simp [i64_w, IntKind.wrap_u8, e256_]; done) | (simp; generalize ByteArray.toList _ = zz_; cases zz_ <;> rfl)), (by first | rfl | (simp; done) | (simp [*]; done) | (simp [i64_w, IntKind.wrap_u8, e256_]; done) | (simp; generalize ByteArray.toList _ = zz_; cases zz_ <;> rfl)), (by first | rfl | (simp; done) | (simp [*]; done) | (simp [i64_w, IntKind.wrap_u8, e256_]; done) | (simp; generalize ByteArray.toList _ = zz_; cases zz_ <;> rfl)), H', ⟨by have := HJ5.out; first | omega | exact Nat.le_refl _⟩, ⟨bB⟩⟩
    ·replace c12 := Bool.eq_false_iff.mpr c12
     subst c12
     have H1 : (impl_GetField.j1 kj5 l0 a1 a2 t297 t298 true) = some (r1, r2, r3) := by rw [if_neg (show ¬ (false = true) by decide)] at H; exact H
     clear H
     have H := H1
     clear H1
     have H' := Aside0.mk H
     clear H
     go_wp2
     go_meet
     case rel => exact ⟨_, (a1), (t297), (true), (by first | rfl | (simp; done) | (simp [*]; done) | (simp [i64_w, IntKind.wrap_u8, e256_]; done) | (simp; generalize ByteArray.toList _ = zz_; cases zz_ <;> rfl)), (by first | rfl | (simp; done) | (simp [*]; done) | (simp [i64_w, IntKind.wrap_u8, e256_]; done) | (simp; generalize ByteArray.toList _ = zz_; cases zz_ <;> rfl)), (by first | rfl | (simp; done) | (simp [*]; done) | (simp [i64_w, IntKind.wrap_u8, e256_]; done) | (simp; generalize ByteArray.toList _ = zz_; cases zz_ <;> rfl)), H', ⟨by have := HJ5.out; first | omega | exact Nat.le_refl _⟩, ⟨bB⟩⟩
   case rest =>
    clear HC11
    try clear c1
    try clear p2
    try clear c3
    try clear p6
    try clear c7
    try clear c8
    try clear c9
    try clear c9b0
    try clear c9b1
    try clear c10
    try clear c10b0
    try clear c10b1
    try clear c12
    try clear p2
    try clear p6
    obtain ⟨kq, x1_10, x9_10, x12_10, rfl, rfl, rfl, HA, HJ10, HB⟩ := hcut
    cases kq with
    | zero => exact absurd HA.out (by simp [impl_GetField.j1])
    | succ kj10 =>
     have H := HA.out
     clear HA
     simp only [impl_GetField.j1] at H
     by_cases c17 : x12_10 = true
     ·subst c17
      have H1 : (if t298 = 1 then (impl_GetField.j2 kj10 l0 x1_10 a2 x9_10 true) else (impl_GetField.j2 kj10 l0 x1_10 a2 x9_10 (t298 == 3))) = some (r1, r2, r3) := by rw [if_pos rfl] at H; exact H
      clear H
      have H := H1
      clear H1
      have HC18 := Aside0.mk H
      clear H
      go_upto_region 6 with (fail)
      go_cut [44] (fun v44 wc => ∃ (kq : Nat) (x44_17 : Bool), v44 = .bool x44_17 ∧ Aside0 (impl_GetField.j2 kq l0 x1_10 a2 x9_10 x44_17 = some (r1, r2, r3)) ∧ Aside0 (kq ≤ kj10) ∧ Aside0 (Below w.heap.size w wc))
      case first =>
       have H := HC18.out
       clear HC18
       by_cases c19 : t298 = 1
       ·rw [if_pos c19] at H
        have c19b0 : (t298 == 1) = true := beq_iff_eq.mpr c19
        have c19b1 : (t298 != 1) = false := bne_eq_false_iff_eq.mpr c19
        clear c19
        (first | rw [c19b0] | (simp only [i64_w, i32_w]; rw [c19b0]) | rw [c19b1] | (simp only [c19b1]) | skip)
        have H' := Aside0.mk H
        clear H
        go_wp2
        go_meet
        case rel => exact ⟨_, (true), (by first | rfl | (simp; done) | (simp [*]; done) | (simp [i64_w, IntKind.wrap_u8, e256_]; done) | (simp; generalize ByteArray.toList _ = zz_; cases zz_ <;> rfl)), H', ⟨by have := HJ5.out; have := HJ10.out; first | omega | exact Nat.le_refl _⟩, ⟨bB⟩⟩
       ·rw [if_neg c19] at H
        have c19b0 : (t298 == 1) = false := beq_eq_false_iff_ne.mpr c19
        have c19b1 : (t298 != 1) = true := bne_iff_ne.mpr c19
        (first | rw [c19b0] | (simp only [i64_w, i32_w]; rw [c19b0]) | rw [c19b1] | (simp only [c19b1]) | skip)
        have H' := Aside0.mk H
        clear H
        go_wp2
        go_meet
        case rel => exact ⟨_, ((t298 == 3)), (by first | rfl | (simp; done) | (simp [*]; done) | (simp [i64_w, IntKind.wrap_u8, e256_]; done) | (simp; generalize ByteArray.toList _ = zz_; cases zz_ <;> rfl)), H', ⟨by have := HJ5.out; have := HJ10.out; first | omega | exact Nat.le_refl _⟩, ⟨bB⟩⟩
      case rest =>
       clear HC18
       try clear c1
       try clear p2
       try clear c3
       try clear p6
       try clear c7
       try clear c8
       try clear c9
       try clear c9b0
       try clear c9b1
       try clear c10
       try clear c10b0
       try clear c10b1
       try clear c12
       try clear c17
       try clear c19
       try clear c19b0
       try clear c19b1
       try clear p2
       try clear p6
       obtain ⟨kq, x44_17, rfl, HA, HJ17, HB⟩ := hcut
       cases kq with
       | zero => exact absurd HA.out (by simp [impl_GetField.j2])
       | succ kj17 =>
        have H := HA.out
        clear HA
        simp only [impl_GetField.j2] at H
        by_cases c20 : x44_17 = true
        ·subst c20
         have H1 : ((impl_GetBcd.f kj17 l0 x1_10 x9_10).bind fun bt303 => (if bt303.2.2 = true then ((impl_FieldOk.f kj17 a2 bt303.1).bind fun t306 => (if t306 = true then (some (bt303.1, bt303.2.1, true)) else (some ((⟨#[]⟩ : ByteArray), 0, false)))) else (some ((⟨#[]⟩ : ByteArray), 0, false)))) = some (r1, r2, r3) := by rw [if_pos rfl] at H; exact H
         clear H
         have H := H1
         clear H1
         replace H := Option.bind_eq_some_iff.mp H
         obtain ⟨⟨t303, t304, t305⟩, A210, H⟩ := H
         replace H : (if t305 = true then ((impl_FieldOk.f kj17 a2 t303).bind fun t306 => (if t306 = true then (some (t303, t304, true)) else (some ((⟨#[]⟩ : ByteArray), 0, false)))) else (some ((⟨#[]⟩ : ByteArray), 0, false))) = some (r1, r2, r3) := H
         have A21 := Aside0.mk A210
         clear A210
         by_cases c22 : t305 = true
         ·subst c22
          have H1 : ((impl_FieldOk.f kj17 a2 t303).bind fun t306 => (if t306 = true then (some (t303, t304, true)) else (some ((⟨#[]⟩ : ByteArray), 0, false)))) = some (r1, r2, r3) := by rw [if_pos rfl] at H; exact H
          clear H
          have H := H1
          clear H1
          replace H := Option.bind_eq_some_iff.mp H
          obtain ⟨t306, A230, H⟩ := H
          replace H : (if t306 = true then (some (t303, t304, true)) else (some ((⟨#[]⟩ : ByteArray), 0, false))) = some (r1, r2, r3) := H
          have A23 := Aside0.mk A230
          clear A230
          by_cases c24 : t306 = true
          ·subst c24
           have H1 : (some (t303, t304, true)) = some (r1, r2, r3) := by rw [if_pos rfl] at H; exact H
           clear H
           have H := H1
           clear H1
           simp only [Option.some.injEq, Prod.mk.injEq] at H
           obtain ⟨rfl, rfl, rfl⟩ := H
           go_wp2_with (first | ((with_reducible refine gate_callee (f := 52) rfl ?_); refine goesM_ (some 49) rfl rfl Tryd.func52 (by kernel_rfl) rfl #[.slice A0 l0.length c0, .int .i64 x1_10, .int .i64 x9_10] rfl ?_; (with_reducible refine (impl_GetBcd.calls kj17 _ _ l0 x1_10 x9_10 t303 t304 true _ ?side1 ?side2 A21.out).mono ?_); (case side1 => repeat (first | exact (Kd.C_below HR0.out HB.out) | (with_reducible refine Kd.C_alloc ?_ _) | (with_reducible refine Kd.C_drewN ?_ _) | (with_reducible refine Kd.C_drew ?_))); (case side2 => exact HC0.out); rintro e w25 ⟨rfl, hb⟩; refine ⟨_, rfl, ?_⟩; have n0_ := Aside0.mk (below_step bB hb); clear HB; have HB := n0_; clear n0_; (try clear hb); (try clear hb2); (try clear hk); (try clear hi)) | (go_at_call 61; (with_reducible refine (impl_FieldOk.calls kj17 a2 t303 true _ A23.out).mono ?_); rintro e w26 ⟨rfl, hb⟩; have n0_ := Aside0.mk (below_step bB hb); clear HB; have HB := n0_; clear n0_; (try clear hb); (try clear hb2); (try clear hk); (try clear hi)))
           go_ret3
           exact ⟨by first | rfl | (simp [errW_none, errW_some] <;> rfl) | (simp [*, errW_none, errW_some] <;> rfl), bB⟩
          ·replace c24 := Bool.eq_false_iff.mpr c24
           subst c24
           have H1 : (some ((⟨#[]⟩ : ByteArray), 0, false)) = some (r1, r2, r3) := by rw [if_neg (show ¬ (false = true) by decide)] at H; exact H
           clear H
           have H := H1
           clear H1
           simp only [Option.some.injEq, Prod.mk.injEq] at H
           obtain ⟨rfl, rfl, rfl⟩ := H
           go_wp2_with (first | ((with_reducible refine gate_callee (f := 52) rfl ?_); refine goesM_ (some 49) rfl rfl Tryd.func52 (by kernel_rfl) rfl #[.slice A0 l0.length c0, .int .i64 x1_10, .int .i64 x9_10] rfl ?_; (with_reducible refine (impl_GetBcd.calls kj17 _ _ l0 x1_10 x9_10 t303 t304 true _ ?side1 ?side2 A21.out).mono ?_); (case side1 => repeat (first | exact (Kd.C_below HR0.out HB.out) | (with_reducible refine Kd.C_alloc ?_ _) | (with_reducible refine Kd.C_drewN ?_ _) | (with_reducible refine Kd.C_drew ?_))); (case side2 => exact HC0.out); rintro e w27 ⟨rfl, hb⟩; refine ⟨_, rfl, ?_⟩; have n0_ := Aside0.mk (below_step bB hb); clear HB; have HB := n0_; clear n0_; (try clear hb); (try clear hb2); (try clear hk); (try clear hi)) | (go_at_call 61; (with_reducible refine (impl_FieldOk.calls kj17 a2 t303 false _ A23.out).mono ?_); rintro e w28 ⟨rfl, hb⟩; have n0_ := Aside0.mk (below_step bB hb); clear HB; have HB := n0_; clear n0_; (try clear hb); (try clear hb2); (try clear hk); (try clear hi)))
           go_ret3
           exact ⟨by first | rfl | (simp [errW_none, errW_some] <;> rfl) | (simp [*, errW_none, errW_some] <;> rfl), bB⟩
         ·replace c22 := Bool.eq_false_iff.mpr c22
          subst c22
          have H1 : (some ((⟨#[]⟩ : ByteArray), 0, false)) = some (r1, r2, r3) := by rw [if_neg (show ¬ (false = true) by decide)] at H; exact H
          clear H
          have H := H1
          clear H1
          simp only [Option.some.injEq, Prod.mk.injEq] at H
          obtain ⟨rfl, rfl, rfl⟩ := H
          go_wp2_with (first | ((with_reducible refine gate_callee (f := 52) rfl ?_); refine goesM_ (some 49) rfl rfl Tryd.func52 (by kernel_rfl) rfl #[.slice A0 l0.length c0, .int .i64 x1_10, .int .i64 x9_10] rfl ?_; (with_reducible refine (impl_GetBcd.calls kj17 _ _ l0 x1_10 x9_10 t303 t304 false _ ?side1 ?side2 A21.out).mono ?_); (case side1 => repeat (first | exact (Kd.C_below HR0.out HB.out) | (with_reducible refine Kd.C_alloc ?_ _) | (with_reducible refine Kd.C_drewN ?_ _) | (with_reducible refine Kd.C_drew ?_))); (case side2 => exact HC0.out); rintro e w29 ⟨rfl, hb⟩; refine ⟨_, rfl, ?_⟩; have n0_ := Aside0.mk (below_step bB hb); clear HB; have HB := n0_; clear n0_; (try clear hb); (try clear hb2); (try clear hk); (try clear hi)))
          go_ret3
          exact ⟨by first | rfl | (simp [errW_none, errW_some] <;> rfl) | (simp [*, errW_none, errW_some] <;> rfl), bB⟩
        ·replace c20 := Bool.eq_false_iff.mpr c20
         subst c20
         have H1 : ((impl_piece.f l0 x1_10 x9_10).bind fun bt307 => (if bt307.2 = true then ((impl_FieldOk.f kj17 a2 (strOfNums bt307.1)).bind fun t311 => (if t311 = true then (some (strOfNums bt307.1, wrap64 (x1_10 + x9_10), true)) else (some ((⟨#[]⟩ : ByteArray), 0, false)))) else (some ((⟨#[]⟩ : ByteArray), 0, false)))) = some (r1, r2, r3) := by rw [if_neg (show ¬ (false = true) by decide)] at H; exact H
         clear H
         have H := H1
         clear H1
         replace H := Option.bind_eq_some_iff.mp H
         obtain ⟨⟨t307, t308⟩, A300, H⟩ := H
         replace H : (if t308 = true then ((impl_FieldOk.f kj17 a2 (strOfNums t307)).bind fun t311 => (if t311 = true then (some (strOfNums t307, wrap64 (x1_10 + x9_10), true)) else (some ((⟨#[]⟩ : ByteArray), 0, false)))) else (some ((⟨#[]⟩ : ByteArray), 0, false))) = some (r1, r2, r3) := H
         have A30 := Aside0.mk A300
         clear A300
         by_cases c31 : t308 = true
         ·subst c31
          have H1 : ((impl_FieldOk.f kj17 a2 (strOfNums t307)).bind fun t311 => (if t311 = true then (some (strOfNums t307, wrap64 (x1_10 + x9_10), true)) else (some ((⟨#[]⟩ : ByteArray), 0, false)))) = some (r1, r2, r3) := by rw [if_pos rfl] at H; exact H
          clear H
          have H := H1
          clear H1
          replace H := Option.bind_eq_some_iff.mp H
          obtain ⟨t311, A320, H⟩ := H
          replace H : (if t311 = true then (some (strOfNums t307, wrap64 (x1_10 + x9_10), true)) else (some ((⟨#[]⟩ : ByteArray), 0, false))) = some (r1, r2, r3) := H
          have A32 := Aside0.mk A320
          clear A320
          by_cases c33 : t311 = true
          ·subst c33
           have H1 : (some (strOfNums t307, wrap64 (x1_10 + x9_10), true)) = some (r1, r2, r3) := by rw [if_pos rfl] at H; exact H
           clear H
           have H := H1
           clear H1
           simp only [Option.some.injEq, Prod.mk.injEq] at H
           obtain ⟨rfl, rfl, rfl⟩ := H
           go_wp2_with (first | ((with_reducible refine gate_callee (f := 83) rfl ?_); refine goesM_ (some 57) rfl rfl Tryd.func83 (by kernel_rfl) rfl #[.slice A0 l0.length c0, .int .i64 x1_10, .int .i64 x9_10] rfl ?_; (with_reducible refine (impl_piece.calls _ _ l0 x1_10 x9_10 t307 true _ ?side1 ?side2 A30.out).mono ?_); (case side1 => repeat (first | exact (Kd.C_below HR0.out HB.out) | (with_reducible refine Kd.C_alloc ?_ _) | (with_reducible refine Kd.C_drewN ?_ _) | (with_reducible refine Kd.C_drew ?_))); (case side2 => exact HC0.out); rintro e w' ⟨A90307, c90307, rfl, hr90307_, hc90307_, ⟨nd, rfl⟩⟩; refine ⟨_, rfl, ?_⟩; have HR90307 := Aside0.mk (hr90307_ _ HR0.out); have HC90307 := Aside0.mk hc90307_; clear hr90307_ hc90307_; have hcv34 := Kd.C_string (P := Tryd.prog) (A := A90307) (c := c90307) Tryd.underlying29 Tryd.underlying5 Tryd.underlying9 (Kd.C_below HR90307.out HB.out); (try (have hcvd35 := fun (nq_ : Nat) => Kd.C_string (P := Tryd.prog) (A := A90307) (c := c90307) Tryd.underlying29 Tryd.underlying5 Tryd.underlying9 (Kd.C_drewN (Kd.C_below HR90307.out HB.out) nq_)))) | (go_at_call 61; (with_reducible refine (impl_FieldOk.calls kj17 a2 (strOfNums t307) true _ A32.out).mono ?_); rintro e w36 ⟨rfl, hb⟩; have n0_ := Aside0.mk (below_step bB hb); clear HB; have HB := n0_; clear n0_; (try clear hb); (try clear hb2); (try clear hk); (try clear hi)))
           go_ret3
           exact ⟨by first | rfl | (simp [errW_none, errW_some] <;> rfl) | (simp [*, errW_none, errW_some] <;> rfl), bB⟩
          ·replace c33 := Bool.eq_false_iff.mpr c33
           subst c33
           have H1 : (some ((⟨#[]⟩ : ByteArray), 0, false)) = some (r1, r2, r3) := by rw [if_neg (show ¬ (false = true) by decide)] at H; exact H
           clear H
           have H := H1
           clear H1
           simp only [Option.some.injEq, Prod.mk.injEq] at H
           obtain ⟨rfl, rfl, rfl⟩ := H
           go_wp2_with (first | ((with_reducible refine gate_callee (f := 83) rfl ?_); refine goesM_ (some 57) rfl rfl Tryd.func83 (by kernel_rfl) rfl #[.slice A0 l0.length c0, .int .i64 x1_10, .int .i64 x9_10] rfl ?_; (with_reducible refine (impl_piece.calls _ _ l0 x1_10 x9_10 t307 true _ ?side1 ?side2 A30.out).mono ?_); (case side1 => repeat (first | exact (Kd.C_below HR0.out HB.out) | (with_reducible refine Kd.C_alloc ?_ _) | (with_reducible refine Kd.C_drewN ?_ _) | (with_reducible refine Kd.C_drew ?_))); (case side2 => exact HC0.out); rintro e w' ⟨A90307, c90307, rfl, hr90307_, hc90307_, ⟨nd, rfl⟩⟩; refine ⟨_, rfl, ?_⟩; have HR90307 := Aside0.mk (hr90307_ _ HR0.out); have HC90307 := Aside0.mk hc90307_; clear hr90307_ hc90307_; have hcv37 := Kd.C_string (P := Tryd.prog) (A := A90307) (c := c90307) Tryd.underlying29 Tryd.underlying5 Tryd.underlying9 (Kd.C_below HR90307.out HB.out); (try (have hcvd38 := fun (nq_ : Nat) => Kd.C_string (P := Tryd.prog) (A := A90307) (c := c90307) Tryd.underlying29 Tryd.underlying5 Tryd.underlying9 (Kd.C_drewN (Kd.C_below HR90307.out HB.out) nq_)))) | (go_at_call 61; (with_reducible refine (impl_FieldOk.calls kj17 a2 (strOfNums t307) false _ A32.out).mono ?_); rintro e w39 ⟨rfl, hb⟩; have n0_ := Aside0.mk (below_step bB hb); clear HB; have HB := n0_; clear n0_; (try clear hb); (try clear hb2); (try clear hk); (try clear hi)))
           go_ret3
           exact ⟨by first | rfl | (simp [errW_none, errW_some] <;> rfl) | (simp [*, errW_none, errW_some] <;> rfl), bB⟩
         ·replace c31 := Bool.eq_false_iff.mpr c31
          subst c31
          have H1 : (some ((⟨#[]⟩ : ByteArray), 0, false)) = some (r1, r2, r3) := by rw [if_neg (show ¬ (false = true) by decide)] at H; exact H
          clear H
          have H := H1
          clear H1
          simp only [Option.some.injEq, Prod.mk.injEq] at H
          obtain ⟨rfl, rfl, rfl⟩ := H
          go_wp2_with (first | ((with_reducible refine gate_callee (f := 83) rfl ?_); refine goesM_ (some 57) rfl rfl Tryd.func83 (by kernel_rfl) rfl #[.slice A0 l0.length c0, .int .i64 x1_10, .int .i64 x9_10] rfl ?_; (with_reducible refine (impl_piece.calls _ _ l0 x1_10 x9_10 t307 false _ ?side1 ?side2 A30.out).mono ?_); (case side1 => repeat (first | exact (Kd.C_below HR0.out HB.out) | (with_reducible refine Kd.C_alloc ?_ _) | (with_reducible refine Kd.C_drewN ?_ _) | (with_reducible refine Kd.C_drew ?_))); (case side2 => exact HC0.out); rintro e w' ⟨A90307, c90307, rfl, hr90307_, hc90307_, ⟨nd, rfl⟩⟩; refine ⟨_, rfl, ?_⟩; have HR90307 := Aside0.mk (hr90307_ _ HR0.out); have HC90307 := Aside0.mk hc90307_; clear hr90307_ hc90307_; have hcv40 := Kd.C_string (P := Tryd.prog) (A := A90307) (c := c90307) Tryd.underlying29 Tryd.underlying5 Tryd.underlying9 (Kd.C_below HR90307.out HB.out); (try (have hcvd41 := fun (nq_ : Nat) => Kd.C_string (P := Tryd.prog) (A := A90307) (c := c90307) Tryd.underlying29 Tryd.underlying5 Tryd.underlying9 (Kd.C_drewN (Kd.C_below HR90307.out HB.out) nq_)))))
          go_ret3
          exact ⟨by first | rfl | (simp [errW_none, errW_some] <;> rfl) | (simp [*, errW_none, errW_some] <;> rfl), bB⟩
     ·replace c17 := Bool.eq_false_iff.mpr c17
      subst c17
      have H1 : (some ((⟨#[]⟩ : ByteArray), 0, false)) = some (r1, r2, r3) := by rw [if_neg (show ¬ (false = true) by decide)] at H; exact H
      clear H
      have H := H1
      clear H1
      simp only [Option.some.injEq, Prod.mk.injEq] at H
      obtain ⟨rfl, rfl, rfl⟩ := H
      go_wp2
      go_ret3
      exact ⟨by first | rfl | (simp [errW_none, errW_some] <;> rfl) | (simp [*, errW_none, errW_some] <;> rfl), bB⟩
attribute [local go_sem] max2_int min2_int max_two min_two max_three min_three max_four min_four
set_option linter.unusedVariables false
set_option linter.unusedSimpArgs false
def laws_FnExactGetField.j0 : Nat → List Int → List Int → Bool → Option (Bool)
 | 0, _, _, _ => none
 | k + 1, x0, x10, x48 => if x48 = true then (some false) else ((laws_toByteS.f k x0).bind fun t324 => ((laws_eqByteS.f k x10 t324).bind fun t327 => (if t327 = true then (some true) else (some false))))
def laws_FnExactGetField.f (k : Nat) (l0 : List Int) (a1 : Int) (a2 : Int) : Option (Bool) := if (l0.length : Int) > 1048576 then (some true) else ((laws_toByteS.f k l0).bind fun t312 => ((spec_GetField.f k t312 a1 a2).bind fun bt315 => ((laws_toByteS.f k l0).bind fun t318 => ((impl_GetField.f k t318 a1 a2).bind fun bt321 => (if bt321.1.toList = bt315.1.toList then (if bt321.2.1 = bt315.2.1 then (laws_FnExactGetField.j0 k l0 t318 (bt321.2.2 != bt315.2.2)) else (laws_FnExactGetField.j0 k l0 t318 true)) else (laws_FnExactGetField.j0 k l0 t318 true))))))
set_option maxHeartbeats 8000000 in
set_option maxRecDepth 100000 in
theorem laws_FnExactGetField.calls (k : Nat) (A0 : Option Addr) (c0 : Nat) (l0 : List Int) (a1 : Int) (a2 : Int) (r : Bool) (w : World) (hr0 : Kd.C (Kd.int .u8) w A0 l0.length l0) (hc0 : l0.length ≤ c0) (hG : GLW w) (hr_ : r = true) (h : laws_FnExactGetField.f k l0 a1 a2 = some r) :
  Calls Tryd.prog 10 #[.slice A0 l0.length c0, .int .i64 a1, .int .i64 a2] w fun e w' => e = .returned (.bool r) ∧ Below w.heap.size w w' := by
 have HR0 := Aside0.mk hr0
 have HC0 := Aside0.mk hc0
 clear hr0 hc0
 have HB := Aside0.mk (Below.refl w.heap.size w)
 have HG := Aside0.mk hG
 clear hG
 have H : (if (l0.length : Int) > 1048576 then (some true) else ((laws_toByteS.f k l0).bind fun t312 => ((spec_GetField.f k t312 a1 a2).bind fun bt315 => ((laws_toByteS.f k l0).bind fun t318 => ((impl_GetField.f k t318 a1 a2).bind fun bt321 => (if bt321.1.toList = bt315.1.toList then (if bt321.2.1 = bt315.2.1 then (laws_FnExactGetField.j0 k l0 t318 (bt321.2.2 != bt315.2.2)) else (laws_FnExactGetField.j0 k l0 t318 true)) else (laws_FnExactGetField.j0 k l0 t318 true))))))) = some r := h
 clear h
 by_cases c4 : (l0.length : Int) > 1048576
 ·rw [if_pos c4] at H
  have c4b0 : decide (1048576 < (l0.length : Int)) = true := decide_eq_true c4
  have c4b1 : decide (1048576 < l0.length) = true := decide_eq_true (by omega)
  clear c4
  obtain rfl := Option.some.inj H
  go_enter Tryd.func10, Tryd.ntmps10
  go_wp2
  go_ret
  exact ⟨by first | rfl | (simp [errW_none, errW_some] <;> rfl) | (simp [*, errW_none, errW_some] <;> rfl), bB⟩
 ·rw [if_neg c4] at H
  have c4b0 : decide (1048576 < (l0.length : Int)) = false := decide_eq_false c4
  have c4b1 : decide (1048576 < l0.length) = false := decide_eq_false (by omega)
  clear c4
  replace H := Option.bind_eq_some_iff.mp H
  obtain ⟨t312, A50, H⟩ := H
  replace H : ((spec_GetField.f k t312 a1 a2).bind fun bt315 => ((laws_toByteS.f k l0).bind fun t318 => ((impl_GetField.f k t318 a1 a2).bind fun bt321 => (if bt321.1.toList = bt315.1.toList then (if bt321.2.1 = bt315.2.1 then (laws_FnExactGetField.j0 k l0 t318 (bt321.2.2 != bt315.2.2)) else (laws_FnExactGetField.j0 k l0 t318 true)) else (laws_FnExactGetField.j0 k l0 t318 true))))) = some r := H
  have A5 := Aside0.mk A50
  clear A50
  replace H := Option.bind_eq_some_iff.mp H
  obtain ⟨⟨t315, t316, t317⟩, A60, H⟩ := H
  replace H : ((laws_toByteS.f k l0).bind fun t318 => ((impl_GetField.f k t318 a1 a2).bind fun bt321 => (if bt321.1.toList = t315.toList then (if bt321.2.1 = t316 then (laws_FnExactGetField.j0 k l0 t318 (bt321.2.2 != t317)) else (laws_FnExactGetField.j0 k l0 t318 true)) else (laws_FnExactGetField.j0 k l0 t318 true)))) = some r := H
  have A6 := Aside0.mk A60
  clear A60
  replace H := Option.bind_eq_some_iff.mp H
  obtain ⟨t318, A70, H⟩ := H
  replace H : ((impl_GetField.f k t318 a1 a2).bind fun bt321 => (if bt321.1.toList = t315.toList then (if bt321.2.1 = t316 then (laws_FnExactGetField.j0 k l0 t318 (bt321.2.2 != t317)) else (laws_FnExactGetField.j0 k l0 t318 true)) else (laws_FnExactGetField.j0 k l0 t318 true))) = some r := H
  have A7 := Aside0.mk A70
  clear A70
  replace H := Option.bind_eq_some_iff.mp H
  obtain ⟨⟨t321, t322, t323⟩, A80, H⟩ := H
  replace H : (if t321.toList = t315.toList then (if t322 = t316 then (laws_FnExactGetField.j0 k l0 t318 (t323 != t317)) else (laws_FnExactGetField.j0 k l0 t318 true)) else (laws_FnExactGetField.j0 k l0 t318 true)) = some r := H
  have A8 := Aside0.mk A80
  clear A80
  have HC9 := Aside0.mk H
  clear H
  go_enter Tryd.func10, Tryd.ntmps10
  go_upto_region 6 with (first | ((with_reducible refine gate_callee (f := 31) rfl ?_); refine goesM_ (some 19) rfl rfl Tryd.func31 (by kernel_rfl) rfl #[.slice A0 l0.length c0] rfl ?_; (with_reducible refine (laws_toByteS.calls k _ _ l0 t312 _ ?side1 ?side2 A5.out).mono ?_); (case side1 => repeat (first | exact HR0.out | (with_reducible refine Kd.C_alloc ?_ _) | (with_reducible refine Kd.C_drewN ?_ _) | (with_reducible refine Kd.C_drew ?_))); (case side2 => exact HC0.out); rintro e w10 ⟨v313, rfl, ho0, hb⟩; refine ⟨_, rfl, ?_⟩; have n0_ := Aside0.mk (Kd.R_lower ho0 (below_size bB)); have n1_ := Aside0.mk (below_step bB hb); clear HB; have HO314 := n0_; have HB := n1_; clear n0_ n1_; (try clear hb); (try clear hb2); (try clear hk); (try clear hi); (try clear ho0); obtain ⟨Ao11, co11, eo11⟩ := Kd.R_slice HO314.out; subst eo11) | ((with_reducible refine gate_callee (f := 35) rfl ?_); refine goesM_ (some 22) rfl rfl Tryd.func35 (by kernel_rfl) rfl #[.slice Ao11 t312.length co11, .int .i64 a1, .int .i64 a2] rfl ?_; (with_reducible refine (spec_GetField.calls k _ _ t312 a1 a2 t315 t316 t317 _ ?side1 ?side2 A6.out).mono ?_); (case side1 => repeat (first | exact (Kd.R_reads' HO314.out).2.2 | (with_reducible refine Kd.C_alloc ?_ _) | (with_reducible refine Kd.C_drewN ?_ _) | (with_reducible refine Kd.C_drew ?_))); (case side2 => exact (Kd.R_reads' HO314.out).2.1); rintro e w12 ⟨rfl, hb⟩; refine ⟨_, rfl, ?_⟩; have n0_ := Aside0.mk (Kd.R_below (rA HO314.out) hb); have n1_ := Aside0.mk (below_step bB hb); clear HO314; clear HB; have HO314 := n0_; have HB := n1_; clear n0_ n1_; (try clear hb); (try clear hb2); (try clear hk); (try clear hi)) | ((with_reducible refine gate_callee (f := 31) rfl ?_); refine goesM_ (some 27) rfl rfl Tryd.func31 (by kernel_rfl) rfl #[.slice A0 l0.length c0] rfl ?_; (with_reducible refine (laws_toByteS.calls k _ _ l0 t318 _ ?side1 ?side2 A7.out).mono ?_); (case side1 => repeat (first | exact (Kd.C_below HR0.out HB.out) | (with_reducible refine Kd.C_alloc ?_ _) | (with_reducible refine Kd.C_drewN ?_ _) | (with_reducible refine Kd.C_drew ?_))); (case side2 => exact HC0.out); rintro e w13 ⟨v319, rfl, ho0, hb⟩; refine ⟨_, rfl, ?_⟩; have n0_ := Aside0.mk (Kd.R_elder' (rA HO314.out) (Kd.R_base ho0) hb); have n1_ := Aside0.mk (Kd.R_lower (Kd.R_new' ho0 (Kd.R_lt (rA HO314.out))) (below_size bB)); have n2_ := Aside0.mk (below_step bB hb); clear HO314; clear HB; have HO314 := n0_; have HO320 := n1_; have HB := n2_; clear n0_ n1_ n2_; (try clear hb); (try clear hb2); (try clear hk); (try clear hi); (try clear ho0); obtain ⟨Ao14, co14, eo14⟩ := Kd.R_slice HO320.out; subst eo14) | ((with_reducible refine gate_callee (f := 36) rfl ?_); refine goesM_ (some 32) rfl rfl Tryd.func36 (by kernel_rfl) rfl #[.slice Ao14 t318.length co14, .int .i64 a1, .int .i64 a2] rfl ?_; (with_reducible refine (impl_GetField.calls k _ _ t318 a1 a2 t321 t322 t323 _ ?side1 ?side2 ?side3 A8.out).mono ?_); (case side1 => repeat (first | exact (Kd.R_reads' HO320.out).2.2 | (with_reducible refine Kd.C_alloc ?_ _) | (with_reducible refine Kd.C_drewN ?_ _) | (with_reducible refine Kd.C_drew ?_))); (case side2 => exact (Kd.R_reads' HO320.out).2.1); (case side3 => exact GLW_below HG.out bB); rintro e w15 ⟨rfl, hb⟩; refine ⟨_, rfl, ?_⟩; have n0_ := Aside0.mk (Kd.R_below (rA HO314.out) hb); have n1_ := Aside0.mk (Kd.R_below (rA HO320.out) hb); have n2_ := Aside0.mk (below_step bB hb); clear HO314; clear HO320; clear HB; have HO314 := n0_; have HO320 := n1_; have HB := n2_; clear n0_ n1_ n2_; (try clear hb); (try clear hb2); (try clear hk); (try clear hi)))
  (try simp only [Act.put, List.setIfInBounds_toArray, List.set_cons_zero, List.set_cons_succ])
  go_cut [48] (fun v48 wc => ∃ (kq : Nat) (x48_8 : Bool), v48 = .bool x48_8 ∧ Aside0 (laws_FnExactGetField.j0 kq l0 t318 x48_8 = some r) ∧ Aside0 (kq ≤ k) ∧ Aside0 (Kd.R (Kd.int .u8) 5 wc w.heap.size (fun _ => True) (.slice Ao14 t318.length co14) t318) ∧ Aside0 (Below w.heap.size w wc))
  case first =>
   have H := HC9.out
   clear HC9
   by_cases c16 : t321.toList = t315.toList
   ·rw [if_pos c16] at H
    have c16b0 : (t321.toList == t315.toList) = true := beq_iff_eq.mpr c16
    have c16b1 : (t321.toList != t315.toList) = false := bne_eq_false_iff_eq.mpr c16
    clear c16
    (first | rw [c16b0] | (simp only [i64_w, i32_w]; rw [c16b0]) | rw [c16b1] | (simp only [c16b1]) | skip)
    by_cases c17 : t322 = t316
    ·rw [if_pos c17] at H
     have c17b0 : (t322 == t316) = true := beq_iff_eq.mpr c17
     have c17b1 : (t322 != t316) = false := bne_eq_false_iff_eq.mpr c17
     clear c17
     have H' := Aside0.mk H
     clear H
     go_wp2
     go_meet
     case rel => exact ⟨_, ((t323 != t317)), (by first | rfl | (simp; done) | (simp [*]; done) | (simp [i64_w, IntKind.wrap_u8, e256_]; done) | (simp; generalize ByteArray.toList _ = zz_; cases zz_ <;> rfl)), H', ⟨by first | omega | exact Nat.le_refl _⟩, ⟨by (with_reducible repeat (first | apply Kd.R_alloc | apply Kd.R_drewN | apply Kd.R_drew)); exact Kd.R_mono HO320.out (fun _ hk => trivial)⟩, ⟨bB⟩⟩
    ·rw [if_neg c17] at H
     have c17b0 : (t322 == t316) = false := beq_eq_false_iff_ne.mpr c17
     have c17b1 : (t322 != t316) = true := bne_iff_ne.mpr c17
     have H' := Aside0.mk H
     clear H
     go_wp2
     go_meet
     case rel => exact ⟨_, (true), (by first | rfl | (simp; done) | (simp [*]; done) | (simp [i64_w, IntKind.wrap_u8, e256_]; done) | (simp; generalize ByteArray.toList _ = zz_; cases zz_ <;> rfl)), H', ⟨by first | omega | exact Nat.le_refl _⟩, ⟨by (with_reducible repeat (first | apply Kd.R_alloc | apply Kd.R_drewN | apply Kd.R_drew)); exact Kd.R_mono HO320.out (fun _ hk => trivial)⟩, ⟨bB⟩⟩
   ·rw [if_neg c16] at H
    have c16b0 : (t321.toList == t315.toList) = false := beq_eq_false_iff_ne.mpr c16
    have c16b1 : (t321.toList != t315.toList) = true := bne_iff_ne.mpr c16
    (first | rw [c16b0] | (simp only [i64_w, i32_w]; rw [c16b0]) | rw [c16b1] | (simp only [c16b1]) | skip)
    have H' := Aside0.mk H
    clear H
    go_wp2
    go_meet
    case rel => exact ⟨_, (true), (by first | rfl | (simp; done) | (simp [*]; done) | (simp [i64_w, IntKind.wrap_u8, e256_]; done) | (simp; generalize ByteArray.toList _ = zz_; cases zz_ <;> rfl)), H', ⟨by first | omega | exact Nat.le_refl _⟩, ⟨by (with_reducible repeat (first | apply Kd.R_alloc | apply Kd.R_drewN | apply Kd.R_drew)); exact Kd.R_mono HO320.out (fun _ hk => trivial)⟩, ⟨bB⟩⟩
  case rest =>
   clear HC9
   try clear c1
   try clear p2
   try clear c3
   try clear c4
   try clear c4b0
   try clear c4b1
   try clear p6
   try clear c10
   try clear c16
   try clear c16b0
   try clear c16b1
   try clear c17
   try clear c17b0
   try clear c17b1
   obtain ⟨kq, x48_8, rfl, HA, HJ8, HO_10, HB⟩ := hcut
   cases kq with
   | zero => exact absurd HA.out (by simp [laws_FnExactGetField.j0])
   | succ kj8 =>
    have H := HA.out
    clear HA
    simp only [laws_FnExactGetField.j0] at H
    by_cases c18 : x48_8 = true
    ·subst c18
     have H1 : (some false) = some r := by rw [if_pos rfl] at H; exact H
     clear H
     have H := H1
     clear H1
     obtain rfl := Option.some.inj H
     exact absurd hr_ (by simp)
    ·replace c18 := Bool.eq_false_iff.mpr c18
     subst c18
     have H1 : ((laws_toByteS.f kj8 l0).bind fun t324 => ((laws_eqByteS.f kj8 t318 t324).bind fun t327 => (if t327 = true then (some true) else (some false)))) = some r := by rw [if_neg (show ¬ (false = true) by decide)] at H; exact H
     clear H
     have H := H1
     clear H1
     replace H := Option.bind_eq_some_iff.mp H
     obtain ⟨t324, A190, H⟩ := H
     replace H : ((laws_eqByteS.f kj8 t318 t324).bind fun t327 => (if t327 = true then (some true) else (some false))) = some r := H
     have A19 := Aside0.mk A190
     clear A190
     replace H := Option.bind_eq_some_iff.mp H
     obtain ⟨t327, A200, H⟩ := H
     replace H : (if t327 = true then (some true) else (some false)) = some r := H
     have A20 := Aside0.mk A200
     clear A200
     by_cases c21 : t327 = true
     ·subst c21
      have H1 : (some true) = some r := by rw [if_pos rfl] at H; exact H
      clear H
      have H := H1
      clear H1
      obtain rfl := Option.some.inj H
      go_wp2_with (first | ((with_reducible refine gate_callee (f := 31) rfl ?_); refine goesM_ (some 51) rfl rfl Tryd.func31 (by kernel_rfl) rfl #[.slice A0 l0.length c0] rfl ?_; (with_reducible refine (laws_toByteS.calls kj8 _ _ l0 t324 _ ?side1 ?side2 A19.out).mono ?_); (case side1 => repeat (first | exact (Kd.C_below HR0.out HB.out) | (with_reducible refine Kd.C_alloc ?_ _) | (with_reducible refine Kd.C_drewN ?_ _) | (with_reducible refine Kd.C_drew ?_))); (case side2 => exact HC0.out); rintro e w22 ⟨v325, rfl, ho0, hb⟩; refine ⟨_, rfl, ?_⟩; have n0_ := Aside0.mk (Kd.R_elder' (rA HO_10.out) (Kd.R_base ho0) hb); have n1_ := Aside0.mk (Kd.R_lower (Kd.R_new' ho0 (Kd.R_lt (rA HO_10.out))) (below_size bB)); have n2_ := Aside0.mk (below_step bB hb); clear HO_10; clear HB; have HO_10 := n0_; have HO326 := n1_; have HB := n2_; clear n0_ n1_ n2_; (try clear hb); (try clear hb2); (try clear hk); (try clear hi); (try clear ho0); obtain ⟨Ao23, co23, eo23⟩ := Kd.R_slice HO326.out; subst eo23) | ((with_reducible refine gate_callee (f := 27) rfl ?_); refine goesM_ (some 52) rfl rfl Tryd.func27 (by kernel_rfl) rfl #[.slice Ao14 t318.length co14, .slice Ao23 t324.length co23] rfl ?_; (with_reducible refine (laws_eqByteS.calls kj8 _ _ t318 _ _ t324 true _ ?side1 ?side2 ?side3 ?side4 A20.out).mono ?_); (case side1 => repeat (first | exact (Kd.R_reads' HO_10.out).2.2 | (with_reducible refine Kd.C_alloc ?_ _) | (with_reducible refine Kd.C_drewN ?_ _) | (with_reducible refine Kd.C_drew ?_))); (case side2 => exact (Kd.R_reads' HO_10.out).2.1); (case side3 => repeat (first | exact (Kd.R_reads' HO326.out).2.2 | (with_reducible refine Kd.C_alloc ?_ _) | (with_reducible refine Kd.C_drewN ?_ _) | (with_reducible refine Kd.C_drew ?_))); (case side4 => exact (Kd.R_reads' HO326.out).2.1); rintro e w' ⟨rfl, ⟨nd, rfl⟩⟩; refine ⟨_, rfl, ?_⟩))
      go_ret
      exact ⟨by first | rfl | (simp [errW_none, errW_some] <;> rfl) | (simp [*, errW_none, errW_some] <;> rfl), bB⟩
     ·replace c21 := Bool.eq_false_iff.mpr c21
      subst c21
      have H1 : (some false) = some r := by rw [if_neg (show ¬ (false = true) by decide)] at H; exact H
      clear H
      have H := H1
      clear H1
      obtain rfl := Option.some.inj H
      exact absurd hr_ (by simp)
end Go.Proofs.YtiglmmofapcefaaDoor.Q
end
section
namespace Go.Proofs.YtiglmmofapcefaaDoor.Q
open Go.RowKit Go.Proofs.YtiglmmofapcefaaDoorW.PrintWords Go.Proofs.YtiglmmofapcefaaDoorW.PrintLast Go.Proofs.YtiglmmofapcefaaDoorW.PrintMore
set_option linter.unusedVariables false
set_option linter.unusedSimpArgs false
theorem toNat_cast (n : Nat) : ((n : Int) : Int).toNat = n := by simp
theorem take_set_succ (y l : List Int) (n : Nat) (hn : n < l.length) (hy : y.length = l.length) (h : y.take n = l.take n) :
    (y.set n (rd l (n : Int))).take (n + 1) = l.take (n + 1) := by
  rw [List.take_succ_eq_append_getElem (by simpa [hy] using hn), List.take_succ_eq_append_getElem hn, rd_nat l n hn]
  simp [List.take_set_of_le, h]
def isByte (c : Int) : Prop := 0 ≤ c ∧ c ≤ 255
theorem bytesOf_range (s : ByteArray) : ∀ c ∈ bytesOf s, isByte c := by
  intro c hc
  unfold bytesOf at hc
  obtain ⟨b, _, rfl⟩ := List.mem_map.1 hc
  have := b.toNat_lt
  exact ⟨by omega, by omega⟩
theorem bytesOf_inj {s t : ByteArray} (h : bytesOf s = bytesOf t) : s = t := by
  have e : s.data.toList = t.data.toList := by
    unfold bytesOf at h
    have := congrArg (List.map fun n : Int => UInt8.ofNat n.toNat) h
    simpa [List.map_map, Function.comp_def] using this
  cases s; cases t
  congr 1
  exact Array.toList_inj.1 e
theorem bytesOf_strOfNums (l : List Int) (h : ∀ c ∈ l, isByte c) : bytesOf (strOfNums l) = l := by
  unfold bytesOf
  rw [strOfNums_data, List.map_map]
  have : ∀ c ∈ l, ((fun b : UInt8 => (b.toNat : Int)) ∘ fun n : Int => UInt8.ofNat n.toNat) c = c := by
    intro c hc
    obtain ⟨h0, h1⟩ := h c hc
    have e : (UInt8.ofNat c.toNat).toNat = c.toNat := by simp [UInt8.toNat_ofNat']; omega
    simp only [Function.comp, e]
    omega
  rw [List.map_congr_left this]
  simp
theorem strOfNums_bytesOf (s : ByteArray) : strOfNums (bytesOf s) = s := bytesOf_inj (bytesOf_strOfNums _ (bytesOf_range s))
theorem strOfNums_append (a b : List Int) : strOfNums (a ++ b) = strOfNums a ++ strOfNums b := by
  have e : (strOfNums (a ++ b)).data.toList = (strOfNums a ++ strOfNums b).data.toList := by
    rw [strOfNums_data, ByteArray.toList_data_append, strOfNums_data, strOfNums_data, List.map_append]
  revert e
  generalize strOfNums (a ++ b) = x
  generalize strOfNums a ++ strOfNums b = y
  intro e
  cases x; cases y
  congr 1
  exact Array.toList_inj.1 e
theorem size_eq (s : ByteArray) : s.size = (bytesOf s).length := (bytesOf_length s).symm
theorem bytesOf_extract (s : ByteArray) (a b : Nat) : bytesOf (s.extract a b) = ((bytesOf s).take b).drop a := by
  unfold bytesOf
  rw [ByteArray.data_extract, Array.toList_extract, List.extract_eq_take_drop, List.map_take, List.map_drop, List.drop_take]
theorem bt_eq (s : ByteArray) (i : Int) : bt s i = rd (bytesOf s) i := (rd_bytesOf s i).symm
theorem dig_range' {c : Int} (h : isDig c = true) : 48 ≤ c ∧ c ≤ 57 := by
  unfold isDig at h
  simpa using h
theorem all_rd' (l : List Int) (p : Int → Bool) (h : l.all p = true) (n : Nat) (hn : n < l.length) : p (rd l (n : Int)) = true := by
  rw [List.all_eq_true] at h
  exact h _ (rd_mem l n hn)
theorem digs_and (l : List Int) (h : digs l = true) : l.all isDig = true ∧ 0 < l.length := by
  unfold digs at h
  cases l with
  | nil => simp at h
  | cons a t => simpa using h
def narrow (l : List Int) : Int × Bool := if digs l = true ∧ l.length ≤ 18 then ((natFrom 0 l : Nat), true) else (0, false)
theorem spec_Narrow_l (s : ByteArray) (hs : s.size ≤ 18) (hd : (bytesOf s).all isDig = true) : ∀ (d n k a : Nat), n + d = s.size → a < 10 ^ n → d < k →
    spec_Narrow.l0 k s (a : Int) (n : Int) = some (((natFrom a ((bytesOf s).drop n) : Nat) : Int), true) := by
  intro d
  induction d with
  | zero =>
    intro n k a hn ha hk
    obtain ⟨k, rfl⟩ : ∃ m, k = m + 1 := ⟨k - 1, by omega⟩
    have c1 : ¬ (n : Int) < (s.size : Int) := by omega
    simp only [spec_Narrow.l0, if_neg c1]
    rw [List.drop_of_length_le (by rw [bytesOf_length]; omega)]
    rfl
  | succ d ih =>
    intro n k a hn ha hk
    obtain ⟨k, rfl⟩ : ∃ m, k = m + 1 := ⟨k - 1, by omega⟩
    have c1 : (n : Int) < (s.size : Int) := by omega
    have c2 : 0 ≤ (n : Int) := by omega
    obtain ⟨b0, b1⟩ := dig_range' (all_rd' _ _ hd n (by rw [bytesOf_length]; omega))
    have hp : 10 ^ (n + 1) = 10 ^ n * 10 := Nat.pow_succ 10 n
    have hq : 10 ^ n ≤ 10 ^ 17 := Nat.pow_le_pow_right (by omega) (by omega)
    have hq2 : (10 : Nat) ^ 17 = 100000000000000000 := by decide
    rw [drop_bt s n (by omega), natFrom, bt_eq]
    simp only [spec_Narrow.l0, if_pos c1, if_pos c2, bt_eq]
    generalize rd (bytesOf s) (n : Int) = c at b0 b1
    have ih' := ih (n + 1) k (a * 10 + (c - 48).toNat) (by omega) (by rw [hp]; omega) (by omega)
    have e2 : wrap64 ((n : Int) + 1) = ((n + 1 : Nat) : Int) := by rw [w64 c2 (by omega)]; omega
    have e1 : wrap64 (wrap64 (wrap64 ((a : Int) * 10) + wrap64 c) - 48) = ((a * 10 + (c - 48).toNat : Nat) : Int) := by
      clear e2 ih'
      have q1 : wrap64 ((a : Int) * 10) = (a : Int) * 10 := w64id (by omega) (by omega)
      rw [q1]
      clear q1
      have q2 : wrap64 c = c := w64id (by omega) (by omega)
      rw [q2]
      clear q2
      have q3 : wrap64 ((a : Int) * 10 + c) = (a : Int) * 10 + c := w64id (by omega) (by omega)
      rw [q3]
      clear q3
      rw [w64id (by omega) (by omega)]
      omega
    rw [e1, e2]
    exact ih'
theorem spec_Narrow_at (s : ByteArray) (hs : s.size ≤ 140737488351232) (k : Nat) (hk : s.size + 30 < k) : spec_Narrow.f k s = some (narrow (bytesOf s)) := by
  obtain ⟨k, rfl⟩ : ∃ m, k = m + 1 := ⟨k - 1, by omega⟩
  unfold spec_Narrow.f narrow
  rw [spec_Digits_at s hs _ (by omega), Option.bind_some, bytesOf_length]
  by_cases h : digs (bytesOf s) = true
  · rw [if_pos h]
    by_cases h2 : s.size ≤ 18
    · have e : decide ((s.size : Int) > 18) = false := decide_eq_false (by omega)
      rw [e, if_pos ⟨h, h2⟩, spec_Narrow.j0, if_neg (by simp)]
      exact spec_Narrow_l s h2 (digs_and _ h).1 s.size 0 k 0 (by omega) (by simp) (by omega)
    · have e : decide ((s.size : Int) > 18) = true := decide_eq_true (by omega)
      rw [e, if_neg (fun q => h2 q.2), spec_Narrow.j0, if_pos rfl]
  · rw [if_neg h, if_neg (fun q => h q.1), spec_Narrow.j0, if_pos rfl]
theorem impl_Narrow_at (s : ByteArray) (hs : s.size ≤ 140737488351232) : impl_Narrow.f s = some (narrow (bytesOf s)) := by
  unfold impl_Narrow.f narrow
  rw [if_pos hs, bytesOf_length]
def ubcd : List Int → List Int
  | [] => []
  | c :: t => (48 + c / 16) :: (48 + c % 16) :: ubcd t
theorem ubcd_append (a b : List Int) : ubcd (a ++ b) = ubcd a ++ ubcd b := by
  induction a with
  | nil => rfl
  | cons c t ih => simp [ubcd, ih]
theorem ubcd_length (a : List Int) : (ubcd a).length = 2 * a.length := by
  induction a with
  | nil => rfl
  | cons c t ih => simp [ubcd, ih]; omega
theorem ubcd_range (a : List Int) (h : ∀ c ∈ a, isByte c) : ∀ c ∈ ubcd a, isByte c := by
  induction a with
  | nil => intro c hc; simp [ubcd] at hc
  | cons x t ih =>
    intro c hc
    simp only [ubcd, List.mem_cons] at hc
    have hx := h x (by simp)
    unfold isByte at hx
    rcases hc with rfl | rfl | hc
    · unfold isByte; omega
    · unfold isByte; omega
    · exact ih (fun c hc => h c (by simp [hc])) c hc
theorem take_rd (l : List Int) (n : Nat) (h : n < l.length) : l.take (n + 1) = l.take n ++ [rd l (n : Int)] := by
  rw [List.take_succ_eq_append_getElem h, rd_nat l n h]
theorem rd_drop (l : List Int) (a n : Nat) (h : a + n < l.length) : rd (l.drop a) (n : Int) = rd l ((a + n : Nat) : Int) := by
  rw [rd_nat _ _ (by simp; omega), rd_nat _ _ h]
  simp
def cutAt (l : List Int) (a m : Nat) : List Int := (l.drop a).take m
theorem cutAt_take (l : List Int) (a m : Nat) : (l.take (a + m)).drop a = cutAt l a m := by
  unfold cutAt
  rw [List.drop_take]
  congr 1
  omega
theorem cutAt_succ (l : List Int) (a m : Nat) (h : a + m < l.length) : cutAt l a (m + 1) = cutAt l a m ++ [rd l ((a + m : Nat) : Int)] := by
  unfold cutAt
  rw [take_rd _ _ (by simp; omega), rd_drop l a m h]
theorem cutAt_length (l : List Int) (a m : Nat) (h : a + m ≤ l.length) : (cutAt l a m).length = m := by
  unfold cutAt
  simp
  omega
theorem cutAt_mem (l : List Int) (a m : Nat) : ∀ c ∈ cutAt l a m, c ∈ l := by
  intro c hc
  unfold cutAt at hc
  exact List.mem_of_mem_drop (List.mem_of_mem_take hc)
def isBcd (n : Nat) (u : List Int) : Bool := if n % 2 = 1 then decide (rd u 0 = 48) && digs (u.drop 1) else digs u
def inAt (l : List Int) (a1 n : Int) : Bool := decide (1 ≤ n ∧ n ≤ 38 ∧ 0 ≤ a1 ∧ a1 ≤ (l.length : Int) ∧ (n + 1) / 2 ≤ (l.length : Int) - a1)
def getBcd (l : List Int) (a1 n : Int) : List Int × Int × Bool :=
  if inAt l a1 n && isBcd n.toNat (ubcd (cutAt l a1.toNat ((n + 1) / 2).toNat)) then
    ((ubcd (cutAt l a1.toNat ((n + 1) / 2).toNat)).drop (n.toNat % 2), a1 + (n + 1) / 2, true)
  else ([], 0, false)
def asStr (r : List Int × Int × Bool) : ByteArray × Int × Bool := (strOfNums r.1, r.2.1, r.2.2)
theorem strOfNums_nil : strOfNums [] = (⟨#[]⟩ : ByteArray) := bytesOf_inj (by rw [bytesOf_strOfNums _ (by simp)]; rfl)
theorem asStr_none : asStr ([], 0, false) = ((⟨#[]⟩ : ByteArray), 0, false) := by unfold asStr; rw [strOfNums_nil]
theorem ubcd_digs (n m : Nat) (u : List Int) (hm : m = (n + 1) / 2) (hn : 1 ≤ n) (hu : u.length = 2 * m) : isBcd n u = (digs u && (decide (n % 2 = 0) || decide (rd u 0 = 48))) := by
  unfold isBcd
  by_cases h : n % 2 = 1
  · rw [if_pos h]
    have h0 : decide (n % 2 = 0) = false := decide_eq_false (by omega)
    rw [h0, Bool.false_or]
    have hd := drop_rd u 0 (by omega)
    simp only [List.drop_zero, Nat.zero_add] at hd
    have hp : 0 < (u.drop 1).length := by simp; omega
    by_cases h48 : rd u 0 = 48
    · have e1 : digs u = digs (u.drop 1) := by
        unfold digs
        have e2 : u.all isDig = (u.drop 1).all isDig := by
          have h7 : isDig (rd u ((0 : Nat) : Int)) = true := by simpa [h48] using (by decide : isDig 48 = true)
          have h8 : u.all isDig = (rd u ((0 : Nat) : Int) :: u.drop 1).all isDig := congrArg (fun x => List.all x isDig) hd
          rw [h8, List.all_cons, h7, Bool.true_and]
        have e3 : u.isEmpty = false := by cases u with | nil => simp at hu; omega | cons => rfl
        have e4 : (u.drop 1).isEmpty = false := by
          generalize u.drop 1 = v at hp
          cases v with | nil => simp at hp | cons => rfl
        rw [e2, e3, e4]
      simp [h48, e1]
    · simp [h48]
  · rw [if_neg h]
    have h0 : decide (n % 2 = 0) = true := decide_eq_true (by omega)
    rw [h0]
    simp
theorem getBcd_val (l : List Int) (a n m : Nat) (hm : m = (n + 1) / 2) (h1 : 1 ≤ n) (h2 : n ≤ 38) (h3 : a + m ≤ l.length) :
    getBcd l (a : Int) (n : Int) = if isBcd n (ubcd (cutAt l a m)) = true then ((ubcd (cutAt l a m)).drop (n % 2), (a : Int) + (m : Int), true) else ([], 0, false) := by
  have e0 : ((n : Int) + 1) / 2 = (m : Int) := by omega
  have e1 : inAt l (a : Int) (n : Int) = true := by
    unfold inAt
    rw [e0]
    exact decide_eq_true (by omega)
  have e2 : (n : Int).toNat = n := by omega
  have e3 : (a : Int).toNat = a := by omega
  have e4 : (m : Int).toNat = m := by omega
  unfold getBcd
  rw [e1, e0, e2, e3, e4, Bool.true_and]
theorem spec_GetBcd_l (l : List Int) (hl : l.length ≤ 140737488351232) (hb : ∀ c ∈ l, isByte c) (a n m : Nat) (hm : m = (n + 1) / 2) (h1 : 1 ≤ n) (h2 : n ≤ 38) (h3 : a + m ≤ l.length) : ∀ (d i k : Nat), i + d = m → d + 50 < k →
    spec_GetBcd.l0 k l (a : Int) (n : Int) (strOfNums (ubcd (cutAt l a i))) ((a + i : Nat) : Int) = some (asStr (getBcd l (a : Int) (n : Int))) := by
  have e2 : True → wrap64 (Int.tdiv (wrap64 ((n : Int) + 1)) 2) = (m : Int) := by
    intro _
    have q : wrap64 ((n : Int) + 1) = ((n + 1 : Nat) : Int) := by unfold wrap64; omega
    rw [q, Int.tdiv_eq_ediv_of_nonneg (by omega)]
    unfold wrap64
    omega
  have e3 : True → wrap64 ((a : Int) + (m : Int)) = ((a + m : Nat) : Int) := by intro _; unfold wrap64; omega
  intro d
  induction d with
  | zero =>
    intro i k hd hk
    obtain ⟨k, rfl⟩ : ∃ m, k = m + 1 := ⟨k - 1, by omega⟩
    have hi : i = m := by omega
    subst hi
    have c1 : ¬ ((a + i : Nat) : Int) < ((a + i : Nat) : Int) := by omega
    have hr : ∀ c ∈ ubcd (cutAt l a i), isByte c := ubcd_range _ (fun c hc => hb c (cutAt_mem l a i c hc))
    have hz : (ubcd (cutAt l a i)).length = 2 * i := by rw [ubcd_length, cutAt_length l a i h3]
    rw [getBcd_val l a n i hm h1 h2 h3]
    simp only [spec_GetBcd.l0, e2 trivial, e3 trivial, if_neg c1]
    generalize ubcd (cutAt l a i) = u at hr hz
    have hbs : bytesOf (strOfNums u) = u := bytesOf_strOfNums u hr
    have hsz : (strOfNums u).size = u.length := by rw [size_eq, hbs]
    have eend : ((a + i : Nat) : Int) = (a : Int) + (i : Int) := by omega
    by_cases ho : n % 2 = 1
    · have c2 : Int.tmod (n : Int) 2 = 1 := by rw [Int.tmod_eq_emod_of_nonneg (by omega)]; omega
      have c3 : 0 < ((strOfNums u).size : Int) := by omega
      have c4 : 1 ≤ ((strOfNums u).size : Int) := by omega
      rw [if_pos c2, if_pos c3, if_pos c4, bt_eq, hbs]
      unfold isBcd
      rw [if_pos ho, ho]
      by_cases h48 : rd u 0 = 48
      · have e5 : bytesOf ((strOfNums u).extract 1 (strOfNums u).size) = u.drop 1 := by
          rw [bytesOf_extract, hbs, hsz, List.take_length]
        have e6 : (strOfNums u).extract 1 (strOfNums u).size = strOfNums (u.drop 1) := by
          rw [← e5, strOfNums_bytesOf]
        have e7 : ((strOfNums u).extract 1 (strOfNums u).size).size ≤ 40 := by
          rw [size_eq, e5, List.length_drop]; omega
        rw [if_pos h48, spec_Digits_at _ (by omega) k (by omega), Option.bind_some, e5, e6]
        have h48' : decide (rd u 0 = 48) = true := decide_eq_true h48
        rw [h48', Bool.true_and]
        by_cases hg : digs (u.drop 1) = true
        · rw [if_pos hg, if_pos hg, eend]; rfl
        · rw [if_neg hg, if_neg hg, asStr_none]
      · have h48' : decide (rd u 0 = 48) = false := decide_eq_false h48
        rw [if_neg h48, h48', Bool.false_and, if_neg (by simp), asStr_none]
    · have c2 : ¬ Int.tmod (n : Int) 2 = 1 := by rw [Int.tmod_eq_emod_of_nonneg (by omega)]; omega
      have ho' : n % 2 = 0 := by omega
      rw [if_neg c2, spec_Digits_at _ (by omega) k (by omega), Option.bind_some, hbs]
      unfold isBcd
      rw [if_neg ho, ho']
      by_cases hg : digs u = true
      · rw [if_pos hg, if_pos hg, eend]; rfl
      · rw [if_neg hg, if_neg hg, asStr_none]
  | succ d ih =>
    intro i k hd hk
    obtain ⟨k, rfl⟩ : ∃ m, k = m + 1 := ⟨k - 1, by omega⟩
    have c1 : ((a + i : Nat) : Int) < ((a + m : Nat) : Int) := by omega
    have c2 : 0 ≤ ((a + i : Nat) : Int) := by omega
    have c3 : ((a + i : Nat) : Int) < (l.length : Int) := by omega
    have e4 : wrap64 (((a + i : Nat) : Int) + 1) = ((a + (i + 1) : Nat) : Int) := by unfold wrap64; omega
    have h4 : a + i < l.length := by omega
    have hs : strOfNums (ubcd (cutAt l a (i + 1))) = strOfNums (ubcd (cutAt l a i)) ++ strOfNums (ubcd [rd l ((a + i : Nat) : Int)]) := by
      rw [cutAt_succ l a i h4, ubcd_append, strOfNums_append]
    have ih' := ih (i + 1) k (by omega) (by omega)
    rw [hs] at ih'
    clear hs ih
    obtain ⟨b0, b1⟩ := hb _ (rd_mem l (a + i) (by omega))
    have hz : (strOfNums (ubcd (cutAt l a i))).size = 2 * i := by rw [strOfNums_size, ubcd_length, cutAt_length l a i (by omega)]
    simp only [spec_GetBcd.l0, e2 trivial, e3 trivial, e4, if_pos c1, if_pos c2, if_pos c3, Option.bind_some]
    generalize rd l ((a + i : Nat) : Int) = b at b0 b1 ih'
    have q1 : wrap64 b = b := by unfold wrap64; omega
    have q2 : Int.tdiv b 16 = b / 16 := Int.tdiv_eq_ediv_of_nonneg (by omega)
    have q3 : Int.tmod b 16 = b % 16 := Int.tmod_eq_emod_of_nonneg (by omega)
    have q4 : wrap64 (48 + wrap64 (b / 16)) % 256 = 48 + b / 16 := by unfold wrap64; omega
    have q5 : wrap64 (48 + b % 16) % 256 = 48 + b % 16 := by unfold wrap64; omega
    rw [q1, q2, q3, q4, q5]
    have q6 : (strOfNums (ubcd (cutAt l a i))).size + (strOfNums [48 + b / 16, 48 + b % 16]).size ≤ 9223372036854775807 := by
      rw [hz, strOfNums_size]
      simp
      omega
    rw [if_pos q6]
    exact ih'
theorem spec_GetBcd_at (l : List Int) (hl : l.length ≤ 140737488351232) (hb : ∀ c ∈ l, isByte c) (a1 n : Int) (w1 : -9223372036854775808 ≤ a1 ∧ a1 ≤ 9223372036854775807) (w2 : -9223372036854775808 ≤ n ∧ n ≤ 9223372036854775807) (k : Nat) (hk : 100 < k) :
    spec_GetBcd.f k l a1 n = some (asStr (getBcd l a1 n)) := by
  obtain ⟨k, rfl⟩ : ∃ m, k = m + 1 := ⟨k - 1, by omega⟩
  have hno : inAt l a1 n = false → spec_GetBcd.j0 (k + 1) l a1 n true = some (asStr (getBcd l a1 n)) := by
    intro h
    unfold getBcd
    rw [h, Bool.false_and, if_neg (by simp), asStr_none, spec_GetBcd.j0, if_pos rfl]
  unfold spec_GetBcd.f
  by_cases h1 : n < 1
  · rw [if_pos h1]; exact hno (decide_eq_false (by omega))
  by_cases h2 : n > 38
  · rw [if_neg h1, if_pos h2]; exact hno (decide_eq_false (by omega))
  by_cases h3 : a1 < 0
  · rw [if_neg h1, if_neg h2, if_pos h3]; exact hno (decide_eq_false (by omega))
  by_cases h4 : a1 > (l.length : Int)
  · rw [if_neg h1, if_neg h2, if_neg h3, if_pos h4]; exact hno (decide_eq_false (by omega))
  rw [if_neg h1, if_neg h2, if_neg h3, if_neg h4]
  have e0 : wrap64 (n + 1) = n + 1 := by unfold wrap64; omega
  have e1 : Int.tdiv (n + 1) 2 = (n + 1) / 2 := Int.tdiv_eq_ediv_of_nonneg (by omega)
  have e2 : wrap64 ((n + 1) / 2) = (n + 1) / 2 := by unfold wrap64; omega
  have e3 : wrap64 ((l.length : Int) - a1) = (l.length : Int) - a1 := by unfold wrap64; omega
  rw [e0, e1, e2, e3]
  by_cases h5 : (n + 1) / 2 > (l.length : Int) - a1
  · rw [decide_eq_true h5]; exact hno (decide_eq_false (by omega))
  rw [decide_eq_false h5, spec_GetBcd.j0, if_neg (by simp)]
  have h := spec_GetBcd_l l hl hb a1.toNat n.toNat ((n.toNat + 1) / 2) rfl (by omega) (by omega) (by omega) ((n.toNat + 1) / 2) 0 k (by omega) (by omega)
  have ea : ((a1.toNat : Nat) : Int) = a1 := by omega
  have en : ((n.toNat : Nat) : Int) = n := by omega
  have ez : cutAt l a1.toNat 0 = [] := rfl
  rw [ez, Nat.add_zero, ea, en] at h
  have eu : ubcd [] = [] := rfl
  rw [eu, strOfNums_nil] at h
  exact h
theorem impl_piece_at (l : List Int) (a1 m : Int) : impl_piece.f l a1 m = if 0 ≤ a1 ∧ a1 ≤ (l.length : Int) ∧ 0 ≤ m ∧ m ≤ (l.length : Int) - a1 then some (cutAt l a1.toNat m.toNat, true) else some ([], false) := by
  unfold impl_piece.f
  by_cases h : 0 ≤ a1 ∧ a1 ≤ (l.length : Int) ∧ 0 ≤ m ∧ m ≤ (l.length : Int) - a1
  · rw [if_pos h, if_pos h]
    have e : (a1 + m).toNat = a1.toNat + m.toNat := by omega
    rw [e, cutAt_take]
  · rw [if_neg h, if_neg h]
theorem impl_GetBcd_l (l : List Int) (hb : ∀ c ∈ l, isByte c) (hl : l.length ≤ 40) (a1 n : Int) (ok : Bool) (z : List Int) : ∀ (d i k : Nat), i + d = l.length → d < k → ∃ j, k = j + d + 1 ∧ 
    impl_GetBcd.l0 k a1 n z ok (ubcd (l.take i)) l (l.length : Int) (i : Int) = impl_GetBcd.l0 (j + 1) a1 n z ok (ubcd l) l (l.length : Int) (l.length : Int) := by
  intro d
  induction d with
  | zero =>
    intro i k hd hk
    refine ⟨k - 1, by omega, ?_⟩
    have hi : i = l.length := by omega
    subst hi
    have hk' : k - 1 + 1 = k := by omega
    rw [List.take_length, hk']
  | succ d ih =>
    intro i k hd hk
    obtain ⟨k, rfl⟩ : ∃ m, k = m + 1 := ⟨k - 1, by omega⟩
    obtain ⟨j, hj, ih'⟩ := ih (i + 1) k (by omega) (by omega)
    refine ⟨j, by omega, ?_⟩
    rw [← ih', take_rd l i (by omega), ubcd_append]
    have c1 : (i : Int) < (l.length : Int) := by omega
    have c2 : 0 ≤ (i : Int) := by omega
    have e4 : wrap64 ((i : Int) + 1) = ((i + 1 : Nat) : Int) := by unfold wrap64; omega
    obtain ⟨b0, b1⟩ := hb _ (rd_mem l i (by omega))
    have hz : (ubcd (l.take i)).length ≤ 80 := by rw [ubcd_length, List.length_take]; omega
    rw [impl_GetBcd.l0]
    simp only [e4, if_pos c1, if_pos c2, Option.bind_some]
    generalize rd l (i : Int) = b at b0 b1
    have q2 : Go.bits .and .u8 b 15 = b % 16 := u8_and15 b b0 (by omega)
    have q4 : (48 + b / 16) % 256 = 48 + b / 16 := by omega
    have q5 : (48 + b % 16) % 256 = 48 + b % 16 := by omega
    rw [q2, q4, q5]
    have q6 : (ubcd (l.take i)).length + [48 + b / 16, 48 + b % 16].length < 140737488355328 := by
      simp
      omega
    rw [if_pos q6]
    rfl
theorem impl_GetBcd_e (u : List Int) (hr : ∀ c ∈ u, isByte c) (a1 : Int) (n m : Nat) (z v : List Int) (hm : m = (n + 1) / 2) (h1 : 1 ≤ n) (h2 : n ≤ 38) (hz : z.length = m) (hu : u.length = 2 * m) (ha : 0 ≤ a1) (hb : a1 ≤ 140737488351232) (k : Nat) (hk : 50 < k) :
    impl_GetBcd.l0 (k + 1) a1 (n : Int) z true u v (v.length : Int) (v.length : Int) = some (asStr (if isBcd n u = true then (u.drop (n % 2), a1 + (m : Int), true) else ([], 0, false))) := by
  have c1 : ¬ (v.length : Int) < (v.length : Int) := by omega
  have hbs : bytesOf (strOfNums u) = u := bytesOf_strOfNums u hr
  have hsz : (strOfNums u).size = u.length := by rw [size_eq, hbs]
  simp only [impl_GetBcd.l0, if_neg c1, if_true]
  rw [impl_Digits_at _ (by omega) k (by omega), hbs, Option.bind_some, ubcd_digs n m u hm h1 hu]
  by_cases hg : digs u = true
  · have e1 : wrap64 ((u.length : Int) - (n : Int)) = ((n % 2 : Nat) : Int) := by unfold wrap64; omega
    have e2 : wrap64 (a1 + (z.length : Int)) = a1 + (m : Int) := by unfold wrap64; omega
    have e3 : (((n % 2 : Nat) : Int)).toNat = n % 2 := by omega
    have c2 : 0 ≤ ((n % 2 : Nat) : Int) := by omega
    have c3 : ((n % 2 : Nat) : Int) ≤ (u.length : Int) := by omega
    rw [if_pos hg, e1, e2, if_pos c2, if_pos c3, hg, Bool.true_and, e3]
    by_cases ho : n % 2 = 1
    · have c2 : Int.tmod (n : Int) 2 = 1 := by rw [Int.tmod_eq_emod_of_nonneg (by omega)]; omega
      have c3 : 0 < (u.length : Int) := by omega
      have h0 : decide (n % 2 = 0) = false := decide_eq_false (by omega)
      rw [if_pos c2, if_pos c3, h0, Bool.false_or]
      by_cases h48 : rd u 0 = 48
      · rw [if_pos h48, if_pos (decide_eq_true h48)]; rfl
      · rw [if_neg h48, if_neg (by simp [h48]), asStr_none]
    · have c2 : ¬ Int.tmod (n : Int) 2 = 1 := by rw [Int.tmod_eq_emod_of_nonneg (by omega)]; omega
      have h0 : decide (n % 2 = 0) = true := decide_eq_true (by omega)
      rw [if_neg c2, h0, Bool.true_or, if_pos rfl]; rfl
  · rw [if_neg hg]
    have : digs u = false := by simpa using hg
    rw [this, Bool.false_and, if_neg (by simp), asStr_none]
theorem impl_within_at (a b c : Int) : impl_within.f a b c = some (decide (b ≤ a ∧ a ≤ c)) := by
  unfold impl_within.f
  by_cases h : b ≤ a
  · rw [if_pos h]; simp [h]
  · rw [if_neg h]; simp [h]
theorem impl_GetBcd_at (l : List Int) (hl : l.length ≤ 140737488351232) (hb : ∀ c ∈ l, isByte c) (a1 n : Int) (w1 : -9223372036854775808 ≤ a1 ∧ a1 ≤ 9223372036854775807) (w2 : -9223372036854775808 ≤ n ∧ n ≤ 9223372036854775807) (k : Nat) (hk : 200 < k) :
    impl_GetBcd.f k l a1 n = some (asStr (getBcd l a1 n)) := by
  unfold impl_GetBcd.f
  rw [impl_within_at, Option.bind_some]
  by_cases h1 : 1 ≤ n ∧ n ≤ 38
  · rw [if_pos (decide_eq_true h1)]
    have e0 : wrap64 (n + 1) = n + 1 := by unfold wrap64; omega
    have e1 : Int.tdiv (n + 1) 2 = (n + 1) / 2 := Int.tdiv_eq_ediv_of_nonneg (by omega)
    have e2 : wrap64 ((n + 1) / 2) = (n + 1) / 2 := by unfold wrap64; omega
    rw [e0, e1, e2, impl_piece_at]
    by_cases h2 : 0 ≤ a1 ∧ a1 ≤ (l.length : Int) ∧ 0 ≤ (n + 1) / 2 ∧ (n + 1) / 2 ≤ (l.length : Int) - a1
    · rw [if_pos h2, Option.bind_some]
      have hz : (cutAt l a1.toNat ((n + 1) / 2).toNat).length = ((n + 1) / 2).toNat := cutAt_length _ _ _ (by omega)
      have hb' : ∀ c ∈ cutAt l a1.toNat ((n + 1) / 2).toNat, isByte c := fun c hc => hb c (cutAt_mem _ _ _ c hc)
      obtain ⟨j, hj, h⟩ := impl_GetBcd_l (cutAt l a1.toNat ((n + 1) / 2).toNat) hb' (by omega) a1 n true (cutAt l a1.toNat ((n + 1) / 2).toNat) (cutAt l a1.toNat ((n + 1) / 2).toNat).length 0 k (by omega) (by omega)
      have h' : impl_GetBcd.l0 k a1 n (cutAt l a1.toNat ((n + 1) / 2).toNat) true (([] : List Int)) (cutAt l a1.toNat ((n + 1) / 2).toNat) ((cutAt l a1.toNat ((n + 1) / 2).toNat).length : Int) 0 = _ := h
      simp only
      rw [h']
      have en : ((n.toNat : Nat) : Int) = n := by omega
      have h5 := impl_GetBcd_e (ubcd (cutAt l a1.toNat ((n + 1) / 2).toNat)) (ubcd_range _ hb') a1 n.toNat ((n + 1) / 2).toNat (cutAt l a1.toNat ((n + 1) / 2).toNat) (cutAt l a1.toNat ((n + 1) / 2).toNat) (by omega) (by omega) (by omega) hz (by rw [ubcd_length, hz]) h2.1 (by omega) j (by omega)
      rw [en] at h5
      rw [h5]
      unfold getBcd
      have e3 : inAt l a1 n = true := decide_eq_true (by omega)
      have e4 : ((((n + 1) / 2).toNat : Nat) : Int) = (n + 1) / 2 := by omega
      rw [e3, Bool.true_and, e4]
    · rw [if_neg h2, Option.bind_some]
      obtain ⟨k, rfl⟩ : ∃ m, k = m + 1 := ⟨k - 1, by omega⟩
      unfold getBcd
      have e3 : inAt l a1 n = false := decide_eq_false (by omega)
      rw [e3, Bool.false_and, if_neg (by simp), asStr_none]
      simp only
      rw [impl_GetBcd.l0]
      simp
  · rw [if_neg (by simpa using h1)]
    unfold getBcd
    have e3 : inAt l a1 n = false := decide_eq_false (by omega)
    rw [e3, Bool.false_and, if_neg (by simp), asStr_none]
theorem getBcd_ok (l : List Int) (a1 n : Int) (hb : ∀ c ∈ l, isByte c) (h : (getBcd l a1 n).2.2 = true) :
    digs (getBcd l a1 n).1 = true ∧ (getBcd l a1 n).1.length = n.toNat ∧ (∀ c ∈ (getBcd l a1 n).1, isByte c) ∧ (getBcd l a1 n).2.1 = a1 + (n + 1) / 2 ∧ 1 ≤ n ∧ n ≤ 38 ∧ 0 ≤ a1 ∧ a1 + (n + 1) / 2 ≤ (l.length : Int) := by
  unfold getBcd at h ⊢
  by_cases q : (inAt l a1 n && isBcd n.toNat (ubcd (cutAt l a1.toNat ((n + 1) / 2).toNat))) = true
  · rw [if_pos q] at h ⊢
    simp only [Bool.and_eq_true] at q
    obtain ⟨q1, q2⟩ := q
    have q3 := of_decide_eq_true q1
    have hlen : (ubcd (cutAt l a1.toNat ((n + 1) / 2).toNat)).length = 2 * ((n + 1) / 2).toNat := by rw [ubcd_length, cutAt_length _ _ _ (by omega)]
    have hr : ∀ c ∈ ubcd (cutAt l a1.toNat ((n + 1) / 2).toNat), isByte c := ubcd_range _ (fun c hc => hb c (cutAt_mem _ _ _ c hc))
    generalize ubcd (cutAt l a1.toNat ((n + 1) / 2).toNat) = u at q2 hlen hr
    refine ⟨?_, ?_, fun c hc => hr c (List.mem_of_mem_drop hc), rfl, q3.1, q3.2.1, q3.2.2.1, by omega⟩
    · unfold isBcd at q2
      by_cases o : n.toNat % 2 = 1
      · rw [if_pos o] at q2
        simp only [Bool.and_eq_true] at q2
        simp only [o]
        exact q2.2
      · rw [if_neg o] at q2
        have o' : n.toNat % 2 = 0 := by omega
        simp only [o', List.drop_zero]
        exact q2
    · simp only [List.length_drop]
      omega
  · rw [if_neg q] at h
    exact absurd h (by simp)
theorem getBcd_no (l : List Int) (a1 n : Int) (h : (getBcd l a1 n).2.2 = false) : getBcd l a1 n = ([], 0, false) := by
  unfold getBcd at h ⊢
  split
  · rename_i q
    rw [if_pos q] at h
    exact absurd h (by simp)
  · rfl
def getLen (l : List Int) (a1 w : Int) : Int × Int × Bool :=
  if (w = 2 ∨ w = 3) ∧ (getBcd l a1 w).2.2 = true then (((natFrom 0 (getBcd l a1 w).1 : Nat) : Int), (getBcd l a1 w).2.1, true) else (0, 0, false)
theorem spec_GetLen_at (l : List Int) (hl : l.length ≤ 140737488351232) (hb : ∀ c ∈ l, isByte c) (a1 w : Int) (w1 : -9223372036854775808 ≤ a1 ∧ a1 ≤ 9223372036854775807) (k : Nat) (hk : 300 < k) :
    spec_GetLen.f k l a1 w = some (getLen l a1 w) := by
  obtain ⟨k, rfl⟩ : ∃ m, k = m + 1 := ⟨k - 1, by omega⟩
  have hj : (w = 2 ∨ w = 3) → spec_GetLen.j0 (k + 1) l a1 w false = some (getLen l a1 w) := by
    intro h2
    rw [spec_GetLen.j0, if_neg (by simp), spec_GetBcd_at l hl hb a1 w w1 (by omega) k (by omega), Option.bind_some]
    unfold getLen
    cases hr : (getBcd l a1 w).2.2 with
    | true =>
      obtain ⟨p1, p2, p3, _⟩ := getBcd_ok l a1 w hb hr
      have hz : (strOfNums (getBcd l a1 w).1).size ≤ 18 := by rw [strOfNums_size]; omega
      rw [if_pos ⟨h2, rfl⟩]
      unfold asStr
      simp only
      rw [spec_Narrow_at _ (by omega) k (by omega), Option.bind_some, bytesOf_strOfNums _ p3]
      unfold narrow
      rw [if_pos ⟨p1, by omega⟩, hr]
    | false =>
      have e := getBcd_no l a1 w hr
      rw [if_neg (by simp), e, asStr_none]
      simp only
      rw [spec_Narrow_at _ (by decide) k (by have : (⟨#[]⟩ : ByteArray).size = 0 := rfl; omega), Option.bind_some]
      rfl
  unfold spec_GetLen.f
  by_cases h2 : w = 2
  · rw [if_pos h2]; exact hj (Or.inl h2)
  rw [if_neg h2]
  by_cases h3 : w = 3
  · have e : (w != 3) = false := by simp [h3]
    rw [e]; exact hj (Or.inr h3)
  · have e : (w != 3) = true := by simp [h3]
    rw [e, spec_GetLen.j0, if_pos rfl]
    unfold getLen
    rw [if_neg (by omega)]
theorem impl_GetLen_at (l : List Int) (hl : l.length ≤ 140737488351232) (hb : ∀ c ∈ l, isByte c) (a1 w : Int) (w1 : -9223372036854775808 ≤ a1 ∧ a1 ≤ 9223372036854775807) (k : Nat) (hk : 300 < k) :
    impl_GetLen.f k l a1 w = some (getLen l a1 w) := by
  have hin : impl_within.f w 2 3 = some (decide (w = 2 ∨ w = 3)) := by
    unfold impl_within.f
    by_cases h : 2 ≤ w
    · rw [if_pos h]; congr 1; apply decide_eq_decide.2; omega
    · rw [if_neg h]; congr 1; symm; apply decide_eq_false; omega
  unfold impl_GetLen.f getLen
  rw [hin, Option.bind_some]
  by_cases h2 : w = 2 ∨ w = 3
  · rw [if_pos (decide_eq_true h2), impl_GetBcd_at l hl hb a1 w w1 (by omega) k (by omega), Option.bind_some]
    unfold asStr
    simp only
    cases hr : (getBcd l a1 w).2.2 with
    | true =>
      obtain ⟨p1, p2, p3, _⟩ := getBcd_ok l a1 w hb hr
      have hz : (strOfNums (getBcd l a1 w).1).size ≤ 18 := by rw [strOfNums_size]; omega
      rw [if_pos rfl, if_pos ⟨h2, rfl⟩, impl_Narrow_at _ (by omega), Option.bind_some, bytesOf_strOfNums _ p3]
      unfold narrow
      rw [if_pos ⟨p1, by omega⟩]
    | false => rw [if_neg (by simp), if_neg (by simp)]
  · rw [if_neg (by simpa using h2), if_neg (fun q => h2 q.1)]
def kindOf (x : Int) : Int := if x = 2 then 3 else if x = 3 ∨ x = 4 ∨ x = 7 ∨ x = 11 ∨ x = 14 ∨ x = 49 then 1 else if x = 37 ∨ x = 38 ∨ x = 39 ∨ x = 41 ∨ x = 95 then 2 else if x = 102 ∨ x = 103 then 4 else if x = 48 ∨ x = 54 then 5 else 0
def sizeOf_ (x : Int) : Int := if x = 2 then 19 else if x = 3 ∨ x = 11 ∨ x = 38 then 6 else if x = 4 ∨ x = 37 ∨ x = 95 then 12 else if x = 7 then 10 else if x = 14 then 4 else if x = 39 then 2 else if x = 41 then 8 else if x = 49 then 3 else if x = 102 ∨ x = 103 then 20 else if x = 48 ∨ x = 54 then 60 else 0
theorem nos_cases (P : Int → Prop) (h2 : P 2) (h3 : P 3) (h4 : P 4) (h7 : P 7) (h11 : P 11) (h14 : P 14) (h37 : P 37) (h38 : P 38) (h39 : P 39) (h41 : P 41) (h48 : P 48) (h49 : P 49) (h54 : P 54) (h95 : P 95) (h102 : P 102) (h103 : P 103)
    (hno : ∀ x : Int, ¬ x = 2 → ¬ x = 3 → ¬ x = 4 → ¬ x = 7 → ¬ x = 11 → ¬ x = 14 → ¬ x = 37 → ¬ x = 38 → ¬ x = 39 → ¬ x = 41 → ¬ x = 48 → ¬ x = 49 → ¬ x = 54 → ¬ x = 95 → ¬ x = 102 → ¬ x = 103 → P x) (x : Int) : P x := by
  by_cases e2 : x = 2
  · subst e2; exact h2
  by_cases e3 : x = 3
  · subst e3; exact h3
  by_cases e4 : x = 4
  · subst e4; exact h4
  by_cases e7 : x = 7
  · subst e7; exact h7
  by_cases e11 : x = 11
  · subst e11; exact h11
  by_cases e14 : x = 14
  · subst e14; exact h14
  by_cases e37 : x = 37
  · subst e37; exact h37
  by_cases e38 : x = 38
  · subst e38; exact h38
  by_cases e39 : x = 39
  · subst e39; exact h39
  by_cases e41 : x = 41
  · subst e41; exact h41
  by_cases e48 : x = 48
  · subst e48; exact h48
  by_cases e49 : x = 49
  · subst e49; exact h49
  by_cases e54 : x = 54
  · subst e54; exact h54
  by_cases e95 : x = 95
  · subst e95; exact h95
  by_cases e102 : x = 102
  · subst e102; exact h102
  by_cases e103 : x = 103
  · subst e103; exact h103
  exact hno x e2 e3 e4 e7 e11 e14 e37 e38 e39 e41 e48 e49 e54 e95 e102 e103
theorem rowOf_none (x : Int) (l : List S100) (hl : l.length ≤ 1000) (h : ∀ r ∈ l, ¬ r.f0 = x) : ∀ (d n k : Nat), n + d = l.length → d < k →
    impl_rowOf.l0 k x l (l.length : Int) (n : Int) = some (0, 0, 0) := by
  intro d
  induction d with
  | zero =>
    intro n k hd hk
    obtain ⟨k, rfl⟩ : ∃ m, k = m + 1 := ⟨k - 1, by omega⟩
    have c1 : ¬ (n : Int) < (l.length : Int) := by omega
    simp only [impl_rowOf.l0, if_neg c1]
  | succ d ih =>
    intro n k hd hk
    obtain ⟨k, rfl⟩ : ∃ m, k = m + 1 := ⟨k - 1, by omega⟩
    have c1 : (n : Int) < (l.length : Int) := by omega
    have c2 : 0 ≤ (n : Int) := by omega
    have hn : n < l.length := by omega
    have c3 : ¬ (rd_T100 l (n : Int)).f0 = x := by
      have e : rd_T100 l (n : Int) = l[n] := by unfold rd_T100; simp [List.getD, hn]
      rw [e]
      exact h _ (List.getElem_mem hn)
    simp only [impl_rowOf.l0, if_pos c1, if_pos c2, if_neg c3, w64 c2 (by omega)]
    exact ih (n + 1) k (by omega) (by omega)
theorem rowOf_at (x : Int) (k : Nat) (hk : 20 ≤ k) : ∃ y, impl_rowOf.f k x = some (y, kindOf x, sizeOf_ x) := by
  have h : ∃ y, impl_rowOf.f 20 x = some (y, kindOf x, sizeOf_ x) := by
    refine nos_cases (fun x => ∃ y, impl_rowOf.f 20 x = some (y, kindOf x, sizeOf_ x)) ⟨2, by decide +kernel⟩ ⟨3, by decide +kernel⟩ ⟨4, by decide +kernel⟩ ⟨7, by decide +kernel⟩ ⟨11, by decide +kernel⟩ ⟨14, by decide +kernel⟩ ⟨37, by decide +kernel⟩ ⟨38, by decide +kernel⟩ ⟨39, by decide +kernel⟩ ⟨41, by decide +kernel⟩ ⟨48, by decide +kernel⟩ ⟨49, by decide +kernel⟩ ⟨54, by decide +kernel⟩ ⟨95, by decide +kernel⟩ ⟨102, by decide +kernel⟩ ⟨103, by decide +kernel⟩ ?_ x
    intro x e2 e3 e4 e7 e11 e14 e37 e38 e39 e41 e48 e49 e54 e95 e102 e103
    refine ⟨0, ?_⟩
    have hk : kindOf x = 0 := by unfold kindOf; simp [*]
    have hs : sizeOf_ x = 0 := by unfold sizeOf_; simp [*]
    rw [hk, hs]
    obtain ⟨l, hl, hn⟩ : ∃ l, impl_fieldRows.f = some l ∧ l.length = 16 ∧ ∀ r ∈ l, ¬ r.f0 = x := by
      refine ⟨_, rfl, rfl, ?_⟩
      intro r hr
      simp only [List.mem_cons, List.not_mem_nil, or_false] at hr
      rcases hr with rfl | rfl | rfl | rfl | rfl | rfl | rfl | rfl | rfl | rfl | rfl | rfl | rfl | rfl | rfl | rfl <;> (intro h; first | exact e2 h.symm | exact e3 h.symm | exact e4 h.symm | exact e7 h.symm | exact e11 h.symm | exact e14 h.symm | exact e37 h.symm | exact e38 h.symm | exact e39 h.symm | exact e41 h.symm | exact e48 h.symm | exact e49 h.symm | exact e54 h.symm | exact e95 h.symm | exact e102 h.symm | exact e103 h.symm)
    unfold impl_rowOf.f
    rw [hl]
    exact rowOf_none x l (by omega) hn.2 16 0 20 (by omega) (by omega)
  obtain ⟨y, h⟩ := h
  exact ⟨y, later (g := fun k => impl_rowOf.f k x) (fun k => impl_rowOf.mono x k) h k hk⟩
theorem spec_FieldKind_at (x : Int) (k : Nat) (hk : 20 ≤ k) : spec_FieldKind.f k x = some (kindOf x) := by
  refine later (g := fun k => spec_FieldKind.f k x) (fun k => spec_FieldKind.mono x k) ?_ k hk
  show spec_FieldKind.f 20 x = some (kindOf x)
  refine nos_cases (fun x => spec_FieldKind.f 20 x = some (kindOf x)) (by decide +kernel) (by decide +kernel) (by decide +kernel) (by decide +kernel) (by decide +kernel) (by decide +kernel) (by decide +kernel) (by decide +kernel) (by decide +kernel) (by decide +kernel) (by decide +kernel) (by decide +kernel) (by decide +kernel) (by decide +kernel) (by decide +kernel) (by decide +kernel) ?_ x
  intro x e2 e3 e4 e7 e11 e14 e37 e38 e39 e41 e48 e49 e54 e95 e102 e103
  unfold kindOf
  simp [spec_FieldKind.f, spec_FieldKind.j0, spec_FieldKind.j1, spec_FieldKind.j2, *]
theorem spec_FieldSize_at (x : Int) (k : Nat) (hk : 20 ≤ k) : spec_FieldSize.f k x = some (sizeOf_ x) := by
  refine later (g := fun k => spec_FieldSize.f k x) (fun k => spec_FieldSize.mono x k) ?_ k hk
  show spec_FieldSize.f 20 x = some (sizeOf_ x)
  refine nos_cases (fun x => spec_FieldSize.f 20 x = some (sizeOf_ x)) (by decide +kernel) (by decide +kernel) (by decide +kernel) (by decide +kernel) (by decide +kernel) (by decide +kernel) (by decide +kernel) (by decide +kernel) (by decide +kernel) (by decide +kernel) (by decide +kernel) (by decide +kernel) (by decide +kernel) (by decide +kernel) (by decide +kernel) (by decide +kernel) ?_ x
  intro x e2 e3 e4 e7 e11 e14 e37 e38 e39 e41 e48 e49 e54 e95 e102 e103
  unfold sizeOf_
  simp [spec_FieldSize.f, spec_FieldSize.j0, spec_FieldSize.j1, spec_FieldSize.j2, *]
def isPri (c : Int) : Bool := decide (32 ≤ c) && decide (c ≤ 126)
theorem spec_Printable_l (s : ByteArray) (hs : s.size ≤ 140737488351232) : ∀ (d n k : Nat), n + d = s.size → d < k →
    spec_Printable.l0 k s (n : Int) = some (((bytesOf s).drop n).all isPri) := by
  intro d
  induction d with
  | zero =>
    intro n k hd hk
    obtain ⟨k, rfl⟩ : ∃ m, k = m + 1 := ⟨k - 1, by omega⟩
    simp only [spec_Printable.l0]
    rw [if_neg (by omega), List.drop_of_length_le (by rw [bytesOf_length]; omega)]
    simp
  | succ d ih =>
    intro n k hd hk
    obtain ⟨k, rfl⟩ : ∃ m, k = m + 1 := ⟨k - 1, by omega⟩
    simp only [spec_Printable.l0]
    rw [if_pos (by omega), if_pos (by omega), drop_bt s n (by omega), List.all_cons]
    by_cases h1 : bt s (n : Int) < 32
    · rw [if_pos h1]
      have e : isPri (bt s (n : Int)) = false := by unfold isPri; simp; omega
      rw [e]; simp
    · rw [if_neg h1]
      by_cases h2 : bt s (n : Int) > 126
      · rw [if_pos h2]
        have e : isPri (bt s (n : Int)) = false := by unfold isPri; simp; omega
        rw [e]; simp
      · rw [if_neg h2, w64 (by omega) (by omega)]
        have e : isPri (bt s (n : Int)) = true := by unfold isPri; simp; omega
        rw [e, Bool.true_and]
        exact ih (n + 1) k (by omega) (by omega)
theorem spec_Printable_at (s : ByteArray) (hs : s.size ≤ 140737488351232) (k : Nat) (hk : s.size < k) : spec_Printable.f k s = some ((bytesOf s).all isPri) := by
  unfold spec_Printable.f
  have h := spec_Printable_l s hs s.size 0 k (by omega) hk
  simpa using h
theorem impl_Printable_l (s : ByteArray) (hs : s.size ≤ 140737488351232) : ∀ (d n k : Nat), n + d = s.size → d < k →
    impl_Printable.l0 k s (s.size : Int) (n : Int) = some (((bytesOf s).drop n).all isPri) := by
  intro d
  induction d with
  | zero =>
    intro n k hd hk
    obtain ⟨k, rfl⟩ : ∃ m, k = m + 1 := ⟨k - 1, by omega⟩
    simp only [impl_Printable.l0]
    rw [if_neg (by omega), List.drop_of_length_le (by rw [bytesOf_length]; omega)]
    simp
  | succ d ih =>
    intro n k hd hk
    obtain ⟨k, rfl⟩ : ∃ m, k = m + 1 := ⟨k - 1, by omega⟩
    simp only [impl_Printable.l0]
    rw [if_pos (by omega), if_pos (by omega), if_pos (by omega), drop_bt s n (by omega), List.all_cons]
    by_cases h1 : bt s (n : Int) < 32
    · rw [if_pos h1]
      have e : isPri (bt s (n : Int)) = false := by unfold isPri; simp; omega
      rw [e]; simp
    · rw [if_neg h1]
      by_cases h2 : bt s (n : Int) > 126
      · rw [if_pos h2]
        have e : isPri (bt s (n : Int)) = false := by unfold isPri; simp; omega
        rw [e]; simp
      · rw [if_neg h2, w64 (by omega) (by omega)]
        have e : isPri (bt s (n : Int)) = true := by unfold isPri; simp; omega
        rw [e, Bool.true_and]
        exact ih (n + 1) k (by omega) (by omega)
theorem impl_Printable_at (s : ByteArray) (hs : s.size ≤ 140737488351232) (k : Nat) (hk : s.size < k) : impl_Printable.f k s = some ((bytesOf s).all isPri) := by
  unfold impl_Printable.f
  have h := impl_Printable_l s hs s.size 0 k (by omega) hk
  simpa using h
def fieldOk (x : Int) (l : List Int) : Bool :=
  if kindOf x = 1 then digs l && ((l.length : Int) == sizeOf_ x)
  else if kindOf x = 2 then l.all isPri && ((l.length : Int) == sizeOf_ x)
  else if kindOf x = 3 then digs l && decide ((l.length : Int) ≤ sizeOf_ x)
  else if kindOf x = 4 ∨ kindOf x = 5 then l.all isPri && decide (1 ≤ (l.length : Int) ∧ (l.length : Int) ≤ sizeOf_ x)
  else false
theorem kind_range (x : Int) : 0 ≤ kindOf x ∧ kindOf x ≤ 5 := by
  unfold kindOf
  repeat' split
  all_goals omega
theorem impl_FieldOk_at (x : Int) (s : ByteArray) (hs : s.size ≤ 140737488351232) (k : Nat) (hk : s.size + 22 < k) : impl_FieldOk.f k x s = some (fieldOk x (bytesOf s)) := by
  unfold impl_FieldOk.f fieldOk
  obtain ⟨y, hy⟩ := rowOf_at x k (by omega)
  rw [hy, Option.bind_some]
  simp only
  obtain ⟨r0, r1⟩ := kind_range x
  have hl := bytesOf_length s
  rw [hl]
  generalize kindOf x = t at r0 r1
  have hin : impl_within.f (s.size : Int) 1 (sizeOf_ x) = some (decide (1 ≤ (s.size : Int) ∧ (s.size : Int) ≤ sizeOf_ x)) := by
    unfold impl_within.f
    by_cases h : 1 ≤ (s.size : Int)
    · rw [if_pos h]; simp only [h, true_and]
    · rw [if_neg h]; simp only [h, false_and, decide_false]
  by_cases h1 : t = 1
  · rw [if_pos h1, if_pos h1, impl_Digits_at s hs k (by omega), Option.bind_some]
    cases digs (bytesOf s) <;> simp
  by_cases h2 : t = 2
  · rw [if_neg h1, if_neg h1, if_pos h2, if_pos h2, impl_Printable_at s hs k (by omega), Option.bind_some]
    cases (bytesOf s).all isPri <;> simp
  by_cases h3 : t = 3
  · rw [if_neg h1, if_neg h1, if_neg h2, if_neg h2, if_pos h3, if_pos h3, impl_Digits_at s hs k (by omega), Option.bind_some, hin]
    by_cases hg : digs (bytesOf s) = true
    · have := (digs_and _ hg).2
      rw [hl] at this
      have h' : 1 ≤ (s.size : Int) := by omega
      rw [if_pos hg, hg]
      simp only [h', true_and, Option.bind_some, Bool.true_and]
    · rw [if_neg hg]
      simp [hg]
  rw [if_neg h1, if_neg h1, if_neg h2, if_neg h2, if_neg h3, if_neg h3]
  obtain ⟨k, rfl⟩ : ∃ m, k = m + 1 := ⟨k - 1, by omega⟩
  have hp := impl_Printable_at s hs k (by omega)
  by_cases h4 : t = 4 ∨ t = 5
  · rw [if_pos h4]
    have e : (if t = 4 then impl_FieldOk.j0 (k + 1) s (t == 4) y t (sizeOf_ x) else impl_FieldOk.j0 (k + 1) s (t == 5) y t (sizeOf_ x)) = impl_FieldOk.j0 (k + 1) s true y t (sizeOf_ x) := by
      rcases h4 with h | h
      · rw [if_pos h, h]; rfl
      · rw [if_neg (by omega), h]; rfl
    rw [e, impl_FieldOk.j0, if_pos rfl, hp, Option.bind_some, hin]
    cases (bytesOf s).all isPri <;> simp
  · rw [if_neg h4]
    have e : (if t = 4 then impl_FieldOk.j0 (k + 1) s (t == 4) y t (sizeOf_ x) else impl_FieldOk.j0 (k + 1) s (t == 5) y t (sizeOf_ x)) = impl_FieldOk.j0 (k + 1) s false y t (sizeOf_ x) := by
      have h5 : ¬ t = 5 := fun h => h4 (Or.inr h)
      rw [if_neg (fun h => h4 (Or.inl h)), show (t == 5) = false from by simpa using h5]
    rw [e, impl_FieldOk.j0, if_neg (by simp)]
theorem sizeOf_range (x : Int) : 0 ≤ sizeOf_ x ∧ sizeOf_ x ≤ 60 := by
  unfold sizeOf_
  repeat' split
  all_goals omega
theorem spec_l03Width_at (t : Int) (k : Nat) (hk : 2 ≤ k) : spec_l03Width.f k t = some (if t = 3 ∨ t = 4 then 2 else if t = 5 then 3 else 0) := by
  obtain ⟨k, rfl⟩ : ∃ m, k = m + 1 := ⟨k - 1, by omega⟩
  unfold spec_l03Width.f
  by_cases h3 : t = 3
  · subst h3; rfl
  by_cases h4 : t = 4
  · subst h4; rfl
  have e4 : (t == 4) = false := by simp [h4]
  rw [if_neg h3, if_neg (by omega), e4, spec_l03Width.j0, if_neg (by simp)]
  split <;> rfl
theorem known (x : Int) (h : ¬ kindOf x = 0) : x = 2 ∨ (x = 3 ∨ x = 4 ∨ x = 7 ∨ x = 11 ∨ x = 14 ∨ x = 49) ∨ (x = 37 ∨ x = 38 ∨ x = 39 ∨ x = 41 ∨ x = 95) ∨ (x = 102 ∨ x = 103) ∨ (x = 48 ∨ x = 54) := by
  unfold kindOf at h
  by_cases a : x = 2
  · exact .inl a
  by_cases b : x = 3 ∨ x = 4 ∨ x = 7 ∨ x = 11 ∨ x = 14 ∨ x = 49
  · exact .inr (.inl b)
  by_cases c : x = 37 ∨ x = 38 ∨ x = 39 ∨ x = 41 ∨ x = 95
  · exact .inr (.inr (.inl c))
  by_cases d : x = 102 ∨ x = 103
  · exact .inr (.inr (.inr (.inl d)))
  by_cases e : x = 48 ∨ x = 54
  · exact .inr (.inr (.inr (.inr e)))
  rw [if_neg a, if_neg b, if_neg c, if_neg d, if_neg e] at h
  exact absurd rfl h
theorem size_pos (x : Int) (h : ¬ kindOf x = 0) : 1 ≤ sizeOf_ x := by
  rcases known x h with rfl | (rfl | rfl | rfl | rfl | rfl | rfl) | (rfl | rfl | rfl | rfl | rfl) | (rfl | rfl) | (rfl | rfl) <;> decide
theorem fieldOk_len (x : Int) (l : List Int) (h : fieldOk x l = true) : 1 ≤ l.length ∧ (l.length : Int) ≤ sizeOf_ x := by
  unfold fieldOk at h
  have s0 := sizeOf_range x
  have hs : kindOf x = 2 → 1 ≤ sizeOf_ x := fun h => size_pos x (by omega)
  split at h
  · rename_i q
    simp only [Bool.and_eq_true, beq_iff_eq] at h
    have := (digs_and _ h.1).2
    omega
  split at h
  · rename_i q q2
    simp only [Bool.and_eq_true, beq_iff_eq] at h
    have := hs q2
    omega
  split at h
  · simp only [Bool.and_eq_true, decide_eq_true_eq] at h
    have := (digs_and _ h.1).2
    omega
  split at h
  · simp only [Bool.and_eq_true, decide_eq_true_eq] at h
    omega
  · exact absurd h (by simp)
theorem impl_FieldKind_at (x : Int) (k : Nat) (hk : 20 ≤ k) : impl_FieldKind.f k x = some (kindOf x) := by
  obtain ⟨y, h⟩ := rowOf_at x k hk
  unfold impl_FieldKind.f
  rw [h]; rfl
def prefixed (x : Int) : Bool := decide (kindOf x = 3 ∨ kindOf x = 4 ∨ kindOf x = 5)
def lenWidth (x : Int) : Int := if kindOf x = 5 then 3 else 2
def inDigits (x : Int) : Bool := decide (kindOf x = 1 ∨ kindOf x = 3)
theorem impl_lenDigits_at (x : Int) (k : Nat) (hk : 20 ≤ k) : impl_lenDigits.f k x = some (lenWidth x) := by
  unfold impl_lenDigits.f lenWidth
  rw [impl_FieldKind_at x k hk, Option.bind_some]
  split <;> rfl
theorem impl_FieldSize_at (x : Int) (k : Nat) (hk : 20 ≤ k) : impl_FieldSize.f k x = some (sizeOf_ x) := by
  obtain ⟨y, h⟩ := rowOf_at x k hk
  unfold impl_FieldSize.f
  rw [h]; rfl
def gfHead (l : List Int) (a1 x : Int) : Int × Int × Bool := if prefixed x = true then getLen l a1 (lenWidth x) else (sizeOf_ x, a1, true)
def pieceAt (l : List Int) (a n : Int) : List Int × Int × Bool := if 0 ≤ a ∧ a ≤ (l.length : Int) ∧ 0 ≤ n ∧ n ≤ (l.length : Int) - a then (cutAt l a.toNat n.toNat, a + n, true) else ([], 0, false)
def gfBody (l : List Int) (a n x : Int) : List Int × Int × Bool := if inDigits x = true then getBcd l a n else pieceAt l a n
def gfFin (x : Int) (r : List Int × Int × Bool) : List Int × Int × Bool := if r.2.2 = true ∧ fieldOk x r.1 = true then (r.1, r.2.1, true) else ([], 0, false)
def getField (l : List Int) (a1 x : Int) : List Int × Int × Bool :=
  if (gfHead l a1 x).2.2 = true then gfFin x (gfBody l (gfHead l a1 x).2.1 (gfHead l a1 x).1 x) else ([], 0, false)
theorem natFrom_le : ∀ (l : List Int) (a n : Nat), l.all isDig = true → a < 10 ^ n → natFrom a l < 10 ^ (n + l.length) := by
  intro l
  induction l with
  | nil => intro a n _ h; exact h
  | cons c t ih =>
    intro a n h ha
    simp only [List.all_cons, Bool.and_eq_true] at h
    have hc := dig_range' h.1
    rw [natFrom]
    have := ih (a * 10 + (c - 48).toNat) (n + 1) h.2 (by rw [Nat.pow_succ]; omega)
    rw [List.length_cons, show n + (t.length + 1) = n + 1 + t.length by omega]
    exact this
theorem getLen_ok (l : List Int) (a1 w : Int) (hb : ∀ c ∈ l, isByte c) (h : (getLen l a1 w).2.2 = true) :
    0 ≤ (getLen l a1 w).1 ∧ (getLen l a1 w).1 ≤ 999 ∧ 0 ≤ (getLen l a1 w).2.1 ∧ (getLen l a1 w).2.1 ≤ (l.length : Int) ∧ 0 ≤ a1 := by
  unfold getLen at h ⊢
  by_cases q : (w = 2 ∨ w = 3) ∧ (getBcd l a1 w).2.2 = true
  · rw [if_pos q]
    obtain ⟨p1, p2, p3, p4, p5, p6, p7, p8⟩ := getBcd_ok l a1 w hb q.2
    have hn := natFrom_le (getBcd l a1 w).1 0 0 (digs_and _ p1).1 (by decide)
    rw [p2] at hn
    have h3 : (10 : Nat) ^ (0 + w.toNat) ≤ 1000 := by
      rcases q.1 with rfl | rfl <;> decide
    simp only
    refine ⟨by omega, by omega, by omega, by omega, p7⟩
  · rw [if_neg q] at h
    exact absurd h (by simp)
theorem gfHead_ok (l : List Int) (a1 x : Int) (hb : ∀ c ∈ l, isByte c) (hl : l.length ≤ 140737488351232) (w1 : -9223372036854775808 ≤ a1 ∧ a1 ≤ 9223372036854775807) (h : (gfHead l a1 x).2.2 = true) :
    0 ≤ (gfHead l a1 x).1 ∧ (gfHead l a1 x).1 ≤ 999 ∧ -9223372036854775808 ≤ (gfHead l a1 x).2.1 ∧ (gfHead l a1 x).2.1 ≤ 9223372036854775807 := by
  unfold gfHead at h ⊢
  by_cases q : prefixed x = true
  · rw [if_pos q] at h ⊢
    obtain ⟨p1, p2, p3, p4, _⟩ := getLen_ok l a1 _ hb h
    omega
  · rw [if_neg q]
    have := sizeOf_range x
    simp only
    omega
theorem fin_impl (x : Int) (r : List Int × Int × Bool) (hr : ∀ c ∈ r.1, isByte c) (hz : r.1.length ≤ 140737488351232) (hno : r.2.2 = false → r = ([], 0, false)) (e : Int) (he : r.2.2 = true → e = r.2.1) (k : Nat) (hk : r.1.length + 30 ≤ k) :
    (if r.2.2 = true then (impl_FieldOk.f k x (strOfNums r.1)).bind fun t => (if t = true then some (strOfNums r.1, e, true) else some ((⟨#[]⟩ : ByteArray), 0, false)) else some ((⟨#[]⟩ : ByteArray), 0, false)) = some (asStr (gfFin x r)) := by
  unfold gfFin
  cases hr2 : r.2.2 with
  | true =>
    rw [if_pos rfl, impl_FieldOk_at x _ (by rw [strOfNums_size]; exact hz) k (by rw [strOfNums_size]; omega), Option.bind_some, bytesOf_strOfNums _ hr]
    cases hf : fieldOk x r.1 with
    | true => rw [if_pos rfl, if_pos ⟨rfl, rfl⟩, he hr2]; rfl
    | false => rw [if_neg (by simp), if_neg (by simp), asStr_none]
  | false => rw [if_neg (by simp), if_neg (by simp), asStr_none]
theorem getBcd_bytes (l : List Int) (a n : Int) (hb : ∀ c ∈ l, isByte c) : ∀ c ∈ (getBcd l a n).1, isByte c := by
  cases h : (getBcd l a n).2.2 with
  | true => exact (getBcd_ok l a n hb h).2.2.1
  | false => rw [getBcd_no l a n h]; simp
theorem getBcd_size (l : List Int) (a n : Int) (hb : ∀ c ∈ l, isByte c) : (getBcd l a n).1.length ≤ 38 := by
  cases h : (getBcd l a n).2.2 with
  | true =>
    obtain ⟨_, p2, _, _, _, p6, _⟩ := getBcd_ok l a n hb h
    omega
  | false => rw [getBcd_no l a n h]; simp
theorem pieceAt_facts (l : List Int) (a n : Int) (hb : ∀ c ∈ l, isByte c) :
    (∀ c ∈ (pieceAt l a n).1, isByte c) ∧ (pieceAt l a n).1.length ≤ n.toNat ∧ ((pieceAt l a n).2.2 = false → pieceAt l a n = ([], 0, false)) ∧ ((pieceAt l a n).2.2 = true → (pieceAt l a n).1.length = n.toNat ∧ (pieceAt l a n).2.1 = a + n) := by
  unfold pieceAt
  by_cases q : 0 ≤ a ∧ a ≤ (l.length : Int) ∧ 0 ≤ n ∧ n ≤ (l.length : Int) - a
  · rw [if_pos q]
    have := cutAt_length l a.toNat n.toNat (by omega)
    exact ⟨fun c hc => hb c (cutAt_mem _ _ _ c hc), by simp only; omega, fun h => absurd h (by simp), fun _ => ⟨this, rfl⟩⟩
  · rw [if_neg q]
    exact ⟨by simp, by simp, fun _ => rfl, fun h => absurd h (by simp)⟩
theorem impl_GetField_at (l : List Int) (hl : l.length ≤ 140737488351232) (hb : ∀ c ∈ l, isByte c) (a1 x : Int) (w1 : -9223372036854775808 ≤ a1 ∧ a1 ≤ 9223372036854775807) (k : Nat) (hk : 1100 < k) :
    impl_GetField.f k l a1 x = some (asStr (getField l a1 x)) := by
  obtain ⟨k, rfl⟩ : ∃ m, k = m + 3 := ⟨k - 3, by omega⟩
  have h2 : ∀ (a n : Int) (h : Bool), -9223372036854775808 ≤ a ∧ a ≤ 9223372036854775807 → 0 ≤ n ∧ n ≤ 999 → h = inDigits x → impl_GetField.j2 (k + 1) l a x n h = some (asStr (gfFin x (gfBody l a n x))) := by
    intro a n h ha hn e
    subst e
    rw [impl_GetField.j2]
    unfold gfBody
    by_cases q : inDigits x = true
    · rw [if_pos q, if_pos q, impl_GetBcd_at l hl hb a n ha (by omega) k (by omega), Option.bind_some]
      exact fin_impl x (getBcd l a n) (getBcd_bytes l a n hb) (by have := getBcd_size l a n hb; omega) (getBcd_no l a n) _ (fun _ => rfl) k (by have := getBcd_size l a n hb; omega)
    · rw [if_neg q, if_neg q, impl_piece_at]
      obtain ⟨f1, f2, f3, f4⟩ := pieceAt_facts l a n hb
      have h5 := fin_impl x (pieceAt l a n) f1 (by omega) f3 (wrap64 (a + n)) (fun h => by
        rw [(f4 h).2]
        unfold pieceAt at h
        split at h
        · rename_i z
          unfold wrap64
          omega
        · exact absurd h (by simp)) k (by omega)
      rw [← h5]
      unfold pieceAt
      split <;> rfl
  have h1 : ∀ (a n : Int) (ok : Bool), (ok = true → (-9223372036854775808 ≤ a ∧ a ≤ 9223372036854775807) ∧ (0 ≤ n ∧ n ≤ 999)) → impl_GetField.j1 (k + 2) l a x n (kindOf x) ok = some (asStr (if ok = true then gfFin x (gfBody l a n x) else ([], 0, false))) := by
    intro a n ok h
    rw [impl_GetField.j1]
    cases ok with
    | true =>
      obtain ⟨ha, hn⟩ := h rfl
      rw [if_pos rfl, if_pos rfl]
      by_cases q : kindOf x = 1
      · rw [if_pos q]; exact h2 a n true ha hn (by unfold inDigits; simp [q])
      · rw [if_neg q]
        refine h2 a n _ ha hn ?_
        unfold inDigits
        by_cases q3 : kindOf x = 3 <;> simp [q, q3]
    | false => rw [if_neg (by simp), if_neg (by simp), asStr_none]
  have hh := gfHead_ok l a1 x hb hl w1
  have h0 : ∀ h : Bool, h = prefixed x → impl_GetField.j0 (k + 3) l a1 x (sizeOf_ x) (kindOf x) true h = some (asStr (getField l a1 x)) := by
    intro h e
    subst e
    rw [impl_GetField.j0]
    unfold getField
    unfold gfHead at hh ⊢
    by_cases q : prefixed x = true
    · rw [if_pos q, impl_lenDigits_at x (k + 2) (by omega), Option.bind_some, impl_GetLen_at l hl hb a1 _ w1 (k + 2) (by omega), Option.bind_some, if_pos q]
      rw [if_pos q] at hh
      exact h1 _ _ _ (fun z => by have := hh z; omega)
    · rw [if_neg q, if_neg q]
      rw [if_neg q] at hh
      exact h1 a1 (sizeOf_ x) true (fun z => by have := hh rfl; simp only at this; omega)
  unfold impl_GetField.f
  rw [impl_FieldSize_at x _ (by omega), Option.bind_some, impl_FieldKind_at x _ (by omega), Option.bind_some]
  by_cases q3 : kindOf x = 3
  · rw [if_pos q3]; exact h0 true (by unfold prefixed; simp [q3])
  rw [if_neg q3]
  by_cases q4 : kindOf x = 4
  · rw [if_pos q4]; exact h0 true (by unfold prefixed; simp [q4])
  rw [if_neg q4]
  refine h0 _ ?_
  unfold prefixed
  by_cases q5 : kindOf x = 5 <;> simp [q3, q4, q5]
theorem pieceAt_yes (l : List Int) (a n : Int) (h : 0 ≤ a ∧ a ≤ (l.length : Int) ∧ 0 ≤ n ∧ n ≤ (l.length : Int) - a) : pieceAt l a n = (cutAt l a.toNat n.toNat, a + n, true) := if_pos h
theorem pieceAt_no (l : List Int) (a n : Int) (h : ¬ (0 ≤ a ∧ a ≤ (l.length : Int) ∧ 0 ≤ n ∧ n ≤ (l.length : Int) - a)) : pieceAt l a n = ([], 0, false) := if_neg h
theorem gfFin_digits (x : Int) (l : List Int) (a n : Int) (hb : ∀ c ∈ l, isByte c) (hd : inDigits x = true) (hn : 1 ≤ n) (hn2 : n ≤ sizeOf_ x) (h1 : prefixed x = false → n = sizeOf_ x) :
    gfFin x (getBcd l a n) = getBcd l a n := by
  unfold gfFin
  cases h : (getBcd l a n).2.2 with
  | true =>
    obtain ⟨p1, p2, _⟩ := getBcd_ok l a n hb h
    have hf : fieldOk x (getBcd l a n).1 = true := by
      unfold fieldOk
      have hd' := of_decide_eq_true hd
      rcases hd' with q | q
      · rw [if_pos q, p1]
        have hp : prefixed x = false := by unfold prefixed; simp [q]
        have := h1 hp
        simp only [Bool.true_and, beq_iff_eq]
        omega
      · rw [if_neg (by omega), if_neg (by omega), if_pos q, p1]
        simp only [Bool.true_and, decide_eq_true_eq]
        omega
    rw [if_pos ⟨rfl, hf⟩, ← h]
  | false => rw [if_neg (by simp), getBcd_no l a n h]
theorem gfFin_text (x : Int) (l : List Int) (a n : Int) (hd : inDigits x = false) (h0 : ¬ kindOf x = 0) (hn : 1 ≤ n) (hn2 : n ≤ sizeOf_ x) (h1 : prefixed x = false → n = sizeOf_ x) :
    gfFin x (pieceAt l a n) = if (0 ≤ a ∧ a ≤ (l.length : Int) ∧ n ≤ (l.length : Int) - a) ∧ (cutAt l a.toNat n.toNat).all isPri = true then (cutAt l a.toNat n.toNat, a + n, true) else ([], 0, false) := by
  unfold gfFin
  by_cases q : 0 ≤ a ∧ a ≤ (l.length : Int) ∧ n ≤ (l.length : Int) - a
  · rw [pieceAt_yes l a n ⟨q.1, q.2.1, by omega, q.2.2⟩]
    have hlen := cutAt_length l a.toNat n.toNat (by omega)
    have hf : fieldOk x (cutAt l a.toNat n.toNat) = (cutAt l a.toNat n.toNat).all isPri := by
      unfold fieldOk
      have hd' := of_decide_eq_false hd
      have kr := kind_range x
      rw [if_neg (by omega), hlen]
      by_cases q2 : kindOf x = 2
      · have hp : prefixed x = false := by unfold prefixed; simp [q2]
        have := h1 hp
        rw [if_pos q2]
        have e : (((n.toNat : Nat) : Int) == sizeOf_ x) = true := by simp only [beq_iff_eq]; omega
        rw [e, Bool.and_true]
      · rw [if_neg q2, if_neg (by omega), if_pos (by omega)]
        have e : decide (1 ≤ ((n.toNat : Nat) : Int) ∧ ((n.toNat : Nat) : Int) ≤ sizeOf_ x) = true := decide_eq_true (by omega)
        rw [e, Bool.and_true]
    by_cases z : (cutAt l a.toNat n.toNat).all isPri = true
    · rw [if_pos ⟨rfl, hf.trans z⟩, if_pos ⟨q, z⟩]
    · rw [if_neg (fun h => z (hf.symm.trans h.2)), if_neg (fun h => z h.2)]
  · rw [pieceAt_no l a n (fun h => q ⟨h.1, h.2.1, h.2.2.2⟩), if_neg (by simp), if_neg (fun h => q h.1)]
theorem gfFin_out (x : Int) (l : List Int) (a n : Int) (hb : ∀ c ∈ l, isByte c) (hn : ¬ (1 ≤ n ∧ n ≤ sizeOf_ x)) (h0 : 0 ≤ n) : gfFin x (gfBody l a n x) = ([], 0, false) := by
  unfold gfFin gfBody
  by_cases q : inDigits x = true
  · rw [if_pos q]
    refine if_neg (fun h => ?_)
    obtain ⟨p1, p2, _⟩ := getBcd_ok l a n hb h.1
    have := fieldOk_len x _ h.2
    omega
  · rw [if_neg q]
    refine if_neg (fun h => ?_)
    have p := (pieceAt_facts l a n hb).2.2.2 h.1
    have := fieldOk_len x _ h.2
    omega
theorem spec_l01In_at (a b c : Int) : spec_l01In.f a b c = some (decide (b ≤ a ∧ a ≤ c)) := by
  unfold spec_l01In.f
  by_cases h : a ≥ b
  · rw [if_pos h]; congr 1; apply decide_eq_decide.2; omega
  · rw [if_neg h]; congr 1; symm; apply decide_eq_false; omega
theorem spec_GetField_at (l : List Int) (hl : l.length ≤ 140737488351232) (hb : ∀ c ∈ l, isByte c) (a1 x : Int) (w1 : -9223372036854775808 ≤ a1 ∧ a1 ≤ 9223372036854775807) (k : Nat) (hk : 1100 < k) :
    spec_GetField.f k l a1 x = some (asStr (getField l a1 x)) := by
  obtain ⟨k, rfl⟩ : ∃ m, k = m + 3 := ⟨k - 3, by omega⟩
  have s0 := sizeOf_range x
  have kr := kind_range x
  have h2 : ∀ (a n : Int) (h : Bool), 0 ≤ a ∧ a ≤ 9223372036854775807 → 1 ≤ n ∧ n ≤ sizeOf_ x → (prefixed x = false → n = sizeOf_ x) → ¬ kindOf x = 0 → h = inDigits x → spec_GetField.j2 (k + 1) l a n h = some (asStr (gfFin x (gfBody l a n x))) := by
    intro a n h ha hn h1 hk0 e
    subst e
    rw [spec_GetField.j2]
    unfold gfBody
    by_cases q : inDigits x = true
    · rw [if_pos q, if_pos q, spec_GetBcd_at l hl hb a n (by omega) (by omega) k (by omega), Option.bind_some, gfFin_digits x l a n hb q hn.1 hn.2 h1]
    · rw [if_neg q, if_neg q, gfFin_text x l a n (by simpa using q) hk0 hn.1 hn.2 h1]
      by_cases z1 : a > (l.length : Int)
      · rw [if_pos z1, if_neg (by omega), asStr_none]
      have e0 : wrap64 ((l.length : Int) - a) = (l.length : Int) - a := by unfold wrap64; omega
      rw [if_neg z1, e0]
      by_cases z2 : n > (l.length : Int) - a
      · rw [if_pos z2, if_neg (by omega), asStr_none]
      have e1 : wrap64 (a + n) = a + n := by unfold wrap64; omega
      have e2 : (a + n).toNat = a.toNat + n.toNat := by omega
      have hlen := cutAt_length l a.toNat n.toNat (by omega)
      rw [if_neg z2, e1, if_pos (by omega), if_pos (by omega), if_pos (by omega), e2, cutAt_take, spec_Printable_at _ (by rw [strOfNums_size]; omega) k (by rw [strOfNums_size]; omega), Option.bind_some, bytesOf_strOfNums _ (fun c hc => hb c (cutAt_mem _ _ _ c hc))]
      by_cases z3 : (cutAt l a.toNat n.toNat).all isPri = true
      · rw [if_pos z3, if_pos ⟨by omega, z3⟩]; rfl
      · rw [if_neg z3, if_neg (fun h => z3 h.2), asStr_none]
  have h1 : ∀ (a n : Int), 0 ≤ a ∧ a ≤ 9223372036854775807 → 1 ≤ n ∧ n ≤ sizeOf_ x → (prefixed x = false → n = sizeOf_ x) → ¬ kindOf x = 0 → spec_GetField.j1 (k + 2) l a (kindOf x) n = some (asStr (gfFin x (gfBody l a n x))) := by
    intro a n ha hn hp hk0
    rw [spec_GetField.j1]
    by_cases q : kindOf x = 1
    · rw [if_pos q]; exact h2 a n true ha hn hp hk0 (by unfold inDigits; simp [q])
    · rw [if_neg q]
      refine h2 a n _ ha hn hp hk0 ?_
      unfold inDigits
      by_cases q3 : kindOf x = 3 <;> simp [q, q3]
  unfold spec_GetField.f
  rw [spec_FieldKind_at x _ (by omega), Option.bind_some, spec_FieldSize_at x _ (by omega), Option.bind_some]
  by_cases q0 : kindOf x = 0
  · rw [if_pos q0, spec_GetField.j0, if_pos rfl]
    have hz : getField l a1 x = ([], 0, false) := by
      have hp : ¬ prefixed x = true := by unfold prefixed; simp [q0]
      unfold getField gfHead
      rw [if_neg hp]
      refine (if_pos rfl).trans ?_
      unfold gfFin fieldOk
      refine if_neg (fun h => ?_)
      have := h.2
      rw [if_neg (by omega), if_neg (by omega), if_neg (by omega), if_neg (by omega)] at this
      exact absurd this (by simp)
    rw [hz, asStr_none]
  have hs1 : 1 ≤ sizeOf_ x := size_pos x q0
  rw [if_neg q0]
  by_cases q1 : a1 < 0
  · rw [decide_eq_true q1, spec_GetField.j0, if_pos rfl]
    have hz : getField l a1 x = ([], 0, false) := by
      unfold getField
      by_cases p : prefixed x = true
      · refine if_neg (fun h => ?_)
        unfold gfHead at h
        rw [if_pos p] at h
        have := (getLen_ok l a1 _ hb h).2.2.2.2
        omega
      · unfold gfHead
        rw [if_neg p]
        refine (if_pos rfl).trans ?_
        unfold gfFin gfBody
        refine if_neg (fun h => ?_)
        by_cases d : inDigits x = true
        · rw [if_pos d] at h
          have := (getBcd_ok l a1 _ hb h.1).2.2.2.2.2.2.1
          omega
        · rw [if_neg d] at h
          have h1 := h.1
          rw [pieceAt_no _ _ _ (fun z => absurd z.1 (by simp only; omega))] at h1
          exact absurd h1 (by simp)
    rw [hz, asStr_none]
  rw [decide_eq_false q1, spec_GetField.j0, if_neg (by simp), spec_l03Width_at _ (k + 2) (by omega), Option.bind_some]
  by_cases p : prefixed x = true
  · have p' := of_decide_eq_true p
    have e : (if kindOf x = 3 ∨ kindOf x = 4 then (2 : Int) else if kindOf x = 5 then 3 else 0) = lenWidth x := by
      unfold lenWidth
      by_cases q5 : kindOf x = 5
      · rw [if_neg (by omega), if_pos q5, if_pos q5]
      · rw [if_pos (by omega), if_neg q5]
    have hw : lenWidth x > 0 := by unfold lenWidth; split <;> omega
    rw [e, if_pos hw, Option.bind_some, spec_GetLen_at l hl hb a1 _ w1 (k + 2) (by omega), Option.bind_some]
    unfold getField gfHead
    rw [if_pos p]
    cases hg : (getLen l a1 (lenWidth x)).2.2 with
    | true =>
      obtain ⟨g1, g2, g3, g4, _⟩ := getLen_ok l a1 _ hb hg
      rw [if_pos rfl, if_pos rfl, spec_l01In_at, Option.bind_some]
      by_cases z : 1 ≤ (getLen l a1 (lenWidth x)).1 ∧ (getLen l a1 (lenWidth x)).1 ≤ sizeOf_ x
      · rw [decide_eq_true z, if_pos rfl]
        exact h1 _ _ (by omega) z (fun h => by rw [p] at h; exact absurd h (by simp)) q0
      · rw [decide_eq_false z, if_neg (by simp), gfFin_out x l _ _ hb z g1, asStr_none]
    | false => rw [if_neg (by simp), if_neg (by simp), asStr_none]
  · have p2 : prefixed x = false := by simpa using p
    have p' := of_decide_eq_false p2
    rw [if_neg (by omega)]
    unfold getField gfHead
    rw [if_neg p]
    refine (h1 a1 (sizeOf_ x) (by omega) (by omega) (fun _ => rfl) q0).trans ?_
    exact congrArg (fun z => some (asStr z)) (if_pos rfl).symm
theorem toByteS_l (l : List Int) (hl : l.length ≤ 10000000) : ∀ (d n k : Nat) (y : List Int), n + d = l.length → y.length = l.length → y.take n = l.take n → d < k →
    laws_toByteS.l0 k l y (n : Int) = some l := by
  intro d
  induction d with
  | zero =>
    intro n k y hd hy ht hk
    obtain ⟨k, rfl⟩ : ∃ m, k = m + 1 := ⟨k - 1, by omega⟩
    have c1 : ¬ (n : Int) < (l.length : Int) := by omega
    simp only [laws_toByteS.l0, if_neg c1]
    have hn : n = l.length := by omega
    rw [hn, List.take_length, List.take_of_length_le (by omega)] at ht
    rw [ht]
  | succ d ih =>
    intro n k y hd hy ht hk
    obtain ⟨k, rfl⟩ : ∃ m, k = m + 1 := ⟨k - 1, by omega⟩
    have c1 : (n : Int) < (l.length : Int) := by omega
    have c2 : 0 ≤ (n : Int) := by omega
    have c3 : (n : Int) < (y.length : Int) := by omega
    simp only [laws_toByteS.l0, if_pos c1, if_pos c2, if_pos c3, w64 c2 (by omega), toNat_cast]
    exact ih (n + 1) k _ (by omega) (by simpa using hy) (take_set_succ y l n (by omega) hy ht) (by omega)
theorem toByteS_at (l : List Int) (hl : l.length ≤ 10000000) (k : Nat) (hk : l.length < k) : laws_toByteS.f k l = some l := by
  unfold laws_toByteS.f
  rw [if_pos (by omega), if_pos (by omega)]
  exact toByteS_l l hl l.length 0 k _ (by omega) (by simp) (by simp) hk
theorem eqByteS_l (l : List Int) (hl : l.length ≤ 1000000000) : ∀ (d n k : Nat), n + d = l.length → d < k → laws_eqByteS.l0 k l l (n : Int) = some true := by
  intro d
  induction d with
  | zero =>
    intro n k hd hk
    obtain ⟨k, rfl⟩ : ∃ m, k = m + 1 := ⟨k - 1, by omega⟩
    have c1 : ¬ (n : Int) < (l.length : Int) := by omega
    simp only [laws_eqByteS.l0, if_neg c1]
  | succ d ih =>
    intro n k hd hk
    obtain ⟨k, rfl⟩ : ∃ m, k = m + 1 := ⟨k - 1, by omega⟩
    have c1 : (n : Int) < (l.length : Int) := by omega
    have c2 : 0 ≤ (n : Int) := by omega
    simp only [laws_eqByteS.l0, if_pos c1, if_pos c2, if_true, w64 c2 (by omega)]
    exact ih (n + 1) k (by omega) (by omega)
theorem eqByteS_self (l : List Int) (hl : l.length ≤ 1000000000) (k : Nat) (hk : l.length < k) : laws_eqByteS.f k l l = some true := by
  unfold laws_eqByteS.f
  rw [if_pos rfl]
  exact eqByteS_l l hl l.length 0 k (by omega) hk
theorem FnExactGetField : ∀ (l0 : List Int) (a1 a2 : Int), l0.length ≤ maxLen → l0.length * 1 ≤ 140737488351232 → (∀ x ∈ l0, (Lit.int .u8 x).wf = true) → (Lit.int .i64 a1).wf = true → (Lit.int .i64 a2).wf = true → ∃ k, laws_FnExactGetField.f k l0 a1 a2 = some true := by
  intro l a1 a2 _ _ hw w1 w2
  have hb : ∀ c ∈ l, isByte c := fun c hc => wf_u8 (hw c hc)
  by_cases hl : (l.length : Int) > 1048576
  · exact ⟨0, by unfold laws_FnExactGetField.f; rw [if_pos hl]⟩
  refine ⟨l.length + 1300, ?_⟩
  have t1 := toByteS_at l (by omega)
  have t2 := eqByteS_self l (by omega)
  have g1 := spec_GetField_at l (by omega) hb a1 a2 (wf_i64 w1)
  have g2 := impl_GetField_at l (by omega) hb a1 a2 (wf_i64 w1)
  unfold laws_FnExactGetField.f
  rw [if_neg hl]
  simp (disch := omega) only [t1, t2, g1, g2, Option.bind_some, if_true, bne_self_eq_false]
  rw [laws_FnExactGetField.j0]
  simp (disch := omega) only [t1, t2, Option.bind_some, if_true, Bool.false_eq_true, if_false]
end Go.Proofs.YtiglmmofapcefaaDoor.Q
end
section
/- The start that fits a row that lists the three tables and the two sentinels of strconv, and what the rows' list gives the walks: for rows of tied cards. -/
namespace Go.Proofs.YtiglmmofapcefaaDoor.Laid
open Go.ChangeShapes Go.WideShapes Go.ChangeAt Go.RowKit
def valsOf (d : DataW Unit) : Array Value := match d with
  | .agg l => (l.map fun | .lit (.int k z) => Value.int k z | _ => .bool false).toArray
  | _ => #[]
def put (d : DataW Unit) : Obj → Obj
  | .cells _ t frozen => .cells (valsOf d) t frozen
  | o => o
def point (b : Nat) : Obj → Obj
  | .cells _ t frozen => .cells #[.iface 154 (.pointer (some ⟨b, 0, none⟩))] t frozen
  | o => o
abbrev synS : ByteArray := { data := #[105, 110, 118, 97, 108, 105, 100, 32, 115, 121, 110, 116, 97, 120] }
abbrev rngS : ByteArray := { data := #[118, 97, 108, 117, 101, 32, 111, 117, 116, 32, 111, 102, 32, 114, 97, 110, 103, 101] }
/-- So many blocks has the settled world. -/
noncomputable def low : Nat := (World.holding Tryd.prog default ⟨#[], #[], []⟩).heap.size
/-- The settled world with the three tables laid, and two blocks more for the sentinels. -/
noncomputable def world (os : Os) : World :=
  let w0 := World.holding Tryd.prog os ⟨#[.cells #[.string synS] 156, .cells #[.string rngS] 156], #[], []⟩
  { w0 with heap := ((((w0.heap.modify 3 (put Rows.laid_internal_strconv_uint64pow10)).modify 4 (put Rows.laid_math_bits_deBruijn32tab)).modify 5 (put Rows.laid_math_bits_deBruijn64tab)).modify 0 (point low)).modify 1 (point (low + 1)) }
abbrev list5 : List (String × DataW Unit) := [("math/bits.deBruijn32tab", Rows.laid_math_bits_deBruijn32tab), ("math/bits.deBruijn64tab", Rows.laid_math_bits_deBruijn64tab), ("internal/strconv.uint64pow10", Rows.laid_internal_strconv_uint64pow10), ("strconv.ErrRange", Rows.laid_strconv_ErrRange), ("strconv.ErrSyntax", Rows.laid_strconv_ErrSyntax)]
set_option maxRecDepth 100000 in
theorem met (os : Os) (args : Array Value) : laidMet Tryd.prog list5 ((world os).forCall (fun _ _ => 0) ⟨#[], args, []⟩).memory :=
  laidMet_of_run' 100 (by kernel_rfl) (by kernel_rfl)
theorem gPowType : (Tryd.prog.globals[3]?).map (·.type) = some 150 := by kernel_rfl
theorem gl {W : World} (h : laidMet Tryd.prog list5 W) : Q.GLW W :=
  Lib.tabIs_of_head Q.gPow gPowType Tryd.underlying150 Tryd.underlying125 (by kernel_rfl) (by kernel_rfl) (show laidMet Tryd.prog (("internal/strconv.uint64pow10", Lib.tabData .u64 Lib.pow10Tab) :: _) W from h.tail.tail)
end Go.Proofs.YtiglmmofapcefaaDoor.Laid
end
