/- Texts for FnBytes, packed by a program of this session (wip/pack.py), part 4 of 7: the print's words that are used, the printed walks, the plain laws, the row; no condition. -/
import Derived.Test.YtfiieppnpmodoaaDoorMgFnBytes3
section
namespace Go.Proofs.YtfiieppnpmodoaaDoor.Q
open Go.RowKit Go.Proofs.YtfiieppnpmodoaaDoorW.PrintWords Go.Proofs.YtfiieppnpmodoaaDoorW.PrintLast Go.Proofs.YtfiieppnpmodoaaDoorW.PrintMore
attribute [local go_sem] max2_int min2_int max_two min_two max_three min_three max_four min_four
set_option linter.unusedVariables false
set_option linter.unusedSimpArgs false
mutual
def impl_Parse.l0 : Nat → List Int → ByteArray → Int → List Int → Bool → List Int → Int → Int → Option (ByteArray × (List (S79)) × Int)
 | 0, _, _, _, _, _, _, _, _ => none
 | k + 1, x0, x4, x5, x8, x9, x41, x42, x43 => if x43 < x42 then (if 0 ≤ x43 then (if x43 < (x41.length : Int) then (if (rd x41 x43) = 1 then (impl_Parse.l0 k x0 x4 x5 x8 true x41 x42 (wrap64 (x43 + 1))) else ((impl_FieldKind.f k (rd x41 x43)).bind fun t690 => (if t690 = 0 then (some ((⟨#[]⟩ : ByteArray), ([] : List (S79)), 2)) else (if x8.length < 17592186044416 then (impl_Parse.l0 k x0 x4 x5 (x8 ++ [rd x41 x43]) x9 x41 x42 (wrap64 (x43 + 1))) else (none))))) else (none)) else (none)) else (if x9 = true then ((impl_GetBits.f k x0 x5).bind fun bt694 => (if bt694.2.2 = true then (impl_Parse.j1 k x0 x4 bt694.2.1 x8 bt694.1 ((bt694.1.length : Int) == 0)) else (impl_Parse.j1 k x0 x4 bt694.2.1 x8 bt694.1 true))) else (impl_Parse.j3 k x0 x4 x5 x8))
def impl_Parse.j3 : Nat → List Int → ByteArray → Int → List Int → Option (ByteArray × (List (S79)) × Int)
 | 0, _, _, _, _ => none
 | k + 1, x0, x4, x5, x8 => impl_Parse.l2 k x0 x5 x8 (x8.length : Int) 0 x4 ([] : List (S79))
def impl_Parse.l2 : Nat → List Int → Int → List Int → Int → Int → ByteArray → List (S79) → Option (ByteArray × (List (S79)) × Int)
 | 0, _, _, _, _, _, _, _ => none
 | k + 1, x0, x5, x95, x96, x97, x705000, x705001 => if x97 < x96 then (if 0 ≤ x97 then (if x97 < (x95.length : Int) then ((impl_GetField.f k x0 x5 (rd x95 x97)).bind fun bt706 => (if bt706.2.2 = true then (if x705001.length < 5864062014805 then (impl_Parse.l2 k x0 bt706.2.1 x95 x96 (wrap64 (x97 + 1)) x705000 (x705001 ++ [(⟨rd x95 x97, bt706.1⟩ : S79)])) else (none)) else (some ((⟨#[]⟩ : ByteArray), ([] : List (S79)), 3)))) else (none)) else (none)) else (if x5 = (x0.length : Int) then (some (x705000, x705001, 0)) else (some ((⟨#[]⟩ : ByteArray), ([] : List (S79)), 4)))
def impl_Parse.j1 : Nat → List Int → ByteArray → Int → List Int → List Int → Bool → Option (ByteArray × (List (S79)) × Int)
 | 0, _, _, _, _, _, _ => none
 | k + 1, x0, x4, x5, x8, x12, x74 => if x74 = true then (some ((⟨#[]⟩ : ByteArray), ([] : List (S79)), 2)) else (impl_Parse.l1 k x0 x4 x5 x8 x12 (x12.length : Int) 0)
def impl_Parse.l1 : Nat → List Int → ByteArray → Int → List Int → List Int → Int → Int → Option (ByteArray × (List (S79)) × Int)
 | 0, _, _, _, _, _, _, _ => none
 | k + 1, x0, x4, x5, x8, x76, x77, x78 => if x78 < x77 then (if 0 ≤ x78 then (if x78 < (x76.length : Int) then ((impl_FieldKind.f k (wrap64 ((rd x76 x78) + 64))).bind fun t700 => (if t700 = 0 then (some ((⟨#[]⟩ : ByteArray), ([] : List (S79)), 2)) else (if x8.length < 17592186044416 then (impl_Parse.l1 k x0 x4 x5 (x8 ++ [wrap64 ((rd x76 x78) + 64)]) x76 x77 (wrap64 (x78 + 1))) else (none)))) else (none)) else (none)) else (impl_Parse.j3 k x0 x4 x5 x8)
end
def impl_Parse.f (k : Nat) (l0 : List Int) : Option (ByteArray × (List (S79)) × Int) := (impl_GetBcd.f k l0 0 4).bind fun bt678 => (if bt678.2.2 = true then ((impl_GetBits.f k l0 bt678.2.1).bind fun bt681 => (if bt681.2.2 = true then (impl_Parse.l0 k l0 bt678.1 bt681.2.1 (([] : List Int)) false bt681.1 (bt681.1.length : Int) 0) else (some ((⟨#[]⟩ : ByteArray), ([] : List (S79)), 2)))) else (some ((⟨#[]⟩ : ByteArray), ([] : List (S79)), 1)))
set_option maxHeartbeats 8000000 in
set_option maxRecDepth 100000 in
theorem impl_Parse.calls (k : Nat) (A0 : Option Addr) (c0 : Nat) (l0 : List Int) (r1 : ByteArray) (r2 : List (S79)) (r3 : Int) (w : World) (hr0 : Kd.C (Kd.int .u8) w A0 l0.length l0) (hc0 : l0.length ≤ c0) (hG : GLW w) (h : impl_Parse.f k l0 = some (r1, r2, r3)) :
  Calls Tryd.prog 38 #[.slice A0 l0.length c0] w fun e w' => ∃ v1_ : Value, e = .returned (.tuple #[.agg #[.string r1, v1_], .int .i64 r3]) ∧ Kd.R k79 79 w' w.heap.size (fun _ => True) v1_ r2 ∧ Below w.heap.size w w' := by
 have hu49 := Tryd.underlying49
 have hu79 := Tryd.underlying79
 have HR0 := Aside0.mk hr0
 have HC0 := Aside0.mk hc0
 clear hr0 hc0
 have HB := Aside0.mk (Below.refl w.heap.size w)
 have HG := Aside0.mk hG
 clear hG
 have H : ((impl_GetBcd.f k l0 0 4).bind fun bt678 => (if bt678.2.2 = true then ((impl_GetBits.f k l0 bt678.2.1).bind fun bt681 => (if bt681.2.2 = true then (impl_Parse.l0 k l0 bt678.1 bt681.2.1 (([] : List Int)) false bt681.1 (bt681.1.length : Int) 0) else (some ((⟨#[]⟩ : ByteArray), ([] : List (S79)), 2)))) else (some ((⟨#[]⟩ : ByteArray), ([] : List (S79)), 1)))) = some (r1, r2, r3) := h
 clear h
 replace H := Option.bind_eq_some_iff.mp H
 obtain ⟨⟨t678, t679, t680⟩, A20, H⟩ := H
 replace H : (if t680 = true then ((impl_GetBits.f k l0 t679).bind fun bt681 => (if bt681.2.2 = true then (impl_Parse.l0 k l0 t678 bt681.2.1 (([] : List Int)) false bt681.1 (bt681.1.length : Int) 0) else (some ((⟨#[]⟩ : ByteArray), ([] : List (S79)), 2)))) else (some ((⟨#[]⟩ : ByteArray), ([] : List (S79)), 1))) = some (r1, r2, r3) := H
 have A2 := Aside0.mk A20
 clear A20
 by_cases c3 : t680 = true
 ·subst c3
  have H1 : ((impl_GetBits.f k l0 t679).bind fun bt681 => (if bt681.2.2 = true then (impl_Parse.l0 k l0 t678 bt681.2.1 (([] : List Int)) false bt681.1 (bt681.1.length : Int) 0) else (some ((⟨#[]⟩ : ByteArray), ([] : List (S79)), 2)))) = some (r1, r2, r3) := by rw [if_pos rfl] at H; exact H
  clear H
  have H := H1
  clear H1
  replace H := Option.bind_eq_some_iff.mp H
  obtain ⟨⟨t681, t682, t683⟩, A40, H⟩ := H
  replace H : (if t683 = true then (impl_Parse.l0 k l0 t678 t682 (([] : List Int)) false t681 (t681.length : Int) 0) else (some ((⟨#[]⟩ : ByteArray), ([] : List (S79)), 2))) = some (r1, r2, r3) := H
  have A4 := Aside0.mk A40
  clear A40
  by_cases c5 : t683 = true
  ·subst c5
   have H1 : (impl_Parse.l0 k l0 t678 t682 (([] : List Int)) false t681 (t681.length : Int) 0) = some (r1, r2, r3) := by rw [if_pos rfl] at H; exact H
   clear H
   have H := H1
   clear H1
   obtain ⟨y686, hy686⟩ : ∃ y_ : List Int, y_ = (([] : List Int)) := ⟨_, rfl⟩
   replace H : (impl_Parse.l0 k l0 t678 t682 y686 false t681 (t681.length : Int) 0) = some (r1, r2, r3) := by first | (rw [hy686]; with_reducible exact H) | (have H2_ := (Option.bind_some _ _).symm.trans H; rw [hy686]; with_reducible exact H2_) | (have H2_ := (Option.bind_some _ _).symm.trans H; with_reducible exact H2_) | with_reducible exact H | (rw [hy686]; exact H) | exact H
   have Ny686 := Aside0.mk hy686
   clear hy686
   have H' := Aside0.mk H
   clear H
   go_enter Tryd.func38, Tryd.ntmps38
   go_wp2_with (first | ((with_reducible refine gate_dst (N := 2) rfl ?_); (try (refine gate_guard (by rfl) ?_; dsimp only)); refine box_event ?hg (N := 2) ?hd (cs := #[.string (⟨#[]⟩ : ByteArray), .slice none 0 0]) (t := 49) ?hr ?_; (case hd => rfl); (case hg => rfl); (case hr => first | (go_simp; done) | (go_simp; rfl)); intro gb677 hg w6 hbox hb; have n0_ := Aside0.mk (below_step bB hb); have n1_ := Aside0.mk (hbox); have n2_ := Aside0.mk ((by rw [hg]; exact (below_size bB) : w.heap.size ≤ gb677)); have n3_ := Aside0.mk ((by rw [hg]; exact (below_size bB) : w.heap.size ≤ gb677)); clear HB; have HB := n0_; have BK677 := n1_; have GW677 := n2_; have GE677 := n3_; clear n0_ n1_ n2_ n3_; clear hb hbox hg) | ((with_reducible refine gate_callee (f := 11) rfl ?_); refine goesM_ (some 23) rfl rfl Tryd.func11 (by kernel_rfl) rfl #[.slice A0 l0.length c0, .int .i64 0, .int .i64 4] rfl ?_; (with_reducible refine (impl_GetBcd.calls k _ _ l0 0 4 t678 t679 true _ ?side1 ?side2 A2.out).mono ?_); (case side1 => repeat (first | exact (Kd.C_below HR0.out HB.out) | (with_reducible refine Kd.C_alloc ?_ _) | (with_reducible refine Kd.C_drewN ?_ _) | (with_reducible refine Kd.C_drew ?_))); (case side2 => exact HC0.out); rintro e w7 ⟨rfl, hb⟩; refine ⟨_, rfl, ?_⟩; have n0_ := Aside0.mk (blk_below (g := gb677) (o := .cells #[.string (⟨#[]⟩ : ByteArray), .slice none 0 0] 49 (0, 0)) (kA BK677.out) hb); have n1_ := Aside0.mk (below_step bG hb); clear BK677; clear HB; have BK677 := n0_; have HB := n1_; clear n0_ n1_; (try clear hb); (try clear hb2); (try clear hk); (try clear hi)) | ((with_reducible refine gate_callee (f := 15) rfl ?_); refine goesM_ (some 33) rfl rfl Tryd.func15 (by kernel_rfl) rfl #[.slice A0 l0.length c0, .int .i64 t679] rfl ?_; (with_reducible refine (impl_GetBits.calls k _ _ l0 t679 t681 t682 true _ ?side1 ?side2 A4.out).mono ?_); (case side1 => repeat (first | exact (Kd.C_below HR0.out HB.out) | (with_reducible refine Kd.C_alloc ?_ _) | (with_reducible refine Kd.C_drewN ?_ _) | (with_reducible refine Kd.C_drew ?_))); (case side2 => exact HC0.out); rintro e w8 ⟨v684, rfl, ho0, hb⟩; refine ⟨_, rfl, ?_⟩; have n0_ := Aside0.mk (Kd.R_lower ho0 (below_size bG)); have n1_ := Aside0.mk (blk_below (g := gb677) (o := .cells #[.string (⟨#[]⟩ : ByteArray), .slice none 0 0] 49 (0, 0)) (kA BK677.out) hb); have n2_ := Aside0.mk (below_step bG hb); clear BK677; clear HB; have HO685 := n0_; have BK677 := n1_; have HB := n2_; clear n0_ n1_ n2_; (try clear hb); (try clear hb2); (try clear hk); (try clear hi); (try clear ho0)) | ((with_reducible refine gate_dst (N := 40) rfl ?_); (try (refine gate_guard (by rfl) ?_; dsimp only)); refine Kd.R_lit (Kd.int .i64) _ 3 ?hg (N := 40) ?hd (xs := ([] : List Int)) (inner := []) (ok := fun _ => True) (okp := fun _ => True) ?hr ?hp (fun _ hk => hk) trivial (Below.refl _ _) (Nat.le_refl _) (by simp) ?_; (case hd => rfl); (case hg => rfl); (case hr => first | (go_simp; done) | (go_simp; rfl)); (case hp => exact (Reps.none _ _)); intro v687 w9 ho10 hb hg_ hnew_; clear hg_ hnew_; (first | rw [← Ny686.out] at ho10 | (simp only [Int.reduceToNat] at ho10; rw [← Ny686.out] at ho10)); have n0_ := Aside0.mk (Kd.R_elder' (rA HO685.out) (Kd.R_base ho10) hb); have n1_ := Aside0.mk (Kd.R_lower (Kd.R_new' ho10 (Kd.R_lt (rA HO685.out))) (below_size bG)); have n2_ := Aside0.mk (blk_below (g := gb677) (o := .cells #[.string (⟨#[]⟩ : ByteArray), .slice none 0 0] 49 (0, 0)) (kA BK677.out) hb); have n3_ := Aside0.mk (below_step bG hb); clear HO685; clear BK677; clear HB; have HO685 := n0_; have HO688 := n1_; have BK677 := n2_; have HB := n3_; clear n0_ n1_ n2_ n3_; clear hb ho10; obtain ⟨Ao11, co11, eo11⟩ := Kd.R_slice HO685.out; subst eo11))
   go_loopg [8, 9, 43] k (fun kq v8 v9 v43 w' => ∃ (x8_1 : List Int) (x9_1 : Bool) (x43_1 : Int) (x678000_1 : ByteArray), v9 = .bool x9_1 ∧ v43 = .int .i64 x43_1 ∧ Aside0 (impl_Parse.l0 kq l0 t678 t682 x8_1 x9_1 t681 (t681.length : Int) x43_1 = some (r1, r2, r3)) ∧ Aside0 (kq ≤ k) ∧ Aside0 (Kd.R (Kd.int .i64) 3 w' w.heap.size (fun k_ => some k_ ≠ ((.slice Ao11 t681.length co11) : Value).ownBlock) v8 x8_1) ∧ Aside0 (Kd.R (Kd.int .i64) 3 w' w.heap.size (fun k_ => some k_ ≠ (v8 : Value).ownBlock) (.slice Ao11 t681.length co11) t681) ∧ Aside0 (w'.heap[gb677]? = some (.cells #[.string x678000_1, (.slice none 0 0)] 49 (0, 0))) ∧ Aside0 (Below w.heap.size w w'))
   case atStart => exact ⟨(y686), (false), (0), ((⟨#[]⟩ : ByteArray)), (by first | rfl | (simp; done) | (simp [*]; done) | (simp [i64_w, IntKind.wrap_u8, e256_]; done) | (simp; generalize ByteArray.toList _ = zz_; cases zz_ <;> rfl)), (by first | rfl | (simp; done) | (simp [*]; done) | (simp [i64_w, IntKind.wrap_u8, e256_]; done) | (simp; generalize ByteArray.toList _ = zz_; cases zz_ <;> rfl)), H', ⟨Nat.le_refl _⟩, ⟨by (with_reducible repeat (first | apply Kd.R_alloc | apply Kd.R_drewN | apply Kd.R_drew)); exact Kd.R_mono HO688.out (fun _ hk => hk.2)⟩, ⟨by (with_reducible repeat (first | apply Kd.R_alloc | apply Kd.R_drewN | apply Kd.R_drew)); exact Kd.R_mono HO685.out (fun _ hk => hk.2)⟩, ⟨kA BK677.out⟩, ⟨bG⟩⟩
   case round =>
    clear H'
    try clear c1
    try clear p2
    try clear c3
    try clear c5
    try clear p6
    try clear c11
    obtain ⟨x8_1, x9_1, x43_1, x678000_1, rfl, rfl, HA, HK1, HO_8, HO_41, BK677, HB⟩ := hrel
    cases gk with
    | zero => exact absurd HA.out (by simp [impl_Parse.l0])
    | succ k1 =>
     have H := HA.out
     clear HA
     simp only [impl_Parse.l0] at H
     by_cases c12 : x43_1 < (t681.length : Int)
     ·rw [if_pos c12] at H
      have c12b0 : decide (x43_1 < (t681.length : Int)) = true := decide_eq_true c12
      clear c12
      by_cases c13 : 0 ≤ x43_1
      ·rw [if_pos c13] at H
       have c13b0 : decide (0 ≤ x43_1) = true := decide_eq_true c13
       clear c13
       by_cases c14 : x43_1 < (t681.length : Int)
       ·rw [if_pos c14] at H
        have c14b0 : decide (x43_1 < (t681.length : Int)) = true := decide_eq_true c14
        clear c14
        by_cases c15 : (rd t681 x43_1) = 1
        ·rw [if_pos c15] at H
         have c15b0 : ((rd t681 x43_1) == 1) = true := beq_iff_eq.mpr c15
         have c15b1 : ((rd t681 x43_1) != 1) = false := bne_eq_false_iff_eq.mpr c15
         clear c15
         have H' := Aside0.mk H
         clear H
         have p689 : 0 ≤ (x43_1 : Int) := of_decide_eq_true (by first | (with_reducible assumption) | assumption)
         have q689 : x43_1 < (t681.length : Int) := of_decide_eq_true (by first | (with_reducible assumption) | assumption)
         obtain ⟨ad689, e689, hx689_0⟩ := Kd.at_int (Kd.R_reads' HO_41.out).2.2 x43_1 p689 q689
         cases e689
         replace p689 := eq_true p689
         replace q689 := eq_true q689
         go_wp2
         go_roundg k1
         case measure => have := HK1.out; omega
         case rel => exact ⟨(x8_1), (true), (wrap64 (x43_1 + 1)), (x678000_1), (by first | rfl | (simp; done) | (simp [*]; done) | (simp [i64_w, IntKind.wrap_u8, e256_]; done) | (simp; generalize ByteArray.toList _ = zz_; cases zz_ <;> rfl)), (by first | rfl | (simp; done) | (simp [*]; done) | (simp [i64_w, IntKind.wrap_u8, e256_]; done) | (simp; generalize ByteArray.toList _ = zz_; cases zz_ <;> rfl)), H', ⟨by have := HK1.out; omega⟩, ⟨rA HO_8.out⟩, ⟨rA HO_41.out⟩, ⟨kA BK677.out⟩, ⟨bG⟩⟩
        ·rw [if_neg c15] at H
         have c15b0 : ((rd t681 x43_1) == 1) = false := beq_eq_false_iff_ne.mpr c15
         have c15b1 : ((rd t681 x43_1) != 1) = true := bne_iff_ne.mpr c15
         replace H := Option.bind_eq_some_iff.mp H
         obtain ⟨t690, A160, H⟩ := H
         replace H : (if t690 = 0 then (some ((⟨#[]⟩ : ByteArray), ([] : List (S79)), 2)) else (if x8_1.length < 17592186044416 then (impl_Parse.l0 k1 l0 t678 t682 (x8_1 ++ [rd t681 x43_1]) x9_1 t681 (t681.length : Int) (wrap64 (x43_1 + 1))) else (none))) = some (r1, r2, r3) := H
         have A16 := Aside0.mk A160
         clear A160
         by_cases c17 : t690 = 0
         ·rw [if_pos c17] at H
          have c17b0 : (t690 == 0) = true := beq_iff_eq.mpr c17
          have c17b1 : (t690 != 0) = false := bne_eq_false_iff_eq.mpr c17
          clear c17
          simp only [Option.some.injEq, Prod.mk.injEq] at H
          obtain ⟨rfl, rfl, rfl⟩ := H
          have p689 : 0 ≤ (x43_1 : Int) := of_decide_eq_true (by first | (with_reducible assumption) | assumption)
          have q689 : x43_1 < (t681.length : Int) := of_decide_eq_true (by first | (with_reducible assumption) | assumption)
          obtain ⟨ad689, e689, hx689_0⟩ := Kd.at_int (Kd.R_reads' HO_41.out).2.2 x43_1 p689 q689
          cases e689
          replace p689 := eq_true p689
          replace q689 := eq_true q689
          go_wp2_with (first | ((with_reducible refine gate_callee (f := 55) rfl ?_); refine goesM_ (some 56) rfl rfl Tryd.func55 (by kernel_rfl) rfl #[.int .i64 (rd t681 x43_1)] rfl ?_; (with_reducible refine (impl_FieldKind.calls k1 (rd t681 x43_1) t690 _ A16.out).mono ?_); rintro e w18 ⟨rfl, hb⟩; refine ⟨_, rfl, ?_⟩; have n0_ := Aside0.mk (Kd.R_below (rA HO_8.out) hb); have n1_ := Aside0.mk (Kd.R_below (rA HO_41.out) hb); have n2_ := Aside0.mk (blk_below (g := gb677) (o := .cells #[.string x678000_1, .slice none 0 0] 49 (0, 0)) (kA BK677.out) hb); have n3_ := Aside0.mk (below_step bG hb); clear HO_8; clear HO_41; clear BK677; clear HB; have HO_8 := n0_; have HO_41 := n1_; have BK677 := n2_; have HB := n3_; clear n0_ n1_ n2_ n3_; (try clear hb); (try clear hb2); (try clear hk); (try clear hi); have hcz19_0 : w18.cell? ⟨gb677, 0, none⟩ = some (.string x678000_1) := (blk_cell BK677.out 0).trans rfl; have hcz19_1 : w18.cell? ⟨gb677, 1, none⟩ = some (.slice none 0 0) := (blk_cell BK677.out 1).trans rfl; have hfz19_0 := blk_frozen BK677.out 0; have hfz19_1 := blk_frozen BK677.out 1))
          refine bodyPost_ret (results_ct rfl _ _ gb677 49 #[.string (⟨#[]⟩ : ByteArray), .slice none 0 0] (0, 0) _ rfl (by (with_reducible repeat (first | refine blk_drewN ?_ _ | refine blk_drew ?_ | refine blk_alloc ?_ _)); refine blk_put (cs := #[.string (⟨#[]⟩ : ByteArray), .slice none 0 0]) ?_ 1 _ rfl; (with_reducible repeat (first | refine blk_drewN ?_ _ | refine blk_drew ?_ | refine blk_alloc ?_ _)); refine blk_put (cs := #[.string x678000_1, .slice none 0 0]) ?_ 0 _ rfl; (with_reducible repeat (first | refine blk_drewN ?_ _ | refine blk_drew ?_ | refine blk_alloc ?_ _)); exact BK677.out) Tryd.underlying49 rfl (by kernel_rfl)) rfl ?_
          exact ⟨_, by first | rfl | (simp [errW_none, errW_some] <;> rfl) | (simp [*, errW_none, errW_some] <;> rfl), by first | exact Kd.R_nil _ _ _ _ _ | exact Kd.N_nil _ _ _ _ _ | exact Kd.V_nil _ _ _ _ _ | exact Kd.Q_nil _ _ _ _ _ | exact Kd.S_nil _ _ _ _ _, bG⟩
         ·rw [if_neg c17] at H
          have c17b0 : (t690 == 0) = false := beq_eq_false_iff_ne.mpr c17
          have c17b1 : (t690 != 0) = true := bne_iff_ne.mpr c17
          by_cases c20 : x8_1.length < 17592186044416
          ·rw [if_pos c20] at H
           have LMc20 := Aside0.mk c20
           clear c20
           obtain ⟨y691, hy691⟩ : ∃ y_ : List Int, y_ = (x8_1 ++ [rd t681 x43_1]) := ⟨_, rfl⟩
           replace H : (impl_Parse.l0 k1 l0 t678 t682 y691 x9_1 t681 (t681.length : Int) (wrap64 (x43_1 + 1))) = some (r1, r2, r3) := by first | (rw [hy691]; with_reducible exact H) | (have H2_ := (Option.bind_some _ _).symm.trans H; rw [hy691]; with_reducible exact H2_) | (have H2_ := (Option.bind_some _ _).symm.trans H; with_reducible exact H2_) | with_reducible exact H | (rw [hy691]; exact H) | exact H
           have Ny691 := Aside0.mk hy691
           clear hy691
           have H' := Aside0.mk H
           clear H
           have p689 : 0 ≤ (x43_1 : Int) := of_decide_eq_true (by first | (with_reducible assumption) | assumption)
           have q689 : x43_1 < (t681.length : Int) := of_decide_eq_true (by first | (with_reducible assumption) | assumption)
           obtain ⟨ad689, e689, hx689_0⟩ := Kd.at_int (Kd.R_reads' HO_41.out).2.2 x43_1 p689 q689
           cases e689
           replace p689 := eq_true p689
           replace q689 := eq_true q689
           go_wp2_with (first | ((with_reducible refine gate_callee (f := 55) rfl ?_); refine goesM_ (some 56) rfl rfl Tryd.func55 (by kernel_rfl) rfl #[.int .i64 (rd t681 x43_1)] rfl ?_; (with_reducible refine (impl_FieldKind.calls k1 (rd t681 x43_1) t690 _ A16.out).mono ?_); rintro e w21 ⟨rfl, hb⟩; refine ⟨_, rfl, ?_⟩; have n0_ := Aside0.mk (Kd.R_below (rA HO_8.out) hb); have n1_ := Aside0.mk (Kd.R_below (rA HO_41.out) hb); have n2_ := Aside0.mk (blk_below (g := gb677) (o := .cells #[.string x678000_1, .slice none 0 0] 49 (0, 0)) (kA BK677.out) hb); have n3_ := Aside0.mk (below_step bG hb); clear HO_8; clear HO_41; clear BK677; clear HB; have HO_8 := n0_; have HO_41 := n1_; have BK677 := n2_; have HB := n3_; clear n0_ n1_ n2_ n3_; (try clear hb); (try clear hb2); (try clear hk); (try clear hi)) | ((with_reducible refine gate_builtin (b := .append) (xs := #[.tmp 47, .tmp 49]) rfl ?_); (try (refine gate_guard (by rfl) ?_; dsimp only)); at_builtin; refine Kd.R_append (Kd.int .i64) (w0 := w) w.heap.size rfl (.tmp 47) (.tmp 49) 32 3 (.int .i64 0) 8 rfl Tryd.underlying32 info3 rfl (by decide) (by omega) u8 x8_1 (rd t681 x43_1) [.int .i64 (rd t681 x43_1)] (fun k_ => some k_ ≠ (.slice (some ad689) t681.length co11 : Value).ownBlock) (fun _ => False) rfl rfl ?aP (fun _ hk => hk.elim) ?aF ?aO ?aB ?aS ?aL ?_; (case aP => exact rfl); (case aB => exact bG); (case aF => exact (fun k_ hk => Kd.fresh' (Kd.R_lt (rA HO_41.out)) k_ hk)); (case aO => exact (rA HO_8.out)); (case aS => exact (below_size bG)); (case aL => have := LMc20.out; omega); intro v692 w22 ho hb hg hat; rw [← Ny691.out] at ho; have n0_ := Aside0.mk (Kd.R_after (ok := (fun _ => True)) (by (with_reducible repeat (first | apply Kd.R_alloc | apply Kd.R_drewN | apply Kd.R_drew)); exact Kd.R_mono HO_41.out (fun _ hk => ⟨trivial, hk⟩)) hg hat); have n1_ := Aside0.mk (blk_grown (g := gb677) (o := .cells #[.string x678000_1, .slice none 0 0] 49 (0, 0)) (kA BK677.out) hg (Kd.R_ne HO_8.out BK677.out (by decide))); have n2_ := Aside0.mk (hb); have n3_ := Aside0.mk (ho); clear HO_41; clear BK677; clear HB; clear HO_8; have HO_41 := n0_; have BK677 := n1_; have HB := n2_; have HO693 := n3_; clear n0_ n1_ n2_ n3_; clear ho hb hg hat))
           go_roundg k1
           case measure => have := HK1.out; omega
           case rel => exact ⟨(y691), (x9_1), (wrap64 (x43_1 + 1)), (x678000_1), (by first | rfl | (simp; done) | (simp [*]; done) | (simp [i64_w, IntKind.wrap_u8, e256_]; done) | (simp; generalize ByteArray.toList _ = zz_; cases zz_ <;> rfl)), (by first | rfl | (simp; done) | (simp [*]; done) | (simp [i64_w, IntKind.wrap_u8, e256_]; done) | (simp; generalize ByteArray.toList _ = zz_; cases zz_ <;> rfl)), H', ⟨by have := HK1.out; omega⟩, ⟨rA HO693.out⟩, ⟨by (with_reducible repeat (first | apply Kd.R_alloc | apply Kd.R_drewN | apply Kd.R_drew)); exact Kd.R_mono HO_41.out (fun _ hk => hk.2)⟩, ⟨kA BK677.out⟩, ⟨bG⟩⟩
          ·rw [if_neg c20] at H
           exact absurd H (by simp)
       ·rw [if_neg c14] at H
        exact absurd H (by simp)
      ·rw [if_neg c13] at H
       exact absurd H (by simp)
     ·rw [if_neg c12] at H
      have c12b0 : decide (x43_1 < (t681.length : Int)) = false := decide_eq_false c12
      clear c12
      have HC23 := Aside0.mk H
      clear H
      go_upto_if 60 with (fail)
      go_cut [5, 8] (fun v5 v8 wc => ∃ (kq : Nat) (x5_22 : Int) (x8_22 : List Int) (x678000_22 : ByteArray), v5 = .int .i64 x5_22 ∧ Aside0 (impl_Parse.j3 kq l0 t678 x5_22 x8_22 = some (r1, r2, r3)) ∧ Aside0 (kq ≤ k1) ∧ Aside0 (Kd.R (Kd.int .i64) 3 wc w.heap.size (fun _ => True) v8 x8_22) ∧ Aside0 (wc.heap[gb677]? = some (.cells #[.string x678000_22, (.slice none 0 0)] 49 (0, 0))) ∧ Aside0 (Below w.heap.size w wc))
      case first =>
       have H := HC23.out
       clear HC23
       by_cases c24 : x9_1 = true
       ·subst c24
        have H1 : ((impl_GetBits.f k1 l0 t682).bind fun bt694 => (if bt694.2.2 = true then (impl_Parse.j1 k1 l0 t678 bt694.2.1 x8_1 bt694.1 ((bt694.1.length : Int) == 0)) else (impl_Parse.j1 k1 l0 t678 bt694.2.1 x8_1 bt694.1 true))) = some (r1, r2, r3) := by rw [if_pos rfl] at H; exact H
        clear H
        have H := H1
        clear H1
        replace H := Option.bind_eq_some_iff.mp H
        obtain ⟨⟨t694, t695, t696⟩, A250, H⟩ := H
        replace H : (if t696 = true then (impl_Parse.j1 k1 l0 t678 t695 x8_1 t694 ((t694.length : Int) == 0)) else (impl_Parse.j1 k1 l0 t678 t695 x8_1 t694 true)) = some (r1, r2, r3) := H
        have A25 := Aside0.mk A250
        clear A250
        have HC26 := Aside0.mk H
        clear H
        go_upto_region 20 with (first | ((with_reducible refine gate_callee (f := 15) rfl ?_); refine goesM_ (some 64) rfl rfl Tryd.func15 (by kernel_rfl) rfl #[.slice A0 l0.length c0, .int .i64 t682] rfl ?_; (with_reducible refine (impl_GetBits.calls k1 _ _ l0 t682 t694 t695 t696 _ ?side1 ?side2 A25.out).mono ?_); (case side1 => repeat (first | exact (Kd.C_below HR0.out HB.out) | (with_reducible refine Kd.C_alloc ?_ _) | (with_reducible refine Kd.C_drewN ?_ _) | (with_reducible refine Kd.C_drew ?_))); (case side2 => exact HC0.out); rintro e w27 ⟨v697, rfl, ho0, hb⟩; refine ⟨_, rfl, ?_⟩; have n0_ := Aside0.mk (Kd.R_elder' (rA HO_8.out) (Kd.R_base ho0) hb); have n1_ := Aside0.mk (Kd.R_elder' (rA HO_41.out) (Kd.R_base ho0) hb); have n2_ := Aside0.mk (Kd.R_lower (Kd.R_new' (Kd.R_new' ho0 (Kd.R_lt (rA HO_8.out))) (Kd.R_lt (rA HO_41.out))) (below_size bG)); have n3_ := Aside0.mk (blk_below (g := gb677) (o := .cells #[.string x678000_1, .slice none 0 0] 49 (0, 0)) (kA BK677.out) hb); have n4_ := Aside0.mk (below_step bG hb); clear HO_8; clear HO_41; clear BK677; clear HB; have HO_8 := n0_; have HO_41 := n1_; have HO698 := n2_; have BK677 := n3_; have HB := n4_; clear n0_ n1_ n2_ n3_ n4_; (try clear hb); (try clear hb2); (try clear hk); (try clear hi); (try clear ho0)))
        (try simp only [Act.put, List.setIfInBounds_toArray, List.set_cons_zero, List.set_cons_succ])
        go_cut [74] (fun v74 wc => ∃ (kq : Nat) (x74_25 : Bool), v74 = .bool x74_25 ∧ Aside0 (impl_Parse.j1 kq l0 t678 t695 x8_1 t694 x74_25 = some (r1, r2, r3)) ∧ Aside0 (kq ≤ k1) ∧ Aside0 (Kd.R (Kd.int .i64) 3 wc w.heap.size (fun k_ => some k_ ≠ (v697 : Value).ownBlock) u8 x8_1) ∧ Aside0 (Kd.R (Kd.int .i64) 3 wc w.heap.size (fun k_ => some k_ ≠ (u8 : Value).ownBlock) v697 t694) ∧ Aside0 (wc.heap[gb677]? = some (.cells #[.string x678000_1, (.slice none 0 0)] 49 (0, 0))) ∧ Aside0 (Below w.heap.size w wc))
        case first =>
         have H := HC26.out
         clear HC26
         by_cases c28 : t696 = true
         ·subst c28
          have H1 : (impl_Parse.j1 k1 l0 t678 t695 x8_1 t694 ((t694.length : Int) == 0)) = some (r1, r2, r3) := by rw [if_pos rfl] at H; exact H
          clear H
          have H := H1
          clear H1
          have H' := Aside0.mk H
          clear H
          obtain ⟨Ao29, co29, eo29⟩ := Kd.R_slice HO698.out
          subst eo29
          go_wp2
          go_meet
          case rel => exact ⟨_, (((t694.length : Int) == 0)), (by first | rfl | (simp; done) | (simp [*]; done) | (simp [i64_w, IntKind.wrap_u8, e256_]; done) | (simp; generalize ByteArray.toList _ = zz_; cases zz_ <;> rfl)), H', ⟨by have := HK1.out; first | omega | exact Nat.le_refl _⟩, ⟨by (with_reducible repeat (first | apply Kd.R_alloc | apply Kd.R_drewN | apply Kd.R_drew)); exact Kd.R_mono HO_8.out (fun _ hk => hk.2)⟩, ⟨by (with_reducible repeat (first | apply Kd.R_alloc | apply Kd.R_drewN | apply Kd.R_drew)); exact Kd.R_mono HO698.out (fun _ hk => hk.1.2)⟩, ⟨kA BK677.out⟩, ⟨bG⟩⟩
         ·replace c28 := Bool.eq_false_iff.mpr c28
          subst c28
          have H1 : (impl_Parse.j1 k1 l0 t678 t695 x8_1 t694 true) = some (r1, r2, r3) := by rw [if_neg (show ¬ (false = true) by decide)] at H; exact H
          clear H
          have H := H1
          clear H1
          have H' := Aside0.mk H
          clear H
          go_wp2
          go_meet
          case rel => exact ⟨_, (true), (by first | rfl | (simp; done) | (simp [*]; done) | (simp [i64_w, IntKind.wrap_u8, e256_]; done) | (simp; generalize ByteArray.toList _ = zz_; cases zz_ <;> rfl)), H', ⟨by have := HK1.out; first | omega | exact Nat.le_refl _⟩, ⟨by (with_reducible repeat (first | apply Kd.R_alloc | apply Kd.R_drewN | apply Kd.R_drew)); exact Kd.R_mono HO_8.out (fun _ hk => hk.2)⟩, ⟨by (with_reducible repeat (first | apply Kd.R_alloc | apply Kd.R_drewN | apply Kd.R_drew)); exact Kd.R_mono HO698.out (fun _ hk => hk.1.2)⟩, ⟨kA BK677.out⟩, ⟨bG⟩⟩
        case rest =>
         clear HC26
         try clear c1
         try clear c2
         try clear p2
         try clear c3
         try clear c5
         try clear p6
         try clear q6
         try clear hx6
         try clear c11
         try clear c12
         try clear c12b0
         try clear c13
         try clear c13b0
         try clear c14
         try clear c14b0
         try clear c15
         try clear c15b0
         try clear c15b1
         try clear c17
         try clear c17b0
         try clear c17b1
         try clear c20
         try clear c24
         try clear c28
         try clear hcz19_0
         try clear hcz19_1
         try clear hfz19_0
         try clear hfz19_1
         try clear hx689_0
         try clear p2
         try clear p6
         try clear p689
         try clear q689
         obtain ⟨kq, x74_25, rfl, HA, HJ25, HO_8, HO_12, BK677, HB⟩ := hcut
         cases kq with
         | zero => exact absurd HA.out (by simp [impl_Parse.j1])
         | succ kj25 =>
          have H := HA.out
          clear HA
          simp only [impl_Parse.j1] at H
          by_cases c30 : x74_25 = true
          ·subst c30
           have H1 : (some ((⟨#[]⟩ : ByteArray), ([] : List (S79)), 2)) = some (r1, r2, r3) := by rw [if_pos rfl] at H; exact H
           clear H
           have H := H1
           clear H1
           simp only [Option.some.injEq, Prod.mk.injEq] at H
           obtain ⟨rfl, rfl, rfl⟩ := H
           have hcz31_0 : wc.cell? ⟨gb677, 0, none⟩ = some (.string x678000_1) := (blk_cell BK677.out 0).trans rfl
           have hcz31_1 : wc.cell? ⟨gb677, 1, none⟩ = some (.slice none 0 0) := (blk_cell BK677.out 1).trans rfl
           have hfz31_0 := blk_frozen BK677.out 0
           have hfz31_1 := blk_frozen BK677.out 1
           go_wp2
           refine bodyPost_ret (results_ct rfl _ _ gb677 49 #[.string (⟨#[]⟩ : ByteArray), .slice none 0 0] (0, 0) _ rfl (by (with_reducible repeat (first | refine blk_drewN ?_ _ | refine blk_drew ?_ | refine blk_alloc ?_ _)); refine blk_put (cs := #[.string (⟨#[]⟩ : ByteArray), .slice none 0 0]) ?_ 1 _ rfl; (with_reducible repeat (first | refine blk_drewN ?_ _ | refine blk_drew ?_ | refine blk_alloc ?_ _)); refine blk_put (cs := #[.string x678000_1, .slice none 0 0]) ?_ 0 _ rfl; (with_reducible repeat (first | refine blk_drewN ?_ _ | refine blk_drew ?_ | refine blk_alloc ?_ _)); exact BK677.out) Tryd.underlying49 rfl (by kernel_rfl)) rfl ?_
           exact ⟨_, by first | rfl | (simp [errW_none, errW_some] <;> rfl) | (simp [*, errW_none, errW_some] <;> rfl), by first | exact Kd.R_nil _ _ _ _ _ | exact Kd.N_nil _ _ _ _ _ | exact Kd.V_nil _ _ _ _ _ | exact Kd.Q_nil _ _ _ _ _ | exact Kd.S_nil _ _ _ _ _, bG⟩
          ·replace c30 := Bool.eq_false_iff.mpr c30
           subst c30
           have H1 : (impl_Parse.l1 kj25 l0 t678 t695 x8_1 t694 (t694.length : Int) 0) = some (r1, r2, r3) := by rw [if_neg (show ¬ (false = true) by decide)] at H; exact H
           clear H
           have H := H1
           clear H1
           have H' := Aside0.mk H
           clear H
           obtain ⟨Ao32, co32, eo32⟩ := Kd.R_slice HO_12.out
           subst eo32
           go_wp2
           go_loopg [8, 78] kj25 (fun kq v8 v78 w' => ∃ (x8_3 : List Int) (x78_3 : Int) (x678000_3 : ByteArray), v78 = .int .i64 x78_3 ∧ Aside0 (impl_Parse.l1 kq l0 t678 t695 x8_3 t694 (t694.length : Int) x78_3 = some (r1, r2, r3)) ∧ Aside0 (kq ≤ kj25) ∧ Aside0 (Kd.R (Kd.int .i64) 3 w' w.heap.size (fun k_ => some k_ ≠ ((.slice Ao32 t694.length co32) : Value).ownBlock) v8 x8_3) ∧ Aside0 (Kd.R (Kd.int .i64) 3 w' w.heap.size (fun k_ => some k_ ≠ (v8 : Value).ownBlock) (.slice Ao32 t694.length co32) t694) ∧ Aside0 (w'.heap[gb677]? = some (.cells #[.string x678000_3, (.slice none 0 0)] 49 (0, 0))) ∧ Aside0 (Below w.heap.size w w'))
           case atStart => exact ⟨(x8_1), (0), (x678000_1), (by first | rfl | (simp; done) | (simp [*]; done) | (simp [i64_w, IntKind.wrap_u8, e256_]; done) | (simp; generalize ByteArray.toList _ = zz_; cases zz_ <;> rfl)), H', ⟨Nat.le_refl _⟩, ⟨rA HO_8.out⟩, ⟨rA HO_12.out⟩, ⟨kA BK677.out⟩, ⟨bG⟩⟩
           case round =>
            clear H'
            try clear c1
            try clear c2
            try clear p2
            try clear c3
            try clear c5
            try clear p6
            try clear q6
            try clear hx6
            try clear c11
            try clear c12
            try clear c12b0
            try clear c13
            try clear c13b0
            try clear c14
            try clear c14b0
            try clear c15
            try clear c15b0
            try clear c15b1
            try clear c17
            try clear c17b0
            try clear c17b1
            try clear c20
            try clear c24
            try clear c28
            try clear c30
            try clear hcz19_0
            try clear hcz19_1
            try clear hcz31_0
            try clear hcz31_1
            try clear hfz19_0
            try clear hfz19_1
            try clear hfz31_0
            try clear hfz31_1
            try clear hx689_0
            try clear p2
            try clear p6
            try clear p689
            try clear q6
            try clear q689
            obtain ⟨x8_3, x78_3, x678000_3, rfl, HA, HK3, HO_8, HO_76, BK677, HB⟩ := hrel
            cases gk with
            | zero => exact absurd HA.out (by simp [impl_Parse.l1])
            | succ k3 =>
             have H := HA.out
             clear HA
             simp only [impl_Parse.l1] at H
             by_cases c33 : x78_3 < (t694.length : Int)
             ·rw [if_pos c33] at H
              have c33b0 : decide (x78_3 < (t694.length : Int)) = true := decide_eq_true c33
              clear c33
              by_cases c34 : 0 ≤ x78_3
              ·rw [if_pos c34] at H
               have c34b0 : decide (0 ≤ x78_3) = true := decide_eq_true c34
               clear c34
               by_cases c35 : x78_3 < (t694.length : Int)
               ·rw [if_pos c35] at H
                have c35b0 : decide (x78_3 < (t694.length : Int)) = true := decide_eq_true c35
                clear c35
                replace H := Option.bind_eq_some_iff.mp H
                obtain ⟨t700, A360, H⟩ := H
                replace H : (if t700 = 0 then (some ((⟨#[]⟩ : ByteArray), ([] : List (S79)), 2)) else (if x8_3.length < 17592186044416 then (impl_Parse.l1 k3 l0 t678 t695 (x8_3 ++ [wrap64 ((rd t694 x78_3) + 64)]) t694 (t694.length : Int) (wrap64 (x78_3 + 1))) else (none))) = some (r1, r2, r3) := H
                have A36 := Aside0.mk A360
                clear A360
                by_cases c37 : t700 = 0
                ·rw [if_pos c37] at H
                 have c37b0 : (t700 == 0) = true := beq_iff_eq.mpr c37
                 have c37b1 : (t700 != 0) = false := bne_eq_false_iff_eq.mpr c37
                 clear c37
                 simp only [Option.some.injEq, Prod.mk.injEq] at H
                 obtain ⟨rfl, rfl, rfl⟩ := H
                 have p699 : 0 ≤ (x78_3 : Int) := of_decide_eq_true (by first | (with_reducible assumption) | assumption)
                 have q699 : x78_3 < (t694.length : Int) := of_decide_eq_true (by first | (with_reducible assumption) | assumption)
                 obtain ⟨ad699, e699, hx699_0⟩ := Kd.at_int (Kd.R_reads' HO_76.out).2.2 x78_3 p699 q699
                 cases e699
                 replace p699 := eq_true p699
                 replace q699 := eq_true q699
                 go_wp2_with (first | ((with_reducible refine gate_callee (f := 55) rfl ?_); refine goesM_ (some 84) rfl rfl Tryd.func55 (by kernel_rfl) rfl #[.int .i64 (wrap64 ((rd t694 x78_3) + 64))] rfl ?_; (with_reducible refine (impl_FieldKind.calls k3 (wrap64 ((rd t694 x78_3) + 64)) t700 _ A36.out).mono ?_); rintro e w38 ⟨rfl, hb⟩; refine ⟨_, rfl, ?_⟩; have n0_ := Aside0.mk (Kd.R_below (rA HO_8.out) hb); have n1_ := Aside0.mk (Kd.R_below (rA HO_76.out) hb); have n2_ := Aside0.mk (blk_below (g := gb677) (o := .cells #[.string x678000_3, .slice none 0 0] 49 (0, 0)) (kA BK677.out) hb); have n3_ := Aside0.mk (below_step bG hb); clear HO_8; clear HO_76; clear BK677; clear HB; have HO_8 := n0_; have HO_76 := n1_; have BK677 := n2_; have HB := n3_; clear n0_ n1_ n2_ n3_; (try clear hb); (try clear hb2); (try clear hk); (try clear hi); have hcz39_0 : w38.cell? ⟨gb677, 0, none⟩ = some (.string x678000_3) := (blk_cell BK677.out 0).trans rfl; have hcz39_1 : w38.cell? ⟨gb677, 1, none⟩ = some (.slice none 0 0) := (blk_cell BK677.out 1).trans rfl; have hfz39_0 := blk_frozen BK677.out 0; have hfz39_1 := blk_frozen BK677.out 1))
                 refine bodyPost_ret (results_ct rfl _ _ gb677 49 #[.string (⟨#[]⟩ : ByteArray), .slice none 0 0] (0, 0) _ rfl (by (with_reducible repeat (first | refine blk_drewN ?_ _ | refine blk_drew ?_ | refine blk_alloc ?_ _)); refine blk_put (cs := #[.string (⟨#[]⟩ : ByteArray), .slice none 0 0]) ?_ 1 _ rfl; (with_reducible repeat (first | refine blk_drewN ?_ _ | refine blk_drew ?_ | refine blk_alloc ?_ _)); refine blk_put (cs := #[.string x678000_3, .slice none 0 0]) ?_ 0 _ rfl; (with_reducible repeat (first | refine blk_drewN ?_ _ | refine blk_drew ?_ | refine blk_alloc ?_ _)); exact BK677.out) Tryd.underlying49 rfl (by kernel_rfl)) rfl ?_
                 exact ⟨_, by first | rfl | (simp [errW_none, errW_some] <;> rfl) | (simp [*, errW_none, errW_some] <;> rfl), by first | exact Kd.R_nil _ _ _ _ _ | exact Kd.N_nil _ _ _ _ _ | exact Kd.V_nil _ _ _ _ _ | exact Kd.Q_nil _ _ _ _ _ | exact Kd.S_nil _ _ _ _ _, bG⟩
                ·rw [if_neg c37] at H
                 have c37b0 : (t700 == 0) = false := beq_eq_false_iff_ne.mpr c37
                 have c37b1 : (t700 != 0) = true := bne_iff_ne.mpr c37
                 by_cases c40 : x8_3.length < 17592186044416
                 ·rw [if_pos c40] at H
                  have LMc40 := Aside0.mk c40
                  clear c40
                  obtain ⟨y701, hy701⟩ : ∃ y_ : List Int, y_ = (x8_3 ++ [wrap64 ((rd t694 x78_3) + 64)]) := ⟨_, rfl⟩
                  replace H : (impl_Parse.l1 k3 l0 t678 t695 y701 t694 (t694.length : Int) (wrap64 (x78_3 + 1))) = some (r1, r2, r3) := by first | (rw [hy701]; with_reducible exact H) | (have H2_ := (Option.bind_some _ _).symm.trans H; rw [hy701]; with_reducible exact H2_) | (have H2_ := (Option.bind_some _ _).symm.trans H; with_reducible exact H2_) | with_reducible exact H | (rw [hy701]; exact H) | exact H
                  have Ny701 := Aside0.mk hy701
                  clear hy701
                  have H' := Aside0.mk H
                  clear H
                  have p699 : 0 ≤ (x78_3 : Int) := of_decide_eq_true (by first | (with_reducible assumption) | assumption)
                  have q699 : x78_3 < (t694.length : Int) := of_decide_eq_true (by first | (with_reducible assumption) | assumption)
                  obtain ⟨ad699, e699, hx699_0⟩ := Kd.at_int (Kd.R_reads' HO_76.out).2.2 x78_3 p699 q699
                  cases e699
                  replace p699 := eq_true p699
                  replace q699 := eq_true q699
                  go_wp2_with (first | ((with_reducible refine gate_callee (f := 55) rfl ?_); refine goesM_ (some 84) rfl rfl Tryd.func55 (by kernel_rfl) rfl #[.int .i64 (wrap64 ((rd t694 x78_3) + 64))] rfl ?_; (with_reducible refine (impl_FieldKind.calls k3 (wrap64 ((rd t694 x78_3) + 64)) t700 _ A36.out).mono ?_); rintro e w41 ⟨rfl, hb⟩; refine ⟨_, rfl, ?_⟩; have n0_ := Aside0.mk (Kd.R_below (rA HO_8.out) hb); have n1_ := Aside0.mk (Kd.R_below (rA HO_76.out) hb); have n2_ := Aside0.mk (blk_below (g := gb677) (o := .cells #[.string x678000_3, .slice none 0 0] 49 (0, 0)) (kA BK677.out) hb); have n3_ := Aside0.mk (below_step bG hb); clear HO_8; clear HO_76; clear BK677; clear HB; have HO_8 := n0_; have HO_76 := n1_; have BK677 := n2_; have HB := n3_; clear n0_ n1_ n2_ n3_; (try clear hb); (try clear hb2); (try clear hk); (try clear hi)) | ((with_reducible refine gate_builtin (b := .append) (xs := #[.tmp 87, .tmp 90]) rfl ?_); (try (refine gate_guard (by rfl) ?_; dsimp only)); at_builtin; refine Kd.R_append (Kd.int .i64) (w0 := w) w.heap.size rfl (.tmp 87) (.tmp 90) 32 3 (.int .i64 0) 8 rfl Tryd.underlying32 info3 rfl (by decide) (by omega) u8 x8_3 (wrap64 ((rd t694 x78_3) + 64)) [.int .i64 (wrap64 ((rd t694 x78_3) + 64))] (fun k_ => some k_ ≠ (.slice (some ad699) t694.length co32 : Value).ownBlock) (fun _ => False) rfl rfl ?aP (fun _ hk => hk.elim) ?aF ?aO ?aB ?aS ?aL ?_; (case aP => exact rfl); (case aB => exact bG); (case aF => exact (fun k_ hk => Kd.fresh' (Kd.R_lt (rA HO_76.out)) k_ hk)); (case aO => exact (rA HO_8.out)); (case aS => exact (below_size bG)); (case aL => have := LMc40.out; omega); intro v702 w42 ho hb hg hat; rw [← Ny701.out] at ho; have n0_ := Aside0.mk (Kd.R_after (ok := (fun _ => True)) (by (with_reducible repeat (first | apply Kd.R_alloc | apply Kd.R_drewN | apply Kd.R_drew)); exact Kd.R_mono HO_76.out (fun _ hk => ⟨trivial, hk⟩)) hg hat); have n1_ := Aside0.mk (blk_grown (g := gb677) (o := .cells #[.string x678000_3, .slice none 0 0] 49 (0, 0)) (kA BK677.out) hg (Kd.R_ne HO_8.out BK677.out (by decide))); have n2_ := Aside0.mk (hb); have n3_ := Aside0.mk (ho); clear HO_76; clear BK677; clear HB; clear HO_8; have HO_76 := n0_; have BK677 := n1_; have HB := n2_; have HO703 := n3_; clear n0_ n1_ n2_ n3_; clear ho hb hg hat))
                  go_roundg k3
                  case measure => have := HK1.out; have := HJ25.out; have := HK3.out; omega
                  case rel => exact ⟨(y701), (wrap64 (x78_3 + 1)), (x678000_3), (by first | rfl | (simp; done) | (simp [*]; done) | (simp [i64_w, IntKind.wrap_u8, e256_]; done) | (simp; generalize ByteArray.toList _ = zz_; cases zz_ <;> rfl)), H', ⟨by have := HK1.out; have := HJ25.out; have := HK3.out; omega⟩, ⟨rA HO703.out⟩, ⟨by (with_reducible repeat (first | apply Kd.R_alloc | apply Kd.R_drewN | apply Kd.R_drew)); exact Kd.R_mono HO_76.out (fun _ hk => hk.2)⟩, ⟨kA BK677.out⟩, ⟨bG⟩⟩
                 ·rw [if_neg c40] at H
                  exact absurd H (by simp)
               ·rw [if_neg c35] at H
                exact absurd H (by simp)
              ·rw [if_neg c34] at H
               exact absurd H (by simp)
             ·rw [if_neg c33] at H
              have c33b0 : decide (x78_3 < (t694.length : Int)) = false := decide_eq_false c33
              clear c33
              have H' := Aside0.mk H
              clear H
              go_wp2
              go_meet
              case rel => exact ⟨_, (t695), (x8_3), (x678000_3), (by first | rfl | (simp; done) | (simp [*]; done) | (simp [i64_w, IntKind.wrap_u8, e256_]; done) | (simp; generalize ByteArray.toList _ = zz_; cases zz_ <;> rfl)), H', ⟨by have := HK1.out; have := HJ25.out; have := HK3.out; first | omega | exact Nat.le_refl _⟩, ⟨by (with_reducible repeat (first | apply Kd.R_alloc | apply Kd.R_drewN | apply Kd.R_drew)); exact Kd.R_mono HO_8.out (fun _ hk => trivial)⟩, ⟨kA BK677.out⟩, ⟨bG⟩⟩
       ·replace c24 := Bool.eq_false_iff.mpr c24
        subst c24
        have H1 : (impl_Parse.j3 k1 l0 t678 t682 x8_1) = some (r1, r2, r3) := by rw [if_neg (show ¬ (false = true) by decide)] at H; exact H
        clear H
        have H := H1
        clear H1
        have H' := Aside0.mk H
        clear H
        go_wp2
        go_meet
        case rel => exact ⟨_, (t682), (x8_1), (x678000_1), (by first | rfl | (simp; done) | (simp [*]; done) | (simp [i64_w, IntKind.wrap_u8, e256_]; done) | (simp; generalize ByteArray.toList _ = zz_; cases zz_ <;> rfl)), H', ⟨by have := HK1.out; first | omega | exact Nat.le_refl _⟩, ⟨by (with_reducible repeat (first | apply Kd.R_alloc | apply Kd.R_drewN | apply Kd.R_drew)); exact Kd.R_mono HO_8.out (fun _ hk => trivial)⟩, ⟨kA BK677.out⟩, ⟨bG⟩⟩
      case rest =>
       clear HC23
       try clear c1
       try clear c2
       try clear p2
       try clear c3
       try clear c4
       try clear c5
       try clear p6
       try clear q6
       try clear hx6
       try clear c11
       try clear c12
       try clear c12b0
       try clear c13
       try clear c13b0
       try clear c14
       try clear c14b0
       try clear c15
       try clear c15b0
       try clear c15b1
       try clear c17
       try clear c17b0
       try clear c17b1
       try clear c20
       try clear c24
       try clear c28
       try clear c30
       try clear c33
       try clear c33b0
       try clear c34
       try clear c34b0
       try clear c35
       try clear c35b0
       try clear c37
       try clear c37b0
       try clear c37b1
       try clear c38
       try clear c40
       try clear hcz19_0
       try clear hcz19_1
       try clear hcz31_0
       try clear hcz31_1
       try clear hcz39_0
       try clear hcz39_1
       try clear hfz19_0
       try clear hfz19_1
       try clear hfz31_0
       try clear hfz31_1
       try clear hfz39_0
       try clear hfz39_1
       try clear hx689_0
       try clear hx699_0
       try clear p2
       try clear p6
       try clear p689
       try clear p699
       try clear q6
       try clear q689
       try clear q699
       obtain ⟨kq, x5_22, x8_22, x678000_22, rfl, HA, HJ22, HO_8, BK677, HB⟩ := hcut
       cases kq with
       | zero => exact absurd HA.out (by simp [impl_Parse.j3])
       | succ kj22 =>
        have H := HA.out
        clear HA
        simp only [impl_Parse.j3] at H
        have H' := Aside0.mk H
        clear H
        go_wp2_with (first | ((with_reducible refine gate_dst (N := 15) rfl ?_); (try (refine gate_guard (by rfl) ?_; dsimp only)); refine box_event ?hg (N := 15) ?hd (cs := #[.string (⟨#[]⟩ : ByteArray), .slice none 0 0]) (t := 49) ?hr ?_; (case hd => rfl); (case hg => rfl); (case hr => first | (go_simp; done) | (go_simp; rfl)); intro gb704 hg w43 hbox hb; have n0_ := Aside0.mk (Kd.R_below (rA HO_8.out) hb); have n1_ := Aside0.mk (blk_below (g := gb677) (o := .cells #[.string x678000_22, .slice none 0 0] 49 (0, 0)) (kA BK677.out) hb); have n2_ := Aside0.mk (below_step bG hb); have n3_ := Aside0.mk (hbox); have n4_ := Aside0.mk ((by rw [hg]; exact (below_size bG) : w.heap.size ≤ gb704)); have n5_ := Aside0.mk ((by rw [hg]; exact (below_size bG) : w.heap.size ≤ gb704)); have n6_ := Aside0.mk ((by rw [hg]; exact Nat.ne_of_lt (blk_lt (g := gb677) (o := .cells #[.string x678000_22, .slice none 0 0] 49 (0, 0)) (kA BK677.out)) : gb677 ≠ gb704)); have n7_ := Aside0.mk ((by rw [hg]; exact Nat.ne_of_gt (blk_lt (g := gb677) (o := .cells #[.string x678000_22, .slice none 0 0] 49 (0, 0)) (kA BK677.out)) : gb704 ≠ gb677)); clear HO_8; clear BK677; clear HB; have HO_8 := n0_; have BK677 := n1_; have HB := n2_; have BK704 := n3_; have GW704 := n4_; have GE704 := n5_; have NB677_704 := n6_; have NB704_677 := n7_; clear n0_ n1_ n2_ n3_ n4_ n5_ n6_ n7_; clear hb hbox hg; have hnb44 := NB704_677.out; have hnc44 := NB677_704.out; have hcz45_0 : w43.cell? ⟨gb704, 0, none⟩ = some (.string (⟨#[]⟩ : ByteArray)) := (blk_cell BK704.out 0).trans rfl; have hcz45_1 : w43.cell? ⟨gb704, 1, none⟩ = some (.slice none 0 0) := (blk_cell BK704.out 1).trans rfl; have hfz45_0 := blk_frozen BK704.out 0; have hfz45_1 := blk_frozen BK704.out 1; obtain ⟨Ao46, co46, eo46⟩ := Kd.R_slice HO_8.out; subst eo46))
        go_loopg [5, 97] kj22 (fun kq v5 v97 w' => ∃ (x5_3 : Int) (x97_3 : Int) (x678000_3 : ByteArray) (x705001_3 : List (S79)) (u705001 : Value), v5 = .int .i64 x5_3 ∧ v97 = .int .i64 x97_3 ∧ Aside0 (impl_Parse.l2 kq l0 x5_3 x8_22 (x8_22.length : Int) x97_3 t678 x705001_3 = some (r1, r2, r3)) ∧ Aside0 (kq ≤ kj22) ∧ Aside0 (Kd.R (Kd.int .i64) 3 w' w.heap.size (fun _ => True) (.slice Ao46 x8_22.length co46) x8_22) ∧ Aside0 (Kd.R k79 79 w' w.heap.size (fun _ => True) u705001 x705001_3) ∧ Aside0 (w'.heap[gb677]? = some (.cells #[.string x678000_3, (.slice none 0 0)] 49 (0, 0))) ∧ Aside0 (w'.heap[gb704]? = some (.cells #[.string t678, u705001] 49 (0, 0))) ∧ Aside0 (Below w.heap.size w w'))
        case atStart => exact ⟨(x5_22), (0), (x678000_22), (([] : List (S79))), (.slice none 0 0), (by first | rfl | (simp; done) | (simp [*]; done) | (simp [i64_w, IntKind.wrap_u8, e256_]; done) | (simp; generalize ByteArray.toList _ = zz_; cases zz_ <;> rfl)), (by first | rfl | (simp; done) | (simp [*]; done) | (simp [i64_w, IntKind.wrap_u8, e256_]; done) | (simp; generalize ByteArray.toList _ = zz_; cases zz_ <;> rfl)), H', ⟨Nat.le_refl _⟩, ⟨by (with_reducible repeat (first | apply Kd.R_alloc | apply Kd.R_drewN | apply Kd.R_drew)); exact Kd.R_mono (Kd.R_far (p := ⟨gb704, 1, none⟩) (Kd.R_far (p := ⟨gb704, 0, none⟩) (Kd.R_types HO_8.out BK704.out (by decide)) (fun _ hk => hk.2) (.string t678)) (fun _ hk => hk.2) (.slice none 0 0)) (fun _ hk => trivial)⟩, ⟨by first | exact Kd.R_nil _ _ _ _ _ | exact Kd.N_nil _ _ _ _ _ | exact Kd.V_nil _ _ _ _ _ | exact Kd.Q_nil _ _ _ _ _ | exact Kd.S_nil _ _ _ _ _⟩, ⟨by (with_reducible repeat (first | refine blk_drewN ?_ _ | refine blk_drew ?_ | refine blk_alloc ?_ _)); refine blk_far ?_ NB677_704.out _; (with_reducible repeat (first | refine blk_drewN ?_ _ | refine blk_drew ?_ | refine blk_alloc ?_ _)); refine blk_far ?_ NB677_704.out _; (with_reducible repeat (first | refine blk_drewN ?_ _ | refine blk_drew ?_ | refine blk_alloc ?_ _)); exact BK677.out⟩, ⟨by (with_reducible repeat (first | refine blk_drewN ?_ _ | refine blk_drew ?_ | refine blk_alloc ?_ _)); refine blk_put (cs := #[.string t678, .slice none 0 0]) ?_ 1 _ rfl; (with_reducible repeat (first | refine blk_drewN ?_ _ | refine blk_drew ?_ | refine blk_alloc ?_ _)); refine blk_put (cs := #[.string (⟨#[]⟩ : ByteArray), .slice none 0 0]) ?_ 0 _ rfl; (with_reducible repeat (first | refine blk_drewN ?_ _ | refine blk_drew ?_ | refine blk_alloc ?_ _)); exact BK704.out⟩, ⟨bG⟩⟩
        case round =>
         clear H'
         try clear c1
         try clear c2
         try clear p2
         try clear c3
         try clear c4
         try clear c5
         try clear p6
         try clear q6
         try clear hx6
         try clear c11
         try clear c12
         try clear c12b0
         try clear c13
         try clear c13b0
         try clear c14
         try clear c14b0
         try clear c15
         try clear c15b0
         try clear c15b1
         try clear c17
         try clear c17b0
         try clear c17b1
         try clear c20
         try clear c24
         try clear c28
         try clear c30
         try clear c33
         try clear c33b0
         try clear c34
         try clear c34b0
         try clear c35
         try clear c35b0
         try clear c37
         try clear c37b0
         try clear c37b1
         try clear c38
         try clear c40
         try clear c44
         try clear hcz19_0
         try clear hcz19_1
         try clear hcz31_0
         try clear hcz31_1
         try clear hcz39_0
         try clear hcz39_1
         try clear hcz45_0
         try clear hcz45_1
         try clear hfz19_0
         try clear hfz19_1
         try clear hfz31_0
         try clear hfz31_1
         try clear hfz39_0
         try clear hfz39_1
         try clear hfz45_0
         try clear hfz45_1
         try clear hx689_0
         try clear hx699_0
         try clear p2
         try clear p6
         try clear p689
         try clear p699
         try clear q6
         try clear q689
         try clear q699
         obtain ⟨x5_3, x97_3, x678000_3, x705001_3, u705001, rfl, rfl, HA, HK3, HO_95, HO_705001, BK677, BK704, HB⟩ := hrel
         cases gk with
         | zero => exact absurd HA.out (by simp [impl_Parse.l2])
         | succ k3 =>
          have H := HA.out
          clear HA
          simp only [impl_Parse.l2] at H
          by_cases c47 : x97_3 < (x8_22.length : Int)
          ·rw [if_pos c47] at H
           have c47b0 : decide (x97_3 < (x8_22.length : Int)) = true := decide_eq_true c47
           clear c47
           by_cases c48 : 0 ≤ x97_3
           ·rw [if_pos c48] at H
            have c48b0 : decide (0 ≤ x97_3) = true := decide_eq_true c48
            clear c48
            by_cases c49 : x97_3 < (x8_22.length : Int)
            ·rw [if_pos c49] at H
             have c49b0 : decide (x97_3 < (x8_22.length : Int)) = true := decide_eq_true c49
             clear c49
             replace H := Option.bind_eq_some_iff.mp H
             obtain ⟨⟨t706, t707, t708⟩, A500, H⟩ := H
             replace H : (if t708 = true then (if x705001_3.length < 5864062014805 then (impl_Parse.l2 k3 l0 t707 x8_22 (x8_22.length : Int) (wrap64 (x97_3 + 1)) t678 (x705001_3 ++ [(⟨rd x8_22 x97_3, t706⟩ : S79)])) else (none)) else (some ((⟨#[]⟩ : ByteArray), ([] : List (S79)), 3))) = some (r1, r2, r3) := H
             have A50 := Aside0.mk A500
             clear A500
             by_cases c51 : t708 = true
             ·subst c51
              have H1 : (if x705001_3.length < 5864062014805 then (impl_Parse.l2 k3 l0 t707 x8_22 (x8_22.length : Int) (wrap64 (x97_3 + 1)) t678 (x705001_3 ++ [(⟨rd x8_22 x97_3, t706⟩ : S79)])) else (none)) = some (r1, r2, r3) := by rw [if_pos rfl] at H; exact H
              clear H
              have H := H1
              clear H1
              by_cases c52 : x705001_3.length < 5864062014805
              ·rw [if_pos c52] at H
               have LMc52 := Aside0.mk c52
               clear c52
               obtain ⟨y709, hy709⟩ : ∃ y_ : List (S79), y_ = (x705001_3 ++ [(⟨rd x8_22 x97_3, t706⟩ : S79)]) := ⟨_, rfl⟩
               replace H : (impl_Parse.l2 k3 l0 t707 x8_22 (x8_22.length : Int) (wrap64 (x97_3 + 1)) t678 y709) = some (r1, r2, r3) := by first | (rw [hy709]; with_reducible exact H) | (have H2_ := (Option.bind_some _ _).symm.trans H; rw [hy709]; with_reducible exact H2_) | (have H2_ := (Option.bind_some _ _).symm.trans H; with_reducible exact H2_) | with_reducible exact H | (rw [hy709]; exact H) | exact H
               have Ny709 := Aside0.mk hy709
               clear hy709
               have H' := Aside0.mk H
               clear H
               have p705 : 0 ≤ (x97_3 : Int) := of_decide_eq_true (by first | (with_reducible assumption) | assumption)
               have q705 : x97_3 < (x8_22.length : Int) := of_decide_eq_true (by first | (with_reducible assumption) | assumption)
               obtain ⟨ad705, e705, hx705_0⟩ := Kd.at_int (Kd.R_reads' HO_95.out).2.2 x97_3 p705 q705
               cases e705
               replace p705 := eq_true p705
               replace q705 := eq_true q705
               go_wp2_with (first | ((with_reducible refine gate_callee (f := 33) rfl ?_); refine goesM_ (some 105) rfl rfl Tryd.func33 (by kernel_rfl) rfl #[.slice A0 l0.length c0, .int .i64 x5_3, .int .i64 (rd x8_22 x97_3)] rfl ?_; (with_reducible refine (impl_GetField.calls k3 _ _ l0 x5_3 (rd x8_22 x97_3) t706 t707 true _ ?side1 ?side2 ?side3 A50.out).mono ?_); (case side1 => repeat (first | exact (Kd.C_below HR0.out HB.out) | (with_reducible refine Kd.C_alloc ?_ _) | (with_reducible refine Kd.C_drewN ?_ _) | (with_reducible refine Kd.C_drew ?_))); (case side2 => exact HC0.out); (case side3 => exact GLW_below HG.out bG); rintro e w53 ⟨rfl, hb⟩; refine ⟨_, rfl, ?_⟩; have n0_ := Aside0.mk (Kd.R_below (rA HO_95.out) hb); have n1_ := Aside0.mk (Kd.R_below (rA HO_705001.out) hb); have n2_ := Aside0.mk (blk_below (g := gb677) (o := .cells #[.string x678000_3, .slice none 0 0] 49 (0, 0)) (kA BK677.out) hb); have n3_ := Aside0.mk (blk_below (g := gb704) (o := .cells #[.string t678, u705001] 49 (0, 0)) (kA BK704.out) hb); have n4_ := Aside0.mk (below_step bG hb); clear HO_95; clear HO_705001; clear BK677; clear BK704; clear HB; have HO_95 := n0_; have HO_705001 := n1_; have BK677 := n2_; have BK704 := n3_; have HB := n4_; clear n0_ n1_ n2_ n3_ n4_; (try clear hb); (try clear hb2); (try clear hk); (try clear hi); have hnb54 := NB704_677.out; have hnc54 := NB677_704.out; have hcz55_0 : w53.cell? ⟨gb704, 0, none⟩ = some (.string t678) := (blk_cell BK704.out 0).trans rfl; have hcz55_1 : w53.cell? ⟨gb704, 1, none⟩ = some (u705001) := (blk_cell BK704.out 1).trans rfl; have hfz55_0 := blk_frozen BK704.out 0; have hfz55_1 := blk_frozen BK704.out 1) | ((with_reducible refine gate_builtin (b := .append) (xs := #[.tmp 113, .tmp 117]) rfl ?_); (try (refine gate_guard (by rfl) ?_; dsimp only)); at_builtin; refine Kd.R_append k79 (w0 := w) w.heap.size rfl (.tmp 113) (.tmp 117) 47 79 (.agg #[(.int .i64 0), (.string ⟨#[]⟩)]) 24 rfl Tryd.underlying47 info79 rfl (by decide) (by omega) u705001 x705001_3 (⟨rd x8_22 x97_3, t706⟩ : S79) [.int .i64 (rd x8_22 x97_3), .string t706] (fun _ => True) (fun _ => False) rfl rfl ?aP (fun _ hk => hk.elim) ?aF ?aO ?aB ?aS ?aL ?_; (case aP => exact k79_mkM _ _ _ (⟨rd x8_22 x97_3, t706⟩ : S79)); (case aB => exact bG); (case aF => exact (fun _ _ => trivial)); (case aO => exact (rA HO_705001.out)); (case aS => exact (below_size bG)); (case aL => have := LMc52.out; omega); intro v710 w56 ho hb hg hat; rw [← Ny709.out] at ho; have n0_ := Aside0.mk (Kd.R_over' (rA HO_95.out) (Kd.R_typed (rA HO_705001.out)) (by decide) hg); have n1_ := Aside0.mk (blk_grown (g := gb677) (o := .cells #[.string x678000_3, .slice none 0 0] 49 (0, 0)) (kA BK677.out) hg (Kd.R_ne HO_705001.out BK677.out (by decide))); have n2_ := Aside0.mk (blk_grown (g := gb704) (o := .cells #[.string t678, u705001] 49 (0, 0)) (kA BK704.out) hg (Kd.R_ne HO_705001.out BK704.out (by decide))); have n3_ := Aside0.mk (hb); have n4_ := Aside0.mk (ho); clear HO_95; clear BK677; clear BK704; clear HB; clear HO_705001; have HO_95 := n0_; have BK677 := n1_; have BK704 := n2_; have HB := n3_; have HO711 := n4_; clear n0_ n1_ n2_ n3_ n4_; clear ho hb hg hat; obtain ⟨Ao57, co57, eo57⟩ := Kd.R_slice HO711.out; subst eo57; have hcz58_0 : w56.cell? ⟨gb704, 0, none⟩ = some (.string t678) := (blk_cell BK704.out 0).trans rfl; have hcz58_1 : w56.cell? ⟨gb704, 1, none⟩ = some (u705001) := (blk_cell BK704.out 1).trans rfl; have hfz58_0 := blk_frozen BK704.out 0; have hfz58_1 := blk_frozen BK704.out 1))
               go_roundg k3
               case measure => have := HK1.out; have := HJ22.out; have := HK3.out; omega
               case rel => exact ⟨(t707), (wrap64 (x97_3 + 1)), (x678000_3), (y709), (.slice Ao57 y709.length co57), (by first | rfl | (simp; done) | (simp [*]; done) | (simp [i64_w, IntKind.wrap_u8, e256_]; done) | (simp; generalize ByteArray.toList _ = zz_; cases zz_ <;> rfl)), (by first | rfl | (simp; done) | (simp [*]; done) | (simp [i64_w, IntKind.wrap_u8, e256_]; done) | (simp; generalize ByteArray.toList _ = zz_; cases zz_ <;> rfl)), H', ⟨by have := HK1.out; have := HJ22.out; have := HK3.out; omega⟩, ⟨by (with_reducible repeat (first | apply Kd.R_alloc | apply Kd.R_drewN | apply Kd.R_drew)); exact Kd.R_mono (Kd.R_far (p := ⟨gb704, 1, none⟩) (Kd.R_types HO_95.out BK704.out (by decide)) (fun _ hk => hk.2) (.slice Ao57 y709.length co57)) (fun _ hk => trivial)⟩, ⟨by (with_reducible repeat (first | apply Kd.R_alloc | apply Kd.R_drewN | apply Kd.R_drew)); exact Kd.R_mono (Kd.R_far (p := ⟨gb704, 1, none⟩) (Kd.R_types HO711.out BK704.out (by decide)) (fun _ hk => hk.2) (.slice Ao57 y709.length co57)) (fun _ hk => trivial)⟩, ⟨by (with_reducible repeat (first | refine blk_drewN ?_ _ | refine blk_drew ?_ | refine blk_alloc ?_ _)); refine blk_far ?_ NB677_704.out _; (with_reducible repeat (first | refine blk_drewN ?_ _ | refine blk_drew ?_ | refine blk_alloc ?_ _)); exact BK677.out⟩, ⟨by (with_reducible repeat (first | refine blk_drewN ?_ _ | refine blk_drew ?_ | refine blk_alloc ?_ _)); refine blk_put (cs := #[.string t678, u705001]) ?_ 1 _ rfl; (with_reducible repeat (first | refine blk_drewN ?_ _ | refine blk_drew ?_ | refine blk_alloc ?_ _)); exact BK704.out⟩, ⟨bG⟩⟩
              ·rw [if_neg c52] at H
               exact absurd H (by simp)
             ·replace c51 := Bool.eq_false_iff.mpr c51
              subst c51
              have H1 : (some ((⟨#[]⟩ : ByteArray), ([] : List (S79)), 3)) = some (r1, r2, r3) := by rw [if_neg (show ¬ (false = true) by decide)] at H; exact H
              clear H
              have H := H1
              clear H1
              simp only [Option.some.injEq, Prod.mk.injEq] at H
              obtain ⟨rfl, rfl, rfl⟩ := H
              have p705 : 0 ≤ (x97_3 : Int) := of_decide_eq_true (by first | (with_reducible assumption) | assumption)
              have q705 : x97_3 < (x8_22.length : Int) := of_decide_eq_true (by first | (with_reducible assumption) | assumption)
              obtain ⟨ad705, e705, hx705_0⟩ := Kd.at_int (Kd.R_reads' HO_95.out).2.2 x97_3 p705 q705
              cases e705
              replace p705 := eq_true p705
              replace q705 := eq_true q705
              go_wp2_with (first | ((with_reducible refine gate_callee (f := 33) rfl ?_); refine goesM_ (some 105) rfl rfl Tryd.func33 (by kernel_rfl) rfl #[.slice A0 l0.length c0, .int .i64 x5_3, .int .i64 (rd x8_22 x97_3)] rfl ?_; (with_reducible refine (impl_GetField.calls k3 _ _ l0 x5_3 (rd x8_22 x97_3) t706 t707 false _ ?side1 ?side2 ?side3 A50.out).mono ?_); (case side1 => repeat (first | exact (Kd.C_below HR0.out HB.out) | (with_reducible refine Kd.C_alloc ?_ _) | (with_reducible refine Kd.C_drewN ?_ _) | (with_reducible refine Kd.C_drew ?_))); (case side2 => exact HC0.out); (case side3 => exact GLW_below HG.out bG); rintro e w59 ⟨rfl, hb⟩; refine ⟨_, rfl, ?_⟩; have n0_ := Aside0.mk (Kd.R_below (rA HO_95.out) hb); have n1_ := Aside0.mk (Kd.R_below (rA HO_705001.out) hb); have n2_ := Aside0.mk (blk_below (g := gb677) (o := .cells #[.string x678000_3, .slice none 0 0] 49 (0, 0)) (kA BK677.out) hb); have n3_ := Aside0.mk (blk_below (g := gb704) (o := .cells #[.string t678, u705001] 49 (0, 0)) (kA BK704.out) hb); have n4_ := Aside0.mk (below_step bG hb); clear HO_95; clear HO_705001; clear BK677; clear BK704; clear HB; have HO_95 := n0_; have HO_705001 := n1_; have BK677 := n2_; have BK704 := n3_; have HB := n4_; clear n0_ n1_ n2_ n3_ n4_; (try clear hb); (try clear hb2); (try clear hk); (try clear hi); have hnb60 := NB677_704.out; have hnc60 := NB704_677.out; have hcz61_0 : w59.cell? ⟨gb677, 0, none⟩ = some (.string x678000_3) := (blk_cell BK677.out 0).trans rfl; have hcz61_1 : w59.cell? ⟨gb677, 1, none⟩ = some (.slice none 0 0) := (blk_cell BK677.out 1).trans rfl; have hfz61_0 := blk_frozen BK677.out 0; have hfz61_1 := blk_frozen BK677.out 1))
              refine bodyPost_ret (results_ct rfl _ _ gb677 49 #[.string (⟨#[]⟩ : ByteArray), .slice none 0 0] (0, 0) _ rfl (by (with_reducible repeat (first | refine blk_drewN ?_ _ | refine blk_drew ?_ | refine blk_alloc ?_ _)); refine blk_put (cs := #[.string (⟨#[]⟩ : ByteArray), .slice none 0 0]) ?_ 1 _ rfl; (with_reducible repeat (first | refine blk_drewN ?_ _ | refine blk_drew ?_ | refine blk_alloc ?_ _)); refine blk_put (cs := #[.string x678000_3, .slice none 0 0]) ?_ 0 _ rfl; (with_reducible repeat (first | refine blk_drewN ?_ _ | refine blk_drew ?_ | refine blk_alloc ?_ _)); exact BK677.out) Tryd.underlying49 rfl (by kernel_rfl)) rfl ?_
              exact ⟨_, by first | rfl | (simp [errW_none, errW_some] <;> rfl) | (simp [*, errW_none, errW_some] <;> rfl), by first | exact Kd.R_nil _ _ _ _ _ | exact Kd.N_nil _ _ _ _ _ | exact Kd.V_nil _ _ _ _ _ | exact Kd.Q_nil _ _ _ _ _ | exact Kd.S_nil _ _ _ _ _, bG⟩
            ·rw [if_neg c49] at H
             exact absurd H (by simp)
           ·rw [if_neg c48] at H
            exact absurd H (by simp)
          ·rw [if_neg c47] at H
           have c47b0 : decide (x97_3 < (x8_22.length : Int)) = false := decide_eq_false c47
           clear c47
           by_cases c62 : x5_3 = (l0.length : Int)
           ·rw [if_pos c62] at H
            have c62b0 : (x5_3 == (l0.length : Int)) = true := beq_iff_eq.mpr c62
            have c62b1 : (x5_3 != (l0.length : Int)) = false := bne_eq_false_iff_eq.mpr c62
            clear c62
            simp only [Option.some.injEq, Prod.mk.injEq] at H
            obtain ⟨rfl, rfl, rfl⟩ := H
            have hnb63 := NB704_677.out
            have hnc63 := NB677_704.out
            have hcz64_0 : wr.cell? ⟨gb704, 0, none⟩ = some (.string t678) := (blk_cell BK704.out 0).trans rfl
            have hcz64_1 : wr.cell? ⟨gb704, 1, none⟩ = some (u705001) := (blk_cell BK704.out 1).trans rfl
            have hfz64_0 := blk_frozen BK704.out 0
            have hfz64_1 := blk_frozen BK704.out 1
            have hcz65_0 : wr.cell? ⟨gb677, 0, none⟩ = some (.string x678000_3) := (blk_cell BK677.out 0).trans rfl
            have hcz65_1 : wr.cell? ⟨gb677, 1, none⟩ = some (.slice none 0 0) := (blk_cell BK677.out 1).trans rfl
            have hfz65_0 := blk_frozen BK677.out 0
            have hfz65_1 := blk_frozen BK677.out 1
            obtain ⟨Ao66, co66, eo66⟩ := Kd.R_slice HO_705001.out
            subst eo66
            go_wp2
            refine bodyPost_ret (results_ct rfl _ _ gb677 49 #[.string t678, .slice Ao66 x705001_3.length co66] (0, 0) _ rfl (by (with_reducible repeat (first | refine blk_drewN ?_ _ | refine blk_drew ?_ | refine blk_alloc ?_ _)); refine blk_put (cs := #[.string t678, .slice none 0 0]) ?_ 1 _ rfl; (with_reducible repeat (first | refine blk_drewN ?_ _ | refine blk_drew ?_ | refine blk_alloc ?_ _)); refine blk_put (cs := #[.string x678000_3, .slice none 0 0]) ?_ 0 _ rfl; (with_reducible repeat (first | refine blk_drewN ?_ _ | refine blk_drew ?_ | refine blk_alloc ?_ _)); exact BK677.out) Tryd.underlying49 rfl (by kernel_rfl)) rfl ?_
            exact ⟨_, by first | rfl | (simp [errW_none, errW_some] <;> rfl) | (simp [*, errW_none, errW_some] <;> rfl), by (with_reducible repeat (first | apply Kd.R_alloc | apply Kd.R_drewN | apply Kd.R_drew)); exact Kd.R_mono (Kd.R_far (p := ⟨gb677, 1, none⟩) (Kd.R_far (p := ⟨gb677, 0, none⟩) (Kd.R_types HO_705001.out BK677.out (by decide)) (fun _ hk => hk.2) (.string t678)) (fun _ hk => hk.2) (.slice Ao66 x705001_3.length co66)) (fun _ hk => trivial), bG⟩
           ·rw [if_neg c62] at H
            have c62b0 : (x5_3 == (l0.length : Int)) = false := beq_eq_false_iff_ne.mpr c62
            have c62b1 : (x5_3 != (l0.length : Int)) = true := bne_iff_ne.mpr c62
            simp only [Option.some.injEq, Prod.mk.injEq] at H
            obtain ⟨rfl, rfl, rfl⟩ := H
            have hnb67 := NB677_704.out
            have hnc67 := NB704_677.out
            have hcz68_0 : wr.cell? ⟨gb677, 0, none⟩ = some (.string x678000_3) := (blk_cell BK677.out 0).trans rfl
            have hcz68_1 : wr.cell? ⟨gb677, 1, none⟩ = some (.slice none 0 0) := (blk_cell BK677.out 1).trans rfl
            have hfz68_0 := blk_frozen BK677.out 0
            have hfz68_1 := blk_frozen BK677.out 1
            go_wp2
            refine bodyPost_ret (results_ct rfl _ _ gb677 49 #[.string (⟨#[]⟩ : ByteArray), .slice none 0 0] (0, 0) _ rfl (by (with_reducible repeat (first | refine blk_drewN ?_ _ | refine blk_drew ?_ | refine blk_alloc ?_ _)); refine blk_put (cs := #[.string (⟨#[]⟩ : ByteArray), .slice none 0 0]) ?_ 1 _ rfl; (with_reducible repeat (first | refine blk_drewN ?_ _ | refine blk_drew ?_ | refine blk_alloc ?_ _)); refine blk_put (cs := #[.string x678000_3, .slice none 0 0]) ?_ 0 _ rfl; (with_reducible repeat (first | refine blk_drewN ?_ _ | refine blk_drew ?_ | refine blk_alloc ?_ _)); exact BK677.out) Tryd.underlying49 rfl (by kernel_rfl)) rfl ?_
            exact ⟨_, by first | rfl | (simp [errW_none, errW_some] <;> rfl) | (simp [*, errW_none, errW_some] <;> rfl), by first | exact Kd.R_nil _ _ _ _ _ | exact Kd.N_nil _ _ _ _ _ | exact Kd.V_nil _ _ _ _ _ | exact Kd.Q_nil _ _ _ _ _ | exact Kd.S_nil _ _ _ _ _, bG⟩
  ·replace c5 := Bool.eq_false_iff.mpr c5
   subst c5
   have H1 : (some ((⟨#[]⟩ : ByteArray), ([] : List (S79)), 2)) = some (r1, r2, r3) := by rw [if_neg (show ¬ (false = true) by decide)] at H; exact H
   clear H
   have H := H1
   clear H1
   simp only [Option.some.injEq, Prod.mk.injEq] at H
   obtain ⟨rfl, rfl, rfl⟩ := H
   go_enter Tryd.func38, Tryd.ntmps38
   go_wp2_with (first | ((with_reducible refine gate_dst (N := 2) rfl ?_); (try (refine gate_guard (by rfl) ?_; dsimp only)); refine box_event ?hg (N := 2) ?hd (cs := #[.string (⟨#[]⟩ : ByteArray), .slice none 0 0]) (t := 49) ?hr ?_; (case hd => rfl); (case hg => rfl); (case hr => first | (go_simp; done) | (go_simp; rfl)); intro gb677 hg w69 hbox hb; have n0_ := Aside0.mk (below_step bB hb); have n1_ := Aside0.mk (hbox); have n2_ := Aside0.mk ((by rw [hg]; exact (below_size bB) : w.heap.size ≤ gb677)); have n3_ := Aside0.mk ((by rw [hg]; exact (below_size bB) : w.heap.size ≤ gb677)); clear HB; have HB := n0_; have BK677 := n1_; have GW677 := n2_; have GE677 := n3_; clear n0_ n1_ n2_ n3_; clear hb hbox hg) | ((with_reducible refine gate_callee (f := 11) rfl ?_); refine goesM_ (some 23) rfl rfl Tryd.func11 (by kernel_rfl) rfl #[.slice A0 l0.length c0, .int .i64 0, .int .i64 4] rfl ?_; (with_reducible refine (impl_GetBcd.calls k _ _ l0 0 4 t678 t679 true _ ?side1 ?side2 A2.out).mono ?_); (case side1 => repeat (first | exact (Kd.C_below HR0.out HB.out) | (with_reducible refine Kd.C_alloc ?_ _) | (with_reducible refine Kd.C_drewN ?_ _) | (with_reducible refine Kd.C_drew ?_))); (case side2 => exact HC0.out); rintro e w70 ⟨rfl, hb⟩; refine ⟨_, rfl, ?_⟩; have n0_ := Aside0.mk (blk_below (g := gb677) (o := .cells #[.string (⟨#[]⟩ : ByteArray), .slice none 0 0] 49 (0, 0)) (kA BK677.out) hb); have n1_ := Aside0.mk (below_step bG hb); clear BK677; clear HB; have BK677 := n0_; have HB := n1_; clear n0_ n1_; (try clear hb); (try clear hb2); (try clear hk); (try clear hi)) | ((with_reducible refine gate_callee (f := 15) rfl ?_); refine goesM_ (some 33) rfl rfl Tryd.func15 (by kernel_rfl) rfl #[.slice A0 l0.length c0, .int .i64 t679] rfl ?_; (with_reducible refine (impl_GetBits.calls k _ _ l0 t679 t681 t682 false _ ?side1 ?side2 A4.out).mono ?_); (case side1 => repeat (first | exact (Kd.C_below HR0.out HB.out) | (with_reducible refine Kd.C_alloc ?_ _) | (with_reducible refine Kd.C_drewN ?_ _) | (with_reducible refine Kd.C_drew ?_))); (case side2 => exact HC0.out); rintro e w71 ⟨v684, rfl, ho0, hb⟩; refine ⟨_, rfl, ?_⟩; have n0_ := Aside0.mk (Kd.R_lower ho0 (below_size bG)); have n1_ := Aside0.mk (blk_below (g := gb677) (o := .cells #[.string (⟨#[]⟩ : ByteArray), .slice none 0 0] 49 (0, 0)) (kA BK677.out) hb); have n2_ := Aside0.mk (below_step bG hb); clear BK677; clear HB; have HO685 := n0_; have BK677 := n1_; have HB := n2_; clear n0_ n1_ n2_; (try clear hb); (try clear hb2); (try clear hk); (try clear hi); (try clear ho0); have hcz72_0 : w71.cell? ⟨gb677, 0, none⟩ = some (.string (⟨#[]⟩ : ByteArray)) := (blk_cell BK677.out 0).trans rfl; have hcz72_1 : w71.cell? ⟨gb677, 1, none⟩ = some (.slice none 0 0) := (blk_cell BK677.out 1).trans rfl; have hfz72_0 := blk_frozen BK677.out 0; have hfz72_1 := blk_frozen BK677.out 1))
   refine bodyPost_ret (results_ct rfl _ _ gb677 49 #[.string (⟨#[]⟩ : ByteArray), .slice none 0 0] (0, 0) _ rfl (by (with_reducible repeat (first | refine blk_drewN ?_ _ | refine blk_drew ?_ | refine blk_alloc ?_ _)); refine blk_put (cs := #[.string (⟨#[]⟩ : ByteArray), .slice none 0 0]) ?_ 1 _ rfl; (with_reducible repeat (first | refine blk_drewN ?_ _ | refine blk_drew ?_ | refine blk_alloc ?_ _)); refine blk_put (cs := #[.string (⟨#[]⟩ : ByteArray), .slice none 0 0]) ?_ 0 _ rfl; (with_reducible repeat (first | refine blk_drewN ?_ _ | refine blk_drew ?_ | refine blk_alloc ?_ _)); exact BK677.out) Tryd.underlying49 rfl (by kernel_rfl)) rfl ?_
   exact ⟨_, by first | rfl | (simp [errW_none, errW_some] <;> rfl) | (simp [*, errW_none, errW_some] <;> rfl), by first | exact Kd.R_nil _ _ _ _ _ | exact Kd.N_nil _ _ _ _ _ | exact Kd.V_nil _ _ _ _ _ | exact Kd.Q_nil _ _ _ _ _ | exact Kd.S_nil _ _ _ _ _, bG⟩
 ·replace c3 := Bool.eq_false_iff.mpr c3
  subst c3
  have H1 : (some ((⟨#[]⟩ : ByteArray), ([] : List (S79)), 1)) = some (r1, r2, r3) := by rw [if_neg (show ¬ (false = true) by decide)] at H; exact H
  clear H
  have H := H1
  clear H1
  simp only [Option.some.injEq, Prod.mk.injEq] at H
  obtain ⟨rfl, rfl, rfl⟩ := H
  go_enter Tryd.func38, Tryd.ntmps38
  go_wp2_with (first | ((with_reducible refine gate_dst (N := 2) rfl ?_); (try (refine gate_guard (by rfl) ?_; dsimp only)); refine box_event ?hg (N := 2) ?hd (cs := #[.string (⟨#[]⟩ : ByteArray), .slice none 0 0]) (t := 49) ?hr ?_; (case hd => rfl); (case hg => rfl); (case hr => first | (go_simp; done) | (go_simp; rfl)); intro gb677 hg w73 hbox hb; have n0_ := Aside0.mk (below_step bB hb); have n1_ := Aside0.mk (hbox); have n2_ := Aside0.mk ((by rw [hg]; exact (below_size bB) : w.heap.size ≤ gb677)); have n3_ := Aside0.mk ((by rw [hg]; exact (below_size bB) : w.heap.size ≤ gb677)); clear HB; have HB := n0_; have BK677 := n1_; have GW677 := n2_; have GE677 := n3_; clear n0_ n1_ n2_ n3_; clear hb hbox hg) | ((with_reducible refine gate_callee (f := 11) rfl ?_); refine goesM_ (some 23) rfl rfl Tryd.func11 (by kernel_rfl) rfl #[.slice A0 l0.length c0, .int .i64 0, .int .i64 4] rfl ?_; (with_reducible refine (impl_GetBcd.calls k _ _ l0 0 4 t678 t679 false _ ?side1 ?side2 A2.out).mono ?_); (case side1 => repeat (first | exact (Kd.C_below HR0.out HB.out) | (with_reducible refine Kd.C_alloc ?_ _) | (with_reducible refine Kd.C_drewN ?_ _) | (with_reducible refine Kd.C_drew ?_))); (case side2 => exact HC0.out); rintro e w74 ⟨rfl, hb⟩; refine ⟨_, rfl, ?_⟩; have n0_ := Aside0.mk (blk_below (g := gb677) (o := .cells #[.string (⟨#[]⟩ : ByteArray), .slice none 0 0] 49 (0, 0)) (kA BK677.out) hb); have n1_ := Aside0.mk (below_step bG hb); clear BK677; clear HB; have BK677 := n0_; have HB := n1_; clear n0_ n1_; (try clear hb); (try clear hb2); (try clear hk); (try clear hi); have hcz75_0 : w74.cell? ⟨gb677, 0, none⟩ = some (.string (⟨#[]⟩ : ByteArray)) := (blk_cell BK677.out 0).trans rfl; have hcz75_1 : w74.cell? ⟨gb677, 1, none⟩ = some (.slice none 0 0) := (blk_cell BK677.out 1).trans rfl; have hfz75_0 := blk_frozen BK677.out 0; have hfz75_1 := blk_frozen BK677.out 1))
  refine bodyPost_ret (results_ct rfl _ _ gb677 49 #[.string (⟨#[]⟩ : ByteArray), .slice none 0 0] (0, 0) _ rfl (by (with_reducible repeat (first | refine blk_drewN ?_ _ | refine blk_drew ?_ | refine blk_alloc ?_ _)); refine blk_put (cs := #[.string (⟨#[]⟩ : ByteArray), .slice none 0 0]) ?_ 1 _ rfl; (with_reducible repeat (first | refine blk_drewN ?_ _ | refine blk_drew ?_ | refine blk_alloc ?_ _)); refine blk_put (cs := #[.string (⟨#[]⟩ : ByteArray), .slice none 0 0]) ?_ 0 _ rfl; (with_reducible repeat (first | refine blk_drewN ?_ _ | refine blk_drew ?_ | refine blk_alloc ?_ _)); exact BK677.out) Tryd.underlying49 rfl (by kernel_rfl)) rfl ?_
  exact ⟨_, by first | rfl | (simp [errW_none, errW_some] <;> rfl) | (simp [*, errW_none, errW_some] <;> rfl), by first | exact Kd.R_nil _ _ _ _ _ | exact Kd.N_nil _ _ _ _ _ | exact Kd.V_nil _ _ _ _ _ | exact Kd.Q_nil _ _ _ _ _ | exact Kd.S_nil _ _ _ _ _, bG⟩
attribute [local go_sem] max2_int min2_int max_two min_two max_three min_three max_four min_four
set_option linter.unusedVariables false
set_option linter.unusedSimpArgs false
def spec_l01Once.f (s0_0 : List Int) (s0_1 : Int) (s0_2 : Int) (a1 : Int) : Option (Bool × Int × Int) := (spec_l01Below.f s0_0 s0_1 s0_2 a1).bind fun bt641 => (some ((bt641.1 == 0), bt641.2.1, bt641.2.2))
set_option maxHeartbeats 8000000 in
set_option maxRecDepth 100000 in
theorem spec_l01Once.calls (g : Nat) (s0_0 : List Int) (s0_1 : Int) (s0_2 : Int) (a1 : Int) (r1 : Bool) (r2 : Int) (r3 : Int) (w0 w : World) (hI : IsS71 w0 w g s0_0 s0_1 s0_2) (hB : Below w0.heap.size w0 w) (h : spec_l01Once.f s0_0 s0_1 s0_2 a1 = some (r1, r2, r3)) :
  Calls Tryd.prog 72 #[.pointer (some ⟨g, 0, none⟩), .int .i64 a1] w fun e w' => e = .returned (.bool r1) ∧ IsS71 w0 w' g s0_0 r2 r3 ∧ Below w0.heap.size w0 w' ∧ KeepBut w w' g none := by
 have HI0 := Aside0.mk hI
 have HK := Aside0.mk (KeepBut.refl w g none)
 have HL := Aside0.mk hB.size
 clear hI
 have HW0 := Aside0.mk hB.size
 have HB := Aside0.mk hB
 clear hB
 have H : ((spec_l01Below.f s0_0 s0_1 s0_2 a1).bind fun bt641 => (some ((bt641.1 == 0), bt641.2.1, bt641.2.2))) = some (r1, r2, r3) := h
 clear h
 replace H := Option.bind_eq_some_iff.mp H
 obtain ⟨⟨t641, t642, t643⟩, A30, H⟩ := H
 replace H : (some ((t641 == 0), t642, t643)) = some (r1, r2, r3) := H
 have A3 := Aside0.mk A30
 clear A30
 simp only [Option.some.injEq, Prod.mk.injEq] at H
 obtain ⟨rfl, rfl, rfl⟩ := H
 go_enter Tryd.func72, Tryd.ntmps72
 go_wp2_with (first | ((with_reducible refine gate_callee (f := 43) rfl ?_); refine goesM_ (some 7) rfl rfl Tryd.func43 (by kernel_rfl) rfl #[.pointer (some ⟨g, 0, none⟩), .int .i64 a1] rfl ?_; (with_reducible refine (spec_l01Below.calls g s0_0 s0_1 s0_2 a1 t641 t642 t643 w0 _ ?side1 ?side2 A3.out).mono ?_); (case side1 => repeat (first | (with_reducible first | exact HI0.out | apply IsS71.alloc | apply IsS71.drewN | apply IsS71.drew | apply IsS71.set_1 | apply IsS71.set_2) | exact HI0.out)); (case side2 => repeat (first | (with_reducible first | exact HB.out | apply below_alloc | apply pw_below_drewN | apply below_drew1 | refine below_set ?_ (IsS71.ge HI0.out)) | exact HB.out)); rintro e w4 ⟨rfl, hi, hb, hk⟩; refine ⟨_, rfl, ?_⟩; have n0_ := Aside0.mk (KeepBut.trans (by repeat (first | (with_reducible first | exact HK.out | apply KeepBut.set_ | apply keep_drewN | apply keep_drew | apply keep_alloc) | exact HK.out)) hk (.inl rfl)); have n1_ := Aside0.mk (hb); have n2_ := Aside0.mk (hi); clear HK; clear HB; clear HI0; have HK := n0_; have HB := n1_; have HI0 := n2_; clear n0_ n1_ n2_; (try clear hb); (try clear hb2); (try clear hk); (try clear hi)))
 go_ret
 exact ⟨by first | rfl | (simp [errW_none, errW_some] <;> rfl) | (simp [*, errW_none, errW_some] <;> rfl), by repeat (first | (with_reducible first | exact HI0.out | apply IsS71.alloc | apply IsS71.drewN | apply IsS71.drew | apply IsS71.set_1 | apply IsS71.set_2) | exact HI0.out), by repeat (first | (with_reducible first | exact HB.out | apply below_alloc | apply pw_below_drewN | apply below_drew1 | refine below_set ?_ (IsS71.ge HI0.out)) | exact HB.out), by repeat (first | (with_reducible first | exact HK.out | apply KeepBut.set_ | apply keep_drewN | apply keep_drew | apply keep_alloc) | exact HK.out)⟩
attribute [local go_sem] max2_int min2_int max_two min_two max_three min_three max_four min_four
set_option linter.unusedVariables false
set_option linter.unusedSimpArgs false
def spec_l01Bytes.l0 : Nat → List Int → Int → List Int → Int → Int → Option (List Int × Int × Int)
 | 0, _, _, _, _, _ => none
 | k + 1, x5, x6, x1000, x1001, x1002 => if x6 > 0 then ((spec_l01Byte.f x1000 x1001 x1002).bind fun bt754 => (if x5.length < 140737488355328 then (spec_l01Bytes.l0 k (x5 ++ [(bt754.1) % 256]) (wrap64 (x6 - 1)) x1000 bt754.2.1 bt754.2.2) else (none))) else (some (x5, x1001, x1002))
def spec_l01Bytes.f (k : Nat) (s0_0 : List Int) (s0_1 : Int) (s0_2 : Int) (a1 : Int) : Option (List Int × Int × Int) := (spec_l01Below.f s0_0 s0_1 s0_2 (wrap64 (a1 + 1))).bind fun bt751 => (spec_l01Bytes.l0 k (([] : List Int)) bt751.1 s0_0 bt751.2.1 bt751.2.2)
set_option maxHeartbeats 8000000 in
set_option maxRecDepth 100000 in
theorem spec_l01Bytes.calls (k : Nat) (g : Nat) (s0_0 : List Int) (s0_1 : Int) (s0_2 : Int) (a1 : Int) (r1 : List Int) (r2 : Int) (r3 : Int) (w0 w : World) (hI : IsS71 w0 w g s0_0 s0_1 s0_2) (hB : Below w0.heap.size w0 w) (h : spec_l01Bytes.f k s0_0 s0_1 s0_2 a1 = some (r1, r2, r3)) :
  Calls Tryd.prog 73 #[.pointer (some ⟨g, 0, none⟩), .int .i64 a1] w fun e w' => ∃ v0_ : Value, e = .returned (v0_) ∧ Kd.R (Kd.int .u8) 5 w' w.heap.size (fun _ => True) v0_ r1 ∧ IsS71 w0 w' g s0_0 r2 r3 ∧ Below w0.heap.size w0 w' ∧ KeepBut w w' g none := by
 have HI0 := Aside0.mk hI
 have HK := Aside0.mk (KeepBut.refl w g none)
 have HL := Aside0.mk hB.size
 clear hI
 have HW0 := Aside0.mk hB.size
 have HB := Aside0.mk hB
 clear hB
 have H : ((spec_l01Below.f s0_0 s0_1 s0_2 (wrap64 (a1 + 1))).bind fun bt751 => (spec_l01Bytes.l0 k (([] : List Int)) bt751.1 s0_0 bt751.2.1 bt751.2.2)) = some (r1, r2, r3) := h
 clear h
 obtain ⟨y748, hy748⟩ : ∃ y_ : List Int, y_ = (([] : List Int)) := ⟨_, rfl⟩
 replace H : ((spec_l01Below.f s0_0 s0_1 s0_2 (wrap64 (a1 + 1))).bind fun bt751 => (spec_l01Bytes.l0 k y748 bt751.1 s0_0 bt751.2.1 bt751.2.2)) = some (r1, r2, r3) := by first | (rw [hy748]; with_reducible exact H) | (have H2_ := (Option.bind_some _ _).symm.trans H; rw [hy748]; with_reducible exact H2_) | (have H2_ := (Option.bind_some _ _).symm.trans H; with_reducible exact H2_) | with_reducible exact H | (rw [hy748]; exact H) | exact H
 have Ny748 := Aside0.mk hy748
 clear hy748
 replace H := Option.bind_eq_some_iff.mp H
 obtain ⟨⟨t751, t752, t753⟩, A30, H⟩ := H
 replace H : (spec_l01Bytes.l0 k y748 t751 s0_0 t752 t753) = some (r1, r2, r3) := H
 have A3 := Aside0.mk A30
 clear A30
 have H' := Aside0.mk H
 clear H
 go_enter Tryd.func73, Tryd.ntmps73
 go_wp2_with (first | ((with_reducible refine gate_dst (N := 7) rfl ?_); refine Kd.R_lit (Kd.int .u8) _ 5 ?hg (N := 7) ?hd (xs := ([] : List Int)) (inner := []) (ok := fun _ => True) (okp := fun _ => True) ?hr ?hp (fun _ hk => hk) trivial (Below.refl _ _) (Nat.le_refl _) (by simp) ?_; (case hd => rfl); (case hg => rfl); (case hr => first | (go_simp; done) | (go_simp; rfl)); (case hp => exact (Reps.none _ _)); intro v749 w4 ho5 hb hg_ hnew_; clear hg_ hnew_; (first | rw [← Ny748.out] at ho5 | (simp only [Int.reduceToNat] at ho5; rw [← Ny748.out] at ho5)); have n0_ := Aside0.mk (Kd.R_lower ho5 (keep_size (w := w) (g := g) (row := none) (by repeat (first | (with_reducible first | exact HK.out | apply KeepBut.set_ | apply keep_drewN | apply keep_drew | apply keep_alloc) | exact HK.out)))); have n1_ := Aside0.mk (IsS71.below (by repeat (first | (with_reducible first | exact HI0.out | apply IsS71.alloc | apply IsS71.drewN | apply IsS71.drew | apply IsS71.set_1 | apply IsS71.set_2) | exact HI0.out)) hb); have n2_ := Aside0.mk (KeepBut.trans (by repeat (first | (with_reducible first | exact HK.out | apply KeepBut.set_ | apply keep_drewN | apply keep_drew | apply keep_alloc) | exact HK.out)) (KeepBut.of_below hb g none) (.inl rfl)); have n3_ := Aside0.mk (below_step (by repeat (first | (with_reducible first | exact HB.out | apply below_alloc | apply pw_below_drewN | apply below_drew1 | refine below_set ?_ (IsS71.ge HI0.out)) | exact HB.out)) hb); clear HI0; clear HK; clear HB; have HO750 := n0_; have HI0 := n1_; have HK := n2_; have HB := n3_; clear n0_ n1_ n2_ n3_; clear hb ho5) | ((with_reducible refine gate_callee (f := 43) rfl ?_); refine goesM_ (some 11) rfl rfl Tryd.func43 (by kernel_rfl) rfl #[.pointer (some ⟨g, 0, none⟩), .int .i64 (wrap64 (a1 + 1))] rfl ?_; (with_reducible refine (spec_l01Below.calls g s0_0 s0_1 s0_2 (wrap64 (a1 + 1)) t751 t752 t753 w0 _ ?side1 ?side2 A3.out).mono ?_); (case side1 => repeat (first | (with_reducible first | exact HI0.out | apply IsS71.alloc | apply IsS71.drewN | apply IsS71.drew | apply IsS71.set_1 | apply IsS71.set_2) | exact HI0.out)); (case side2 => repeat (first | (with_reducible first | exact HB.out | apply below_alloc | apply pw_below_drewN | apply below_drew1 | refine below_set ?_ (IsS71.ge HI0.out)) | exact HB.out)); rintro e w6 ⟨rfl, hi, hb, hk⟩; refine ⟨_, rfl, ?_⟩; have n0_ := Aside0.mk (Kd.R_mono (Kd.R_keep (IsS71.apart (show IsS71 w0 _ g s0_0 s0_1 s0_2 from by repeat (first | (with_reducible first | exact HI0.out | apply IsS71.alloc | apply IsS71.drewN | apply IsS71.drew | apply IsS71.set_1 | apply IsS71.set_2) | exact HI0.out)) (rA HO750.out) (by decide)) hk (fun _ h => h.2)) (fun _ h => h.1)); have n1_ := Aside0.mk (KeepBut.trans (by repeat (first | (with_reducible first | exact HK.out | apply KeepBut.set_ | apply keep_drewN | apply keep_drew | apply keep_alloc) | exact HK.out)) hk (.inl rfl)); have n2_ := Aside0.mk (hb); have n3_ := Aside0.mk (hi); clear HO750; clear HK; clear HB; clear HI0; have HO750 := n0_; have HK := n1_; have HB := n2_; have HI0 := n3_; clear n0_ n1_ n2_ n3_; (try clear hb); (try clear hb2); (try clear hk); (try clear hi)))
 go_loopg [5, 6] k (fun kq v5 v6 w' => ∃ (x5_1 : List Int) (x6_1 : Int) (x1001_1 : Int) (x1002_1 : Int), v6 = .int .i64 x6_1 ∧ Aside0 (spec_l01Bytes.l0 kq x5_1 x6_1 s0_0 x1001_1 x1002_1 = some (r1, r2, r3)) ∧ Aside0 (kq ≤ k) ∧ Aside0 (Kd.R (Kd.int .u8) 5 w' w.heap.size (fun _ => True) v5 x5_1) ∧ Aside0 (IsS71 w0 w' g s0_0 x1001_1 x1002_1) ∧ Aside0 (KeepBut w w' g none) ∧ Aside0 (Below w0.heap.size w0 w'))
 case atStart => exact ⟨(y748), (t751), (t752), (t753), (by first | rfl | (simp; done) | (simp [*]; done) | (simp [i64_w, IntKind.wrap_u8, e256_]; done) | (simp; generalize ByteArray.toList _ = zz_; cases zz_ <;> rfl)), H', ⟨Nat.le_refl _⟩, ⟨rA HO750.out⟩, ⟨by repeat (first | (with_reducible first | exact HI0.out | apply IsS71.alloc | apply IsS71.drewN | apply IsS71.drew | apply IsS71.set_1 | apply IsS71.set_2) | exact HI0.out)⟩, ⟨by repeat (first | (with_reducible first | exact HK.out | apply KeepBut.set_ | apply keep_drewN | apply keep_drew | apply keep_alloc) | exact HK.out)⟩, ⟨by repeat (first | (with_reducible first | exact HB.out | apply below_alloc | apply pw_below_drewN | apply below_drew1 | refine below_set ?_ (IsS71.ge HI0.out)) | exact HB.out)⟩⟩
 case round =>
  clear H'
  try clear p2
  try clear c4
  try clear p6
  obtain ⟨x5_1, x6_1, x1001_1, x1002_1, rfl, HA, HK1, HO_5, HI0, HK, HB⟩ := hrel
  cases gk with
  | zero => exact absurd HA.out (by simp [spec_l01Bytes.l0])
  | succ k1 =>
   have H := HA.out
   clear HA
   simp only [spec_l01Bytes.l0] at H
   by_cases c7 : x6_1 > 0
   ·rw [if_pos c7] at H
    have c7b0 : decide (0 < x6_1) = true := decide_eq_true c7
    clear c7
    replace H := Option.bind_eq_some_iff.mp H
    obtain ⟨⟨t754, t755, t756⟩, A80, H⟩ := H
    replace H : (if x5_1.length < 140737488355328 then (spec_l01Bytes.l0 k1 (x5_1 ++ [(t754) % 256]) (wrap64 (x6_1 - 1)) s0_0 t755 t756) else (none)) = some (r1, r2, r3) := H
    have A8 := Aside0.mk A80
    clear A80
    by_cases c9 : x5_1.length < 140737488355328
    ·rw [if_pos c9] at H
     have LMc9 := Aside0.mk c9
     clear c9
     obtain ⟨y757, hy757⟩ : ∃ y_ : List Int, y_ = (x5_1 ++ [(t754) % 256]) := ⟨_, rfl⟩
     replace H : (spec_l01Bytes.l0 k1 y757 (wrap64 (x6_1 - 1)) s0_0 t755 t756) = some (r1, r2, r3) := by first | (rw [hy757]; with_reducible exact H) | (have H2_ := (Option.bind_some _ _).symm.trans H; rw [hy757]; with_reducible exact H2_) | (have H2_ := (Option.bind_some _ _).symm.trans H; with_reducible exact H2_) | with_reducible exact H | (rw [hy757]; exact H) | exact H
     have Ny757 := Aside0.mk hy757
     clear hy757
     have H' := Aside0.mk H
     clear H
     go_wp2_with (first | ((with_reducible refine gate_callee (f := 76) rfl ?_); refine goesM_ (some 18) rfl rfl Tryd.func76 (by kernel_rfl) rfl #[.pointer (some ⟨g, 0, none⟩)] rfl ?_; (with_reducible refine (spec_l01Byte.calls g s0_0 x1001_1 x1002_1 t754 t755 t756 w0 _ ?side1 ?side2 A8.out).mono ?_); (case side1 => repeat (first | (with_reducible first | exact HI0.out | apply IsS71.alloc | apply IsS71.drewN | apply IsS71.drew | apply IsS71.set_1 | apply IsS71.set_2) | exact HI0.out)); (case side2 => repeat (first | (with_reducible first | exact HB.out | apply below_alloc | apply pw_below_drewN | apply below_drew1 | refine below_set ?_ (IsS71.ge HI0.out)) | exact HB.out)); rintro e w10 ⟨rfl, hi, hb, hk⟩; refine ⟨_, rfl, ?_⟩; have n0_ := Aside0.mk (Kd.R_mono (Kd.R_keep (IsS71.apart (show IsS71 w0 _ g s0_0 x1001_1 x1002_1 from by repeat (first | (with_reducible first | exact HI0.out | apply IsS71.alloc | apply IsS71.drewN | apply IsS71.drew | apply IsS71.set_1 | apply IsS71.set_2) | exact HI0.out)) (rA HO_5.out) (by decide)) hk (fun _ h => h.2)) (fun _ h => h.1)); have n1_ := Aside0.mk (KeepBut.trans (by repeat (first | (with_reducible first | exact HK.out | apply KeepBut.set_ | apply keep_drewN | apply keep_drew | apply keep_alloc) | exact HK.out)) hk (.inl rfl)); have n2_ := Aside0.mk (hb); have n3_ := Aside0.mk (hi); clear HO_5; clear HK; clear HB; clear HI0; have HO_5 := n0_; have HK := n1_; have HB := n2_; have HI0 := n3_; clear n0_ n1_ n2_ n3_; (try clear hb); (try clear hb2); (try clear hk); (try clear hi)) | ((with_reducible refine gate_builtin (b := .append) (xs := #[.tmp 16, .tmp 20]) rfl ?_); at_builtin; refine Kd.R_append (Kd.int .u8) w.heap.size rfl (.tmp 16) (.tmp 20) 22 5 (.int .u8 0) 1 rfl Tryd.underlying22 info5 rfl (by decide) (by omega) u5 x5_1 ((t754) % 256) [.int .u8 ((t754) % 256)] (fun _ => True) (fun _ => False) rfl rfl ?aP (fun _ hk => hk.elim) ?aF ?aO (Below.refl _ _) ?aS ?aL ?_; (case aP => exact rfl); (case aF => exact (fun _ _ => trivial)); (case aO => exact (rA HO_5.out)); (case aS => exact (keep_size (w := w) (g := g) (row := none) (by repeat (first | (with_reducible first | exact HK.out | apply KeepBut.set_ | apply keep_drewN | apply keep_drew | apply keep_alloc) | exact HK.out)))); (case aL => have := LMc9.out; omega); intro v758 w11 ho hb hg hat; rw [← Ny757.out] at ho; have n0_ := Aside0.mk (IsS71.grown (by repeat (first | (with_reducible first | exact HI0.out | apply IsS71.alloc | apply IsS71.drewN | apply IsS71.drew | apply IsS71.set_1 | apply IsS71.set_2) | exact HI0.out)) hg (IsS71.own_ne HI0.out HO_5.out (by decide))); have n1_ := Aside0.mk (below_weaken (by repeat (first | (with_reducible first | exact HB.out | apply below_alloc | apply pw_below_drewN | apply below_drew1 | refine below_set ?_ (IsS71.ge HI0.out)) | exact HB.out)) HL.out hb); have n2_ := Aside0.mk (KeepBut.trans (by repeat (first | (with_reducible first | exact HK.out | apply KeepBut.set_ | apply keep_drewN | apply keep_drew | apply keep_alloc) | exact HK.out)) (KeepBut.of_grown hg g) (Kd.R_base2 HO_5.out)); have n3_ := Aside0.mk (ho); clear HI0; clear HB; clear HK; clear HO_5; have HI0 := n0_; have HB := n1_; have HK := n2_; have HO759 := n3_; clear n0_ n1_ n2_ n3_; clear ho hb hg hat))
     go_roundg k1
     case measure => have := HK1.out; omega
     case rel => exact ⟨(y757), (wrap64 (x6_1 - 1)), (t755), (t756), (by first | rfl | (simp; done) | (simp [*]; done) | (simp [i64_w, IntKind.wrap_u8, e256_]; done) | (simp; generalize ByteArray.toList _ = zz_; cases zz_ <;> rfl)), H', ⟨by have := HK1.out; omega⟩, ⟨rA HO759.out⟩, ⟨by repeat (first | (with_reducible first | exact HI0.out | apply IsS71.alloc | apply IsS71.drewN | apply IsS71.drew | apply IsS71.set_1 | apply IsS71.set_2) | exact HI0.out)⟩, ⟨by repeat (first | (with_reducible first | exact HK.out | apply KeepBut.set_ | apply keep_drewN | apply keep_drew | apply keep_alloc) | exact HK.out)⟩, ⟨by repeat (first | (with_reducible first | exact HB.out | apply below_alloc | apply pw_below_drewN | apply below_drew1 | refine below_set ?_ (IsS71.ge HI0.out)) | exact HB.out)⟩⟩
    ·rw [if_neg c9] at H
     exact absurd H (by simp)
   ·rw [if_neg c7] at H
    have c7b0 : decide (0 < x6_1) = false := decide_eq_false c7
    clear c7
    simp only [Option.some.injEq, Prod.mk.injEq] at H
    obtain ⟨rfl, rfl, rfl⟩ := H
    go_wp2
    go_ret
    exact ⟨_, by first | rfl | (simp [errW_none, errW_some] <;> rfl) | (simp [*, errW_none, errW_some] <;> rfl), rA HO_5.out, by repeat (first | (with_reducible first | exact HI0.out | apply IsS71.alloc | apply IsS71.drewN | apply IsS71.drew | apply IsS71.set_1 | apply IsS71.set_2) | exact HI0.out), by repeat (first | (with_reducible first | exact HB.out | apply below_alloc | apply pw_below_drewN | apply below_drew1 | refine below_set ?_ (IsS71.ge HI0.out)) | exact HB.out), by repeat (first | (with_reducible first | exact HK.out | apply KeepBut.set_ | apply keep_drewN | apply keep_drew | apply keep_alloc) | exact HK.out)⟩
attribute [local go_sem] max2_int min2_int max_two min_two max_three min_three max_four min_four
set_option linter.unusedVariables false
set_option linter.unusedSimpArgs false
mutual
def spec_MsgOk.j0 : Nat → Bool → ByteArray → List (S79) → Option (Bool)
 | 0, _, _, _ => none
 | k + 1, x14, x337000, x337001 => if x14 = true then (some false) else (spec_MsgOk.l0 k x337001 (x337001.length : Int) 0 x337000 x337001)
def spec_MsgOk.l0 : Nat → List (S79) → Int → Int → ByteArray → List (S79) → Option (Bool)
 | 0, _, _, _, _, _ => none
 | k + 1, x16, x17, x18, x337000, x337001 => if x18 < x17 then (if 0 ≤ x18 then (if x18 < (x16.length : Int) then ((spec_FieldOk.f k ((rd_T79 x16 x18).f0) ((rd_T79 x16 x18).f1)).bind fun t340 => (if t340 = true then (if x18 > 0 then (if 0 ≤ (wrap64 (x18 - 1)) then (if (wrap64 (x18 - 1)) < (x337001.length : Int) then (if ((rd_T79 x337001 (wrap64 (x18 - 1))).f0) ≥ ((rd_T79 x16 x18).f0) then (some false) else (spec_MsgOk.l0 k x16 x17 (wrap64 (x18 + 1)) x337000 x337001)) else (none)) else (none)) else (spec_MsgOk.l0 k x16 x17 (wrap64 (x18 + 1)) x337000 x337001)) else (some false))) else (none)) else (none)) else (some true)
end
def spec_MsgOk.f (k : Nat) (a0_0 : ByteArray) (l0_1 : List (S79)) : Option (Bool) := (spec_Digits.f k a0_0).bind fun t337 => (if t337 = true then (spec_MsgOk.j0 k ((a0_0.size : Int) != 4) a0_0 l0_1) else (spec_MsgOk.j0 k true a0_0 l0_1))
set_option maxHeartbeats 8000000 in
set_option maxRecDepth 100000 in
theorem spec_MsgOk.calls (k : Nat) (a0_0 : ByteArray) (A0_1 : Option Addr) (c0_1 : Nat) (l0_1 : List (S79)) (r : Bool) (w : World) (hr0_1 : Kd.C k79 w A0_1 l0_1.length l0_1) (hc0_1 : l0_1.length ≤ c0_1) (h : spec_MsgOk.f k a0_0 l0_1 = some r) :
  Calls Tryd.prog 58 #[.agg #[.string a0_0, .slice A0_1 l0_1.length c0_1]] w fun e w' => e = .returned (.bool r) ∧ Below w.heap.size w w' := by
 have hu49 := Tryd.underlying49
 have hu79 := Tryd.underlying79
 have HR0_1 := Aside0.mk hr0_1
 have HC0_1 := Aside0.mk hc0_1
 clear hr0_1 hc0_1
 have HB := Aside0.mk (Below.refl w.heap.size w)
 have H : ((spec_Digits.f k a0_0).bind fun t337 => (if t337 = true then (spec_MsgOk.j0 k ((a0_0.size : Int) != 4) a0_0 l0_1) else (spec_MsgOk.j0 k true a0_0 l0_1))) = some r := h
 clear h
 have HC2 := Aside0.mk H
 clear H
 go_enter Tryd.func58, Tryd.ntmps58
 go_upto_region 1 with (first | ((with_reducible refine gate_dst (N := 1) rfl ?_); (try (refine gate_guard (by rfl) ?_; dsimp only)); refine box_event ?hg (N := 1) ?hd (cs := #[.string a0_0, .slice A0_1 l0_1.length c0_1]) (t := 49) ?hr ?_; (case hd => rfl); (case hg => rfl); (case hr => first | (go_simp; done) | (go_simp; rfl)); intro gb336 hg w3 hbox hb; have n0_ := Aside0.mk (below_step bB hb); have n1_ := Aside0.mk (hbox); have n2_ := Aside0.mk ((by rw [hg]; exact (below_size bB) : w.heap.size ≤ gb336)); have n3_ := Aside0.mk ((by rw [hg]; exact (below_size bB) : w.heap.size ≤ gb336)); clear HB; have HB := n0_; have BK336 := n1_; have GW336 := n2_; have GE336 := n3_; clear n0_ n1_ n2_ n3_; clear hb hbox hg))
 repeat (go_quiet (first | ((with_reducible refine gate_dst (N := 1) rfl ?_); (try (refine gate_guard (by rfl) ?_; dsimp only)); refine box_event ?hg (N := 1) ?hd (cs := #[.string a0_0, .slice A0_1 l0_1.length c0_1]) (t := 49) ?hr ?_; (case hd => rfl); (case hg => rfl); (case hr => first | (go_simp; done) | (go_simp; rfl)); intro gb336 hg w3 hbox hb; have n0_ := Aside0.mk (below_step bB hb); have n1_ := Aside0.mk (hbox); have n2_ := Aside0.mk ((by rw [hg]; exact (below_size bB) : w.heap.size ≤ gb336)); have n3_ := Aside0.mk ((by rw [hg]; exact (below_size bB) : w.heap.size ≤ gb336)); clear HB; have HB := n0_; have BK336 := n1_; have GW336 := n2_; have GE336 := n3_; clear n0_ n1_ n2_ n3_; clear hb hbox hg)); go_upto_region 1 with (first | ((with_reducible refine gate_dst (N := 1) rfl ?_); (try (refine gate_guard (by rfl) ?_; dsimp only)); refine box_event ?hg (N := 1) ?hd (cs := #[.string a0_0, .slice A0_1 l0_1.length c0_1]) (t := 49) ?hr ?_; (case hd => rfl); (case hg => rfl); (case hr => first | (go_simp; done) | (go_simp; rfl)); intro gb336 hg w3 hbox hb; have n0_ := Aside0.mk (below_step bB hb); have n1_ := Aside0.mk (hbox); have n2_ := Aside0.mk ((by rw [hg]; exact (below_size bB) : w.heap.size ≤ gb336)); have n3_ := Aside0.mk ((by rw [hg]; exact (below_size bB) : w.heap.size ≤ gb336)); clear HB; have HB := n0_; have BK336 := n1_; have GW336 := n2_; have GE336 := n3_; clear n0_ n1_ n2_ n3_; clear hb hbox hg)))
 (try simp only [Act.put, List.setIfInBounds_toArray, List.set_cons_zero, List.set_cons_succ])
 go_cut [14] (fun v14 wc => ∃ (kq : Nat) (x14_1 : Bool), v14 = .bool x14_1 ∧ Aside0 (spec_MsgOk.j0 kq x14_1 a0_0 l0_1 = some r) ∧ Aside0 (kq ≤ k) ∧ Aside0 (wc.heap[gb336]? = some (.cells #[.string a0_0, (.slice A0_1 l0_1.length c0_1)] 49 (0, 0))) ∧ Aside0 (Below w.heap.size w wc))
 case first =>
  have H := HC2.out
  clear HC2
  replace H := Option.bind_eq_some_iff.mp H
  obtain ⟨t337, A40, H⟩ := H
  replace H : (if t337 = true then (spec_MsgOk.j0 k ((a0_0.size : Int) != 4) a0_0 l0_1) else (spec_MsgOk.j0 k true a0_0 l0_1)) = some r := H
  have A4 := Aside0.mk A40
  clear A40
  by_cases c5 : t337 = true
  ·subst c5
   have H1 : (spec_MsgOk.j0 k ((a0_0.size : Int) != 4) a0_0 l0_1) = some r := by rw [if_pos rfl] at H; exact H
   clear H
   have H := H1
   clear H1
   have H' := Aside0.mk H
   clear H
   have hcz6_0 : w3.cell? ⟨gb336, 0, none⟩ = some (.string a0_0) := (blk_cell BK336.out 0).trans rfl
   have hcz6_1 : w3.cell? ⟨gb336, 1, none⟩ = some (.slice A0_1 l0_1.length c0_1) := (blk_cell BK336.out 1).trans rfl
   have hfz6_0 := blk_frozen BK336.out 0
   have hfz6_1 := blk_frozen BK336.out 1
   go_wp2_with (first | (go_at_call 81; (with_reducible refine (spec_Digits.calls k a0_0 true _ A4.out).mono ?_); rintro e w' ⟨rfl, ⟨nd, rfl⟩⟩; (try first | exact ⟨rfl, _, World.drewN_drewN _ _ _⟩ | exact ⟨rfl, _, Eq.trans (World.drewN_drewN _ _ _) (congrArg (World.drewN _) (Nat.add_assoc _ _ _))⟩)))
   repeat (go_quiet (first | (go_at_call 81; (with_reducible refine (spec_Digits.calls k a0_0 true _ A4.out).mono ?_); rintro e w' ⟨rfl, ⟨nd, rfl⟩⟩; (try first | exact ⟨rfl, _, World.drewN_drewN _ _ _⟩ | exact ⟨rfl, _, Eq.trans (World.drewN_drewN _ _ _) (congrArg (World.drewN _) (Nat.add_assoc _ _ _))⟩))); try go_wp2_with (first | (go_at_call 81; (with_reducible refine (spec_Digits.calls k a0_0 true _ A4.out).mono ?_); rintro e w' ⟨rfl, ⟨nd, rfl⟩⟩; (try first | exact ⟨rfl, _, World.drewN_drewN _ _ _⟩ | exact ⟨rfl, _, Eq.trans (World.drewN_drewN _ _ _) (congrArg (World.drewN _) (Nat.add_assoc _ _ _))⟩))))
   go_meet
   case rel => exact ⟨_, (((a0_0.size : Int) != 4)), (by first | rfl | (simp; done) | (simp [*]; done) | (simp [i64_w, IntKind.wrap_u8, e256_]; done) | (simp; generalize ByteArray.toList _ = zz_; cases zz_ <;> rfl)), H', ⟨by first | omega | exact Nat.le_refl _⟩, ⟨kA BK336.out⟩, ⟨bG⟩⟩
  ·replace c5 := Bool.eq_false_iff.mpr c5
   subst c5
   have H1 : (spec_MsgOk.j0 k true a0_0 l0_1) = some r := by rw [if_neg (show ¬ (false = true) by decide)] at H; exact H
   clear H
   have H := H1
   clear H1
   have H' := Aside0.mk H
   clear H
   have hcz7_0 : w3.cell? ⟨gb336, 0, none⟩ = some (.string a0_0) := (blk_cell BK336.out 0).trans rfl
   have hcz7_1 : w3.cell? ⟨gb336, 1, none⟩ = some (.slice A0_1 l0_1.length c0_1) := (blk_cell BK336.out 1).trans rfl
   have hfz7_0 := blk_frozen BK336.out 0
   have hfz7_1 := blk_frozen BK336.out 1
   go_wp2_with (first | (go_at_call 81; (with_reducible refine (spec_Digits.calls k a0_0 false _ A4.out).mono ?_); rintro e w' ⟨rfl, ⟨nd, rfl⟩⟩; (try first | exact ⟨rfl, _, World.drewN_drewN _ _ _⟩ | exact ⟨rfl, _, Eq.trans (World.drewN_drewN _ _ _) (congrArg (World.drewN _) (Nat.add_assoc _ _ _))⟩)))
   repeat (go_quiet (first | (go_at_call 81; (with_reducible refine (spec_Digits.calls k a0_0 false _ A4.out).mono ?_); rintro e w' ⟨rfl, ⟨nd, rfl⟩⟩; (try first | exact ⟨rfl, _, World.drewN_drewN _ _ _⟩ | exact ⟨rfl, _, Eq.trans (World.drewN_drewN _ _ _) (congrArg (World.drewN _) (Nat.add_assoc _ _ _))⟩))); try go_wp2_with (first | (go_at_call 81; (with_reducible refine (spec_Digits.calls k a0_0 false _ A4.out).mono ?_); rintro e w' ⟨rfl, ⟨nd, rfl⟩⟩; (try first | exact ⟨rfl, _, World.drewN_drewN _ _ _⟩ | exact ⟨rfl, _, Eq.trans (World.drewN_drewN _ _ _) (congrArg (World.drewN _) (Nat.add_assoc _ _ _))⟩))))
   go_meet
   case rel => exact ⟨_, (true), (by first | rfl | (simp; done) | (simp [*]; done) | (simp [i64_w, IntKind.wrap_u8, e256_]; done) | (simp; generalize ByteArray.toList _ = zz_; cases zz_ <;> rfl)), H', ⟨by first | omega | exact Nat.le_refl _⟩, ⟨kA BK336.out⟩, ⟨bG⟩⟩
 case rest =>
  clear HC2
  try clear p2
  try clear c5
  try clear p6
  try clear hcz6_0
  try clear hcz6_1
  try clear hcz7_0
  try clear hcz7_1
  try clear hfz6_0
  try clear hfz6_1
  try clear hfz7_0
  try clear hfz7_1
  obtain ⟨kq, x14_1, rfl, HA, HJ1, BK336, HB⟩ := hcut
  cases kq with
  | zero => exact absurd HA.out (by simp [spec_MsgOk.j0])
  | succ kj1 =>
   have H := HA.out
   clear HA
   simp only [spec_MsgOk.j0] at H
   by_cases c8 : x14_1 = true
   ·subst c8
    have H1 : (some false) = some r := by rw [if_pos rfl] at H; exact H
    clear H
    have H := H1
    clear H1
    obtain rfl := Option.some.inj H
    go_wp2
    repeat (go_quiet (fail); try go_wp2)
    go_ret
    exact ⟨by first | rfl | (simp [errW_none, errW_some] <;> rfl) | (simp [*, errW_none, errW_some] <;> rfl), bG⟩
   ·replace c8 := Bool.eq_false_iff.mpr c8
    subst c8
    have H1 : (spec_MsgOk.l0 kj1 l0_1 (l0_1.length : Int) 0 a0_0 l0_1) = some r := by rw [if_neg (show ¬ (false = true) by decide)] at H; exact H
    clear H
    have H := H1
    clear H1
    have H' := Aside0.mk H
    clear H
    have hcz9_0 : wc.cell? ⟨gb336, 0, none⟩ = some (.string a0_0) := (blk_cell BK336.out 0).trans rfl
    have hcz9_1 : wc.cell? ⟨gb336, 1, none⟩ = some (.slice A0_1 l0_1.length c0_1) := (blk_cell BK336.out 1).trans rfl
    have hfz9_0 := blk_frozen BK336.out 0
    have hfz9_1 := blk_frozen BK336.out 1
    go_wp2
    repeat (go_quiet (fail); try go_wp2)
    go_loopg [18] kj1 (fun kq v18 w' => ∃ (x18_2 : Int), v18 = .int .i64 x18_2 ∧ Aside0 (spec_MsgOk.l0 kq l0_1 (l0_1.length : Int) x18_2 a0_0 l0_1 = some r) ∧ Aside0 (kq ≤ kj1) ∧ Aside0 (w'.heap[gb336]? = some (.cells #[.string a0_0, (.slice A0_1 l0_1.length c0_1)] 49 (0, 0))) ∧ Aside0 (Below w.heap.size w w'))
    case atStart => exact ⟨(0), (by first | rfl | (simp; done) | (simp [*]; done) | (simp [i64_w, IntKind.wrap_u8, e256_]; done) | (simp; generalize ByteArray.toList _ = zz_; cases zz_ <;> rfl)), H', ⟨Nat.le_refl _⟩, ⟨kA BK336.out⟩, ⟨bG⟩⟩
    case round =>
     clear H'
     try clear p2
     try clear c5
     try clear p6
     try clear c8
     try clear hcz6_0
     try clear hcz6_1
     try clear hcz7_0
     try clear hcz7_1
     try clear hcz9_0
     try clear hcz9_1
     try clear hfz6_0
     try clear hfz6_1
     try clear hfz7_0
     try clear hfz7_1
     try clear hfz9_0
     try clear hfz9_1
     try clear p2
     try clear p6
     obtain ⟨x18_2, rfl, HA, HK2, BK336, HB⟩ := hrel
     cases gk with
     | zero => exact absurd HA.out (by simp [spec_MsgOk.l0])
     | succ k2 =>
      have H := HA.out
      clear HA
      simp only [spec_MsgOk.l0] at H
      by_cases c10 : x18_2 < (l0_1.length : Int)
      ·rw [if_pos c10] at H
       have c10b0 : decide (x18_2 < (l0_1.length : Int)) = true := decide_eq_true c10
       clear c10
       by_cases c11 : 0 ≤ x18_2
       ·rw [if_pos c11] at H
        have c11b0 : decide (0 ≤ x18_2) = true := decide_eq_true c11
        clear c11
        by_cases c12 : x18_2 < (l0_1.length : Int)
        ·rw [if_pos c12] at H
         have c12b0 : decide (x18_2 < (l0_1.length : Int)) = true := decide_eq_true c12
         clear c12
         replace H := Option.bind_eq_some_iff.mp H
         obtain ⟨t340, A130, H⟩ := H
         replace H : (if t340 = true then (if x18_2 > 0 then (if 0 ≤ (wrap64 (x18_2 - 1)) then (if (wrap64 (x18_2 - 1)) < (l0_1.length : Int) then (if ((rd_T79 l0_1 (wrap64 (x18_2 - 1))).f0) ≥ ((rd_T79 l0_1 x18_2).f0) then (some false) else (spec_MsgOk.l0 k2 l0_1 (l0_1.length : Int) (wrap64 (x18_2 + 1)) a0_0 l0_1)) else (none)) else (none)) else (spec_MsgOk.l0 k2 l0_1 (l0_1.length : Int) (wrap64 (x18_2 + 1)) a0_0 l0_1)) else (some false)) = some r := H
         have A13 := Aside0.mk A130
         clear A130
         by_cases c14 : t340 = true
         ·subst c14
          have H1 : (if x18_2 > 0 then (if 0 ≤ (wrap64 (x18_2 - 1)) then (if (wrap64 (x18_2 - 1)) < (l0_1.length : Int) then (if ((rd_T79 l0_1 (wrap64 (x18_2 - 1))).f0) ≥ ((rd_T79 l0_1 x18_2).f0) then (some false) else (spec_MsgOk.l0 k2 l0_1 (l0_1.length : Int) (wrap64 (x18_2 + 1)) a0_0 l0_1)) else (none)) else (none)) else (spec_MsgOk.l0 k2 l0_1 (l0_1.length : Int) (wrap64 (x18_2 + 1)) a0_0 l0_1)) = some r := by rw [if_pos rfl] at H; exact H
          clear H
          have H := H1
          clear H1
          by_cases c15 : x18_2 > 0
          ·rw [if_pos c15] at H
           have c15b0 : decide (0 < x18_2) = true := decide_eq_true c15
           clear c15
           obtain ⟨ji16, hji16⟩ : ∃ j_ : Int, (wrap64 (x18_2 - 1)) = j_ := ⟨_, rfl⟩
           replace H : (if 0 ≤ (ji16) then (if (ji16) < (l0_1.length : Int) then (if ((rd_T79 l0_1 (ji16)).f0) ≥ ((rd_T79 l0_1 x18_2).f0) then (some false) else (spec_MsgOk.l0 k2 l0_1 (l0_1.length : Int) (wrap64 (x18_2 + 1)) a0_0 l0_1)) else (none)) else (none)) = some r := by first | (rw [hji16] at H; exact H) | (simp only [hji16] at H ⊢; exact H)
           (try rw [hji16] at A13)
           have hji16w : (IntKind.i64.wrap (x18_2 - 1)) = ji16 := (i64_w _).trans hji16
           by_cases c17 : 0 ≤ (ji16)
           ·rw [if_pos c17] at H
            have c17b0 : decide (0 ≤ (ji16)) = true := decide_eq_true c17
            clear c17
            by_cases c18 : (ji16) < (l0_1.length : Int)
            ·rw [if_pos c18] at H
             have c18b0 : decide ((ji16) < (l0_1.length : Int)) = true := decide_eq_true c18
             clear c18
             by_cases c19 : ((rd_T79 l0_1 (ji16)).f0) ≥ ((rd_T79 l0_1 x18_2).f0)
             ·rw [if_pos c19] at H
              have c19b0 : decide (((rd_T79 l0_1 x18_2).f0) ≤ ((rd_T79 l0_1 (ji16)).f0)) = true := decide_eq_true c19
              clear c19
              obtain rfl := Option.some.inj H
              have p338 : 0 ≤ (x18_2 : Int) := of_decide_eq_true (by first | (with_reducible assumption) | assumption)
              have q338 : x18_2 < (l0_1.length : Int) := of_decide_eq_true (by first | (with_reducible assumption) | assumption)
              obtain ⟨ad338, e338, hx338_0, hx338_1⟩ := at_T79 HR0_1.out x18_2 p338 q338
              cases e338
              replace hx338_0 := (HB.out.cell (World.block_lt_of_cell? w _ hx338_0)).trans hx338_0
              replace hx338_1 := (HB.out.cell (World.block_lt_of_cell? w _ hx338_1)).trans hx338_1
              replace p338 := eq_true p338
              replace q338 := eq_true q338
              go_wp2_with (first | ((with_reducible refine gate_dst (N := 4) rfl ?_); (try (refine gate_guard (by rfl) ?_; dsimp only)); refine box_event ?hg (N := 4) ?hd (cs := #[.int .i64 0, .string (⟨#[]⟩ : ByteArray)]) (t := 79) ?hr ?_; (case hd => rfl); (case hg => rfl); (case hr => first | (go_simp; done) | (go_simp; rfl)); intro gb339 hg w20 hbox hb; have n0_ := Aside0.mk (blk_below (g := gb336) (o := .cells #[.string a0_0, .slice (some ad338) l0_1.length c0_1] 49 (0, 0)) (kA BK336.out) hb); have n1_ := Aside0.mk (below_step bG hb); have n2_ := Aside0.mk (hbox); have n3_ := Aside0.mk ((by rw [hg]; exact (below_size bG) : w.heap.size ≤ gb339)); have n4_ := Aside0.mk ((by rw [hg]; exact (below_size bG) : w.heap.size ≤ gb339)); have n5_ := Aside0.mk ((by rw [hg]; exact Nat.ne_of_lt (blk_lt (g := gb336) (o := .cells #[.string a0_0, .slice (some ad338) l0_1.length c0_1] 49 (0, 0)) (kA BK336.out)) : gb336 ≠ gb339)); have n6_ := Aside0.mk ((by rw [hg]; exact Nat.ne_of_gt (blk_lt (g := gb336) (o := .cells #[.string a0_0, .slice (some ad338) l0_1.length c0_1] 49 (0, 0)) (kA BK336.out)) : gb339 ≠ gb336)); clear BK336; clear HB; have BK336 := n0_; have HB := n1_; have BK339 := n2_; have GW339 := n3_; have GE339 := n4_; have NB336_339 := n5_; have NB339_336 := n6_; clear n0_ n1_ n2_ n3_ n4_ n5_ n6_; clear hb hbox hg; have hnb21 := NB339_336.out; have hnc21 := NB336_339.out; have hcz22_0 : w20.cell? ⟨gb339, 0, none⟩ = some (.int .i64 0) := (blk_cell BK339.out 0).trans rfl; have hcz22_1 : w20.cell? ⟨gb339, 1, none⟩ = some (.string (⟨#[]⟩ : ByteArray)) := (blk_cell BK339.out 1).trans rfl; have hfz22_0 := blk_frozen BK339.out 0; have hfz22_1 := blk_frozen BK339.out 1) | (go_at_call 50; (with_reducible refine (spec_FieldOk.calls k2 ((rd_T79 l0_1 x18_2).f0) ((rd_T79 l0_1 x18_2).f1) true _ A13.out).mono ?_); rintro e w' ⟨rfl, ⟨nd, rfl⟩⟩; (try first | exact ⟨rfl, _, World.drewN_drewN _ _ _⟩ | exact ⟨rfl, _, Eq.trans (World.drewN_drewN _ _ _) (congrArg (World.drewN _) (Nat.add_assoc _ _ _))⟩); have hcz23_0 : w20.cell? ⟨gb336, 0, none⟩ = some (.string a0_0) := (blk_cell BK336.out 0).trans rfl; have hcz23_1 : w20.cell? ⟨gb336, 1, none⟩ = some (.slice (some ad338) l0_1.length c0_1) := (blk_cell BK336.out 1).trans rfl; have hfz23_0 := blk_frozen BK336.out 0; have hfz23_1 := blk_frozen BK336.out 1; have p341 : 0 ≤ ((ji16) : Int) := of_decide_eq_true (by first | (with_reducible assumption) | assumption); have q341 : (ji16) < (l0_1.length : Int) := of_decide_eq_true (by first | (with_reducible assumption) | assumption); obtain ⟨ad341, e341, hx341_0, hx341_1⟩ := at_T79 HR0_1.out (ji16) p341 q341; obtain rfl : ad338 = ad341 := (by injection e341); have hn341_0 : ad338.block ≠ gb339 := Nat.ne_of_lt (Nat.lt_of_lt_of_le (by have := World.block_lt_of_cell? _ _ hx341_0; first | rwa [add_block] at this | exact this) GW339.out); have hn341_1 : ad338.block ≠ gb339 := Nat.ne_of_lt (Nat.lt_of_lt_of_le (by have := World.block_lt_of_cell? _ _ hx341_0; first | rwa [add_block] at this | exact this) GW339.out); replace hx341_0 := (HB.out.cell (World.block_lt_of_cell? w _ hx341_0)).trans hx341_0; replace hx341_1 := (HB.out.cell (World.block_lt_of_cell? w _ hx341_1)).trans hx341_1; replace hx341_0 := (cell_far (p := ⟨gb339, 0, none⟩) (by first | (rw [add_block]; exact hn341_0) | (show (Addr.add _ _).block ≠ _; rw [add_block]; exact hn341_0) | exact hn341_0) (.int .i64 ((rd_T79 l0_1 x18_2).f0))).trans hx341_0; replace hx341_1 := (cell_far (p := ⟨gb339, 0, none⟩) (by first | (rw [add_block]; exact hn341_0) | (show (Addr.add _ _).block ≠ _; rw [add_block]; exact hn341_0) | exact hn341_0) (.int .i64 ((rd_T79 l0_1 x18_2).f0))).trans hx341_1; replace hx341_0 := (cell_far (p := ⟨gb339, 1, none⟩) (by first | (rw [add_block]; exact hn341_1) | (show (Addr.add _ _).block ≠ _; rw [add_block]; exact hn341_1) | exact hn341_1) (.string ((rd_T79 l0_1 x18_2).f1))).trans hx341_0; replace hx341_1 := (cell_far (p := ⟨gb339, 1, none⟩) (by first | (rw [add_block]; exact hn341_1) | (show (Addr.add _ _).block ≠ _; rw [add_block]; exact hn341_1) | exact hn341_1) (.string ((rd_T79 l0_1 x18_2).f1))).trans hx341_1; (try have hy341_0 := fun (n_ : Nat) => (show ((((w20.drewN n_).setCell ⟨gb339, 0, none⟩ (.int .i64 ((rd_T79 l0_1 x18_2).f0))).setCell ⟨gb339, 1, none⟩ (.string ((rd_T79 l0_1 x18_2).f1)))).cell? _ = some _ from hx341_0)); (try have hy341_1 := fun (n_ : Nat) => (show ((((w20.drewN n_).setCell ⟨gb339, 0, none⟩ (.int .i64 ((rd_T79 l0_1 x18_2).f0))).setCell ⟨gb339, 1, none⟩ (.string ((rd_T79 l0_1 x18_2).f1)))).cell? _ = some _ from hx341_1)); clear hn341_0; clear hn341_1; replace p341 := eq_true p341; replace q341 := eq_true q341))
              repeat (go_quiet (first | ((with_reducible refine gate_dst (N := 4) rfl ?_); (try (refine gate_guard (by rfl) ?_; dsimp only)); refine box_event ?hg (N := 4) ?hd (cs := #[.int .i64 0, .string (⟨#[]⟩ : ByteArray)]) (t := 79) ?hr ?_; (case hd => rfl); (case hg => rfl); (case hr => first | (go_simp; done) | (go_simp; rfl)); intro gb339 hg w20 hbox hb; have n0_ := Aside0.mk (blk_below (g := gb336) (o := .cells #[.string a0_0, .slice (some ad338) l0_1.length c0_1] 49 (0, 0)) (kA BK336.out) hb); have n1_ := Aside0.mk (below_step bG hb); have n2_ := Aside0.mk (hbox); have n3_ := Aside0.mk ((by rw [hg]; exact (below_size bG) : w.heap.size ≤ gb339)); have n4_ := Aside0.mk ((by rw [hg]; exact (below_size bG) : w.heap.size ≤ gb339)); have n5_ := Aside0.mk ((by rw [hg]; exact Nat.ne_of_lt (blk_lt (g := gb336) (o := .cells #[.string a0_0, .slice (some ad338) l0_1.length c0_1] 49 (0, 0)) (kA BK336.out)) : gb336 ≠ gb339)); have n6_ := Aside0.mk ((by rw [hg]; exact Nat.ne_of_gt (blk_lt (g := gb336) (o := .cells #[.string a0_0, .slice (some ad338) l0_1.length c0_1] 49 (0, 0)) (kA BK336.out)) : gb339 ≠ gb336)); clear BK336; clear HB; have BK336 := n0_; have HB := n1_; have BK339 := n2_; have GW339 := n3_; have GE339 := n4_; have NB336_339 := n5_; have NB339_336 := n6_; clear n0_ n1_ n2_ n3_ n4_ n5_ n6_; clear hb hbox hg; have hnb21 := NB339_336.out; have hnc21 := NB336_339.out; have hcz22_0 : w20.cell? ⟨gb339, 0, none⟩ = some (.int .i64 0) := (blk_cell BK339.out 0).trans rfl; have hcz22_1 : w20.cell? ⟨gb339, 1, none⟩ = some (.string (⟨#[]⟩ : ByteArray)) := (blk_cell BK339.out 1).trans rfl; have hfz22_0 := blk_frozen BK339.out 0; have hfz22_1 := blk_frozen BK339.out 1) | (go_at_call 50; (with_reducible refine (spec_FieldOk.calls k2 ((rd_T79 l0_1 x18_2).f0) ((rd_T79 l0_1 x18_2).f1) true _ A13.out).mono ?_); rintro e w' ⟨rfl, ⟨nd, rfl⟩⟩; (try first | exact ⟨rfl, _, World.drewN_drewN _ _ _⟩ | exact ⟨rfl, _, Eq.trans (World.drewN_drewN _ _ _) (congrArg (World.drewN _) (Nat.add_assoc _ _ _))⟩); have hcz23_0 : w20.cell? ⟨gb336, 0, none⟩ = some (.string a0_0) := (blk_cell BK336.out 0).trans rfl; have hcz23_1 : w20.cell? ⟨gb336, 1, none⟩ = some (.slice (some ad338) l0_1.length c0_1) := (blk_cell BK336.out 1).trans rfl; have hfz23_0 := blk_frozen BK336.out 0; have hfz23_1 := blk_frozen BK336.out 1; have p341 : 0 ≤ ((ji16) : Int) := of_decide_eq_true (by first | (with_reducible assumption) | assumption); have q341 : (ji16) < (l0_1.length : Int) := of_decide_eq_true (by first | (with_reducible assumption) | assumption); obtain ⟨ad341, e341, hx341_0, hx341_1⟩ := at_T79 HR0_1.out (ji16) p341 q341; obtain rfl : ad338 = ad341 := (by injection e341); have hn341_0 : ad338.block ≠ gb339 := Nat.ne_of_lt (Nat.lt_of_lt_of_le (by have := World.block_lt_of_cell? _ _ hx341_0; first | rwa [add_block] at this | exact this) GW339.out); have hn341_1 : ad338.block ≠ gb339 := Nat.ne_of_lt (Nat.lt_of_lt_of_le (by have := World.block_lt_of_cell? _ _ hx341_0; first | rwa [add_block] at this | exact this) GW339.out); replace hx341_0 := (HB.out.cell (World.block_lt_of_cell? w _ hx341_0)).trans hx341_0; replace hx341_1 := (HB.out.cell (World.block_lt_of_cell? w _ hx341_1)).trans hx341_1; replace hx341_0 := (cell_far (p := ⟨gb339, 0, none⟩) (by first | (rw [add_block]; exact hn341_0) | (show (Addr.add _ _).block ≠ _; rw [add_block]; exact hn341_0) | exact hn341_0) (.int .i64 ((rd_T79 l0_1 x18_2).f0))).trans hx341_0; replace hx341_1 := (cell_far (p := ⟨gb339, 0, none⟩) (by first | (rw [add_block]; exact hn341_0) | (show (Addr.add _ _).block ≠ _; rw [add_block]; exact hn341_0) | exact hn341_0) (.int .i64 ((rd_T79 l0_1 x18_2).f0))).trans hx341_1; replace hx341_0 := (cell_far (p := ⟨gb339, 1, none⟩) (by first | (rw [add_block]; exact hn341_1) | (show (Addr.add _ _).block ≠ _; rw [add_block]; exact hn341_1) | exact hn341_1) (.string ((rd_T79 l0_1 x18_2).f1))).trans hx341_0; replace hx341_1 := (cell_far (p := ⟨gb339, 1, none⟩) (by first | (rw [add_block]; exact hn341_1) | (show (Addr.add _ _).block ≠ _; rw [add_block]; exact hn341_1) | exact hn341_1) (.string ((rd_T79 l0_1 x18_2).f1))).trans hx341_1; (try have hy341_0 := fun (n_ : Nat) => (show ((((w20.drewN n_).setCell ⟨gb339, 0, none⟩ (.int .i64 ((rd_T79 l0_1 x18_2).f0))).setCell ⟨gb339, 1, none⟩ (.string ((rd_T79 l0_1 x18_2).f1)))).cell? _ = some _ from hx341_0)); (try have hy341_1 := fun (n_ : Nat) => (show ((((w20.drewN n_).setCell ⟨gb339, 0, none⟩ (.int .i64 ((rd_T79 l0_1 x18_2).f0))).setCell ⟨gb339, 1, none⟩ (.string ((rd_T79 l0_1 x18_2).f1)))).cell? _ = some _ from hx341_1)); clear hn341_0; clear hn341_1; replace p341 := eq_true p341; replace q341 := eq_true q341)); try go_wp2_with (first | ((with_reducible refine gate_dst (N := 4) rfl ?_); (try (refine gate_guard (by rfl) ?_; dsimp only)); refine box_event ?hg (N := 4) ?hd (cs := #[.int .i64 0, .string (⟨#[]⟩ : ByteArray)]) (t := 79) ?hr ?_; (case hd => rfl); (case hg => rfl); (case hr => first | (go_simp; done) | (go_simp; rfl)); intro gb339 hg w20 hbox hb; have n0_ := Aside0.mk (blk_below (g := gb336) (o := .cells #[.string a0_0, .slice (some ad338) l0_1.length c0_1] 49 (0, 0)) (kA BK336.out) hb); have n1_ := Aside0.mk (below_step bG hb); have n2_ := Aside0.mk (hbox); have n3_ := Aside0.mk ((by rw [hg]; exact (below_size bG) : w.heap.size ≤ gb339)); have n4_ := Aside0.mk ((by rw [hg]; exact (below_size bG) : w.heap.size ≤ gb339)); have n5_ := Aside0.mk ((by rw [hg]; exact Nat.ne_of_lt (blk_lt (g := gb336) (o := .cells #[.string a0_0, .slice (some ad338) l0_1.length c0_1] 49 (0, 0)) (kA BK336.out)) : gb336 ≠ gb339)); have n6_ := Aside0.mk ((by rw [hg]; exact Nat.ne_of_gt (blk_lt (g := gb336) (o := .cells #[.string a0_0, .slice (some ad338) l0_1.length c0_1] 49 (0, 0)) (kA BK336.out)) : gb339 ≠ gb336)); clear BK336; clear HB; have BK336 := n0_; have HB := n1_; have BK339 := n2_; have GW339 := n3_; have GE339 := n4_; have NB336_339 := n5_; have NB339_336 := n6_; clear n0_ n1_ n2_ n3_ n4_ n5_ n6_; clear hb hbox hg; have hnb21 := NB339_336.out; have hnc21 := NB336_339.out; have hcz22_0 : w20.cell? ⟨gb339, 0, none⟩ = some (.int .i64 0) := (blk_cell BK339.out 0).trans rfl; have hcz22_1 : w20.cell? ⟨gb339, 1, none⟩ = some (.string (⟨#[]⟩ : ByteArray)) := (blk_cell BK339.out 1).trans rfl; have hfz22_0 := blk_frozen BK339.out 0; have hfz22_1 := blk_frozen BK339.out 1) | (go_at_call 50; (with_reducible refine (spec_FieldOk.calls k2 ((rd_T79 l0_1 x18_2).f0) ((rd_T79 l0_1 x18_2).f1) true _ A13.out).mono ?_); rintro e w' ⟨rfl, ⟨nd, rfl⟩⟩; (try first | exact ⟨rfl, _, World.drewN_drewN _ _ _⟩ | exact ⟨rfl, _, Eq.trans (World.drewN_drewN _ _ _) (congrArg (World.drewN _) (Nat.add_assoc _ _ _))⟩); have hcz23_0 : w20.cell? ⟨gb336, 0, none⟩ = some (.string a0_0) := (blk_cell BK336.out 0).trans rfl; have hcz23_1 : w20.cell? ⟨gb336, 1, none⟩ = some (.slice (some ad338) l0_1.length c0_1) := (blk_cell BK336.out 1).trans rfl; have hfz23_0 := blk_frozen BK336.out 0; have hfz23_1 := blk_frozen BK336.out 1; have p341 : 0 ≤ ((ji16) : Int) := of_decide_eq_true (by first | (with_reducible assumption) | assumption); have q341 : (ji16) < (l0_1.length : Int) := of_decide_eq_true (by first | (with_reducible assumption) | assumption); obtain ⟨ad341, e341, hx341_0, hx341_1⟩ := at_T79 HR0_1.out (ji16) p341 q341; obtain rfl : ad338 = ad341 := (by injection e341); have hn341_0 : ad338.block ≠ gb339 := Nat.ne_of_lt (Nat.lt_of_lt_of_le (by have := World.block_lt_of_cell? _ _ hx341_0; first | rwa [add_block] at this | exact this) GW339.out); have hn341_1 : ad338.block ≠ gb339 := Nat.ne_of_lt (Nat.lt_of_lt_of_le (by have := World.block_lt_of_cell? _ _ hx341_0; first | rwa [add_block] at this | exact this) GW339.out); replace hx341_0 := (HB.out.cell (World.block_lt_of_cell? w _ hx341_0)).trans hx341_0; replace hx341_1 := (HB.out.cell (World.block_lt_of_cell? w _ hx341_1)).trans hx341_1; replace hx341_0 := (cell_far (p := ⟨gb339, 0, none⟩) (by first | (rw [add_block]; exact hn341_0) | (show (Addr.add _ _).block ≠ _; rw [add_block]; exact hn341_0) | exact hn341_0) (.int .i64 ((rd_T79 l0_1 x18_2).f0))).trans hx341_0; replace hx341_1 := (cell_far (p := ⟨gb339, 0, none⟩) (by first | (rw [add_block]; exact hn341_0) | (show (Addr.add _ _).block ≠ _; rw [add_block]; exact hn341_0) | exact hn341_0) (.int .i64 ((rd_T79 l0_1 x18_2).f0))).trans hx341_1; replace hx341_0 := (cell_far (p := ⟨gb339, 1, none⟩) (by first | (rw [add_block]; exact hn341_1) | (show (Addr.add _ _).block ≠ _; rw [add_block]; exact hn341_1) | exact hn341_1) (.string ((rd_T79 l0_1 x18_2).f1))).trans hx341_0; replace hx341_1 := (cell_far (p := ⟨gb339, 1, none⟩) (by first | (rw [add_block]; exact hn341_1) | (show (Addr.add _ _).block ≠ _; rw [add_block]; exact hn341_1) | exact hn341_1) (.string ((rd_T79 l0_1 x18_2).f1))).trans hx341_1; (try have hy341_0 := fun (n_ : Nat) => (show ((((w20.drewN n_).setCell ⟨gb339, 0, none⟩ (.int .i64 ((rd_T79 l0_1 x18_2).f0))).setCell ⟨gb339, 1, none⟩ (.string ((rd_T79 l0_1 x18_2).f1)))).cell? _ = some _ from hx341_0)); (try have hy341_1 := fun (n_ : Nat) => (show ((((w20.drewN n_).setCell ⟨gb339, 0, none⟩ (.int .i64 ((rd_T79 l0_1 x18_2).f0))).setCell ⟨gb339, 1, none⟩ (.string ((rd_T79 l0_1 x18_2).f1)))).cell? _ = some _ from hx341_1)); clear hn341_0; clear hn341_1; replace p341 := eq_true p341; replace q341 := eq_true q341)))
              go_ret
              exact ⟨by first | rfl | (simp [errW_none, errW_some] <;> rfl) | (simp only [← hji16]; first | rfl | (simp [errW_none, errW_some] <;> rfl) | (simp [i64_w, IntKind.wrap_u8] <;> rfl)) | (simp [*, errW_none, errW_some] <;> rfl), bG⟩
             ·rw [if_neg c19] at H
              have c19b0 : decide (((rd_T79 l0_1 x18_2).f0) ≤ ((rd_T79 l0_1 (ji16)).f0)) = false := decide_eq_false c19
              clear c19
              have H' := Aside0.mk H
              clear H
              have p338 : 0 ≤ (x18_2 : Int) := of_decide_eq_true (by first | (with_reducible assumption) | assumption)
              have q338 : x18_2 < (l0_1.length : Int) := of_decide_eq_true (by first | (with_reducible assumption) | assumption)
              obtain ⟨ad338, e338, hx338_0, hx338_1⟩ := at_T79 HR0_1.out x18_2 p338 q338
              cases e338
              replace hx338_0 := (HB.out.cell (World.block_lt_of_cell? w _ hx338_0)).trans hx338_0
              replace hx338_1 := (HB.out.cell (World.block_lt_of_cell? w _ hx338_1)).trans hx338_1
              replace p338 := eq_true p338
              replace q338 := eq_true q338
              go_wp2_with (first | ((with_reducible refine gate_dst (N := 4) rfl ?_); (try (refine gate_guard (by rfl) ?_; dsimp only)); refine box_event ?hg (N := 4) ?hd (cs := #[.int .i64 0, .string (⟨#[]⟩ : ByteArray)]) (t := 79) ?hr ?_; (case hd => rfl); (case hg => rfl); (case hr => first | (go_simp; done) | (go_simp; rfl)); intro gb339 hg w24 hbox hb; have n0_ := Aside0.mk (blk_below (g := gb336) (o := .cells #[.string a0_0, .slice (some ad338) l0_1.length c0_1] 49 (0, 0)) (kA BK336.out) hb); have n1_ := Aside0.mk (below_step bG hb); have n2_ := Aside0.mk (hbox); have n3_ := Aside0.mk ((by rw [hg]; exact (below_size bG) : w.heap.size ≤ gb339)); have n4_ := Aside0.mk ((by rw [hg]; exact (below_size bG) : w.heap.size ≤ gb339)); have n5_ := Aside0.mk ((by rw [hg]; exact Nat.ne_of_lt (blk_lt (g := gb336) (o := .cells #[.string a0_0, .slice (some ad338) l0_1.length c0_1] 49 (0, 0)) (kA BK336.out)) : gb336 ≠ gb339)); have n6_ := Aside0.mk ((by rw [hg]; exact Nat.ne_of_gt (blk_lt (g := gb336) (o := .cells #[.string a0_0, .slice (some ad338) l0_1.length c0_1] 49 (0, 0)) (kA BK336.out)) : gb339 ≠ gb336)); clear BK336; clear HB; have BK336 := n0_; have HB := n1_; have BK339 := n2_; have GW339 := n3_; have GE339 := n4_; have NB336_339 := n5_; have NB339_336 := n6_; clear n0_ n1_ n2_ n3_ n4_ n5_ n6_; clear hb hbox hg; have hnb25 := NB339_336.out; have hnc25 := NB336_339.out; have hcz26_0 : w24.cell? ⟨gb339, 0, none⟩ = some (.int .i64 0) := (blk_cell BK339.out 0).trans rfl; have hcz26_1 : w24.cell? ⟨gb339, 1, none⟩ = some (.string (⟨#[]⟩ : ByteArray)) := (blk_cell BK339.out 1).trans rfl; have hfz26_0 := blk_frozen BK339.out 0; have hfz26_1 := blk_frozen BK339.out 1) | (go_at_call 50; (with_reducible refine (spec_FieldOk.calls k2 ((rd_T79 l0_1 x18_2).f0) ((rd_T79 l0_1 x18_2).f1) true _ A13.out).mono ?_); rintro e w' ⟨rfl, ⟨nd, rfl⟩⟩; (try first | exact ⟨rfl, _, World.drewN_drewN _ _ _⟩ | exact ⟨rfl, _, Eq.trans (World.drewN_drewN _ _ _) (congrArg (World.drewN _) (Nat.add_assoc _ _ _))⟩); have hcz27_0 : w24.cell? ⟨gb336, 0, none⟩ = some (.string a0_0) := (blk_cell BK336.out 0).trans rfl; have hcz27_1 : w24.cell? ⟨gb336, 1, none⟩ = some (.slice (some ad338) l0_1.length c0_1) := (blk_cell BK336.out 1).trans rfl; have hfz27_0 := blk_frozen BK336.out 0; have hfz27_1 := blk_frozen BK336.out 1; have p341 : 0 ≤ ((ji16) : Int) := of_decide_eq_true (by first | (with_reducible assumption) | assumption); have q341 : (ji16) < (l0_1.length : Int) := of_decide_eq_true (by first | (with_reducible assumption) | assumption); obtain ⟨ad341, e341, hx341_0, hx341_1⟩ := at_T79 HR0_1.out (ji16) p341 q341; obtain rfl : ad338 = ad341 := (by injection e341); have hn341_0 : ad338.block ≠ gb339 := Nat.ne_of_lt (Nat.lt_of_lt_of_le (by have := World.block_lt_of_cell? _ _ hx341_0; first | rwa [add_block] at this | exact this) GW339.out); have hn341_1 : ad338.block ≠ gb339 := Nat.ne_of_lt (Nat.lt_of_lt_of_le (by have := World.block_lt_of_cell? _ _ hx341_0; first | rwa [add_block] at this | exact this) GW339.out); replace hx341_0 := (HB.out.cell (World.block_lt_of_cell? w _ hx341_0)).trans hx341_0; replace hx341_1 := (HB.out.cell (World.block_lt_of_cell? w _ hx341_1)).trans hx341_1; replace hx341_0 := (cell_far (p := ⟨gb339, 0, none⟩) (by first | (rw [add_block]; exact hn341_0) | (show (Addr.add _ _).block ≠ _; rw [add_block]; exact hn341_0) | exact hn341_0) (.int .i64 ((rd_T79 l0_1 x18_2).f0))).trans hx341_0; replace hx341_1 := (cell_far (p := ⟨gb339, 0, none⟩) (by first | (rw [add_block]; exact hn341_0) | (show (Addr.add _ _).block ≠ _; rw [add_block]; exact hn341_0) | exact hn341_0) (.int .i64 ((rd_T79 l0_1 x18_2).f0))).trans hx341_1; replace hx341_0 := (cell_far (p := ⟨gb339, 1, none⟩) (by first | (rw [add_block]; exact hn341_1) | (show (Addr.add _ _).block ≠ _; rw [add_block]; exact hn341_1) | exact hn341_1) (.string ((rd_T79 l0_1 x18_2).f1))).trans hx341_0; replace hx341_1 := (cell_far (p := ⟨gb339, 1, none⟩) (by first | (rw [add_block]; exact hn341_1) | (show (Addr.add _ _).block ≠ _; rw [add_block]; exact hn341_1) | exact hn341_1) (.string ((rd_T79 l0_1 x18_2).f1))).trans hx341_1; (try have hy341_0 := fun (n_ : Nat) => (show ((((w24.drewN n_).setCell ⟨gb339, 0, none⟩ (.int .i64 ((rd_T79 l0_1 x18_2).f0))).setCell ⟨gb339, 1, none⟩ (.string ((rd_T79 l0_1 x18_2).f1)))).cell? _ = some _ from hx341_0)); (try have hy341_1 := fun (n_ : Nat) => (show ((((w24.drewN n_).setCell ⟨gb339, 0, none⟩ (.int .i64 ((rd_T79 l0_1 x18_2).f0))).setCell ⟨gb339, 1, none⟩ (.string ((rd_T79 l0_1 x18_2).f1)))).cell? _ = some _ from hx341_1)); clear hn341_0; clear hn341_1; replace p341 := eq_true p341; replace q341 := eq_true q341))
              repeat (go_quiet (first | ((with_reducible refine gate_dst (N := 4) rfl ?_); (try (refine gate_guard (by rfl) ?_; dsimp only)); refine box_event ?hg (N := 4) ?hd (cs := #[.int .i64 0, .string (⟨#[]⟩ : ByteArray)]) (t := 79) ?hr ?_; (case hd => rfl); (case hg => rfl); (case hr => first | (go_simp; done) | (go_simp; rfl)); intro gb339 hg w24 hbox hb; have n0_ := Aside0.mk (blk_below (g := gb336) (o := .cells #[.string a0_0, .slice (some ad338) l0_1.length c0_1] 49 (0, 0)) (kA BK336.out) hb); have n1_ := Aside0.mk (below_step bG hb); have n2_ := Aside0.mk (hbox); have n3_ := Aside0.mk ((by rw [hg]; exact (below_size bG) : w.heap.size ≤ gb339)); have n4_ := Aside0.mk ((by rw [hg]; exact (below_size bG) : w.heap.size ≤ gb339)); have n5_ := Aside0.mk ((by rw [hg]; exact Nat.ne_of_lt (blk_lt (g := gb336) (o := .cells #[.string a0_0, .slice (some ad338) l0_1.length c0_1] 49 (0, 0)) (kA BK336.out)) : gb336 ≠ gb339)); have n6_ := Aside0.mk ((by rw [hg]; exact Nat.ne_of_gt (blk_lt (g := gb336) (o := .cells #[.string a0_0, .slice (some ad338) l0_1.length c0_1] 49 (0, 0)) (kA BK336.out)) : gb339 ≠ gb336)); clear BK336; clear HB; have BK336 := n0_; have HB := n1_; have BK339 := n2_; have GW339 := n3_; have GE339 := n4_; have NB336_339 := n5_; have NB339_336 := n6_; clear n0_ n1_ n2_ n3_ n4_ n5_ n6_; clear hb hbox hg; have hnb25 := NB339_336.out; have hnc25 := NB336_339.out; have hcz26_0 : w24.cell? ⟨gb339, 0, none⟩ = some (.int .i64 0) := (blk_cell BK339.out 0).trans rfl; have hcz26_1 : w24.cell? ⟨gb339, 1, none⟩ = some (.string (⟨#[]⟩ : ByteArray)) := (blk_cell BK339.out 1).trans rfl; have hfz26_0 := blk_frozen BK339.out 0; have hfz26_1 := blk_frozen BK339.out 1) | (go_at_call 50; (with_reducible refine (spec_FieldOk.calls k2 ((rd_T79 l0_1 x18_2).f0) ((rd_T79 l0_1 x18_2).f1) true _ A13.out).mono ?_); rintro e w' ⟨rfl, ⟨nd, rfl⟩⟩; (try first | exact ⟨rfl, _, World.drewN_drewN _ _ _⟩ | exact ⟨rfl, _, Eq.trans (World.drewN_drewN _ _ _) (congrArg (World.drewN _) (Nat.add_assoc _ _ _))⟩); have hcz27_0 : w24.cell? ⟨gb336, 0, none⟩ = some (.string a0_0) := (blk_cell BK336.out 0).trans rfl; have hcz27_1 : w24.cell? ⟨gb336, 1, none⟩ = some (.slice (some ad338) l0_1.length c0_1) := (blk_cell BK336.out 1).trans rfl; have hfz27_0 := blk_frozen BK336.out 0; have hfz27_1 := blk_frozen BK336.out 1; have p341 : 0 ≤ ((ji16) : Int) := of_decide_eq_true (by first | (with_reducible assumption) | assumption); have q341 : (ji16) < (l0_1.length : Int) := of_decide_eq_true (by first | (with_reducible assumption) | assumption); obtain ⟨ad341, e341, hx341_0, hx341_1⟩ := at_T79 HR0_1.out (ji16) p341 q341; obtain rfl : ad338 = ad341 := (by injection e341); have hn341_0 : ad338.block ≠ gb339 := Nat.ne_of_lt (Nat.lt_of_lt_of_le (by have := World.block_lt_of_cell? _ _ hx341_0; first | rwa [add_block] at this | exact this) GW339.out); have hn341_1 : ad338.block ≠ gb339 := Nat.ne_of_lt (Nat.lt_of_lt_of_le (by have := World.block_lt_of_cell? _ _ hx341_0; first | rwa [add_block] at this | exact this) GW339.out); replace hx341_0 := (HB.out.cell (World.block_lt_of_cell? w _ hx341_0)).trans hx341_0; replace hx341_1 := (HB.out.cell (World.block_lt_of_cell? w _ hx341_1)).trans hx341_1; replace hx341_0 := (cell_far (p := ⟨gb339, 0, none⟩) (by first | (rw [add_block]; exact hn341_0) | (show (Addr.add _ _).block ≠ _; rw [add_block]; exact hn341_0) | exact hn341_0) (.int .i64 ((rd_T79 l0_1 x18_2).f0))).trans hx341_0; replace hx341_1 := (cell_far (p := ⟨gb339, 0, none⟩) (by first | (rw [add_block]; exact hn341_0) | (show (Addr.add _ _).block ≠ _; rw [add_block]; exact hn341_0) | exact hn341_0) (.int .i64 ((rd_T79 l0_1 x18_2).f0))).trans hx341_1; replace hx341_0 := (cell_far (p := ⟨gb339, 1, none⟩) (by first | (rw [add_block]; exact hn341_1) | (show (Addr.add _ _).block ≠ _; rw [add_block]; exact hn341_1) | exact hn341_1) (.string ((rd_T79 l0_1 x18_2).f1))).trans hx341_0; replace hx341_1 := (cell_far (p := ⟨gb339, 1, none⟩) (by first | (rw [add_block]; exact hn341_1) | (show (Addr.add _ _).block ≠ _; rw [add_block]; exact hn341_1) | exact hn341_1) (.string ((rd_T79 l0_1 x18_2).f1))).trans hx341_1; (try have hy341_0 := fun (n_ : Nat) => (show ((((w24.drewN n_).setCell ⟨gb339, 0, none⟩ (.int .i64 ((rd_T79 l0_1 x18_2).f0))).setCell ⟨gb339, 1, none⟩ (.string ((rd_T79 l0_1 x18_2).f1)))).cell? _ = some _ from hx341_0)); (try have hy341_1 := fun (n_ : Nat) => (show ((((w24.drewN n_).setCell ⟨gb339, 0, none⟩ (.int .i64 ((rd_T79 l0_1 x18_2).f0))).setCell ⟨gb339, 1, none⟩ (.string ((rd_T79 l0_1 x18_2).f1)))).cell? _ = some _ from hx341_1)); clear hn341_0; clear hn341_1; replace p341 := eq_true p341; replace q341 := eq_true q341)); try go_wp2_with (first | ((with_reducible refine gate_dst (N := 4) rfl ?_); (try (refine gate_guard (by rfl) ?_; dsimp only)); refine box_event ?hg (N := 4) ?hd (cs := #[.int .i64 0, .string (⟨#[]⟩ : ByteArray)]) (t := 79) ?hr ?_; (case hd => rfl); (case hg => rfl); (case hr => first | (go_simp; done) | (go_simp; rfl)); intro gb339 hg w24 hbox hb; have n0_ := Aside0.mk (blk_below (g := gb336) (o := .cells #[.string a0_0, .slice (some ad338) l0_1.length c0_1] 49 (0, 0)) (kA BK336.out) hb); have n1_ := Aside0.mk (below_step bG hb); have n2_ := Aside0.mk (hbox); have n3_ := Aside0.mk ((by rw [hg]; exact (below_size bG) : w.heap.size ≤ gb339)); have n4_ := Aside0.mk ((by rw [hg]; exact (below_size bG) : w.heap.size ≤ gb339)); have n5_ := Aside0.mk ((by rw [hg]; exact Nat.ne_of_lt (blk_lt (g := gb336) (o := .cells #[.string a0_0, .slice (some ad338) l0_1.length c0_1] 49 (0, 0)) (kA BK336.out)) : gb336 ≠ gb339)); have n6_ := Aside0.mk ((by rw [hg]; exact Nat.ne_of_gt (blk_lt (g := gb336) (o := .cells #[.string a0_0, .slice (some ad338) l0_1.length c0_1] 49 (0, 0)) (kA BK336.out)) : gb339 ≠ gb336)); clear BK336; clear HB; have BK336 := n0_; have HB := n1_; have BK339 := n2_; have GW339 := n3_; have GE339 := n4_; have NB336_339 := n5_; have NB339_336 := n6_; clear n0_ n1_ n2_ n3_ n4_ n5_ n6_; clear hb hbox hg; have hnb25 := NB339_336.out; have hnc25 := NB336_339.out; have hcz26_0 : w24.cell? ⟨gb339, 0, none⟩ = some (.int .i64 0) := (blk_cell BK339.out 0).trans rfl; have hcz26_1 : w24.cell? ⟨gb339, 1, none⟩ = some (.string (⟨#[]⟩ : ByteArray)) := (blk_cell BK339.out 1).trans rfl; have hfz26_0 := blk_frozen BK339.out 0; have hfz26_1 := blk_frozen BK339.out 1) | (go_at_call 50; (with_reducible refine (spec_FieldOk.calls k2 ((rd_T79 l0_1 x18_2).f0) ((rd_T79 l0_1 x18_2).f1) true _ A13.out).mono ?_); rintro e w' ⟨rfl, ⟨nd, rfl⟩⟩; (try first | exact ⟨rfl, _, World.drewN_drewN _ _ _⟩ | exact ⟨rfl, _, Eq.trans (World.drewN_drewN _ _ _) (congrArg (World.drewN _) (Nat.add_assoc _ _ _))⟩); have hcz27_0 : w24.cell? ⟨gb336, 0, none⟩ = some (.string a0_0) := (blk_cell BK336.out 0).trans rfl; have hcz27_1 : w24.cell? ⟨gb336, 1, none⟩ = some (.slice (some ad338) l0_1.length c0_1) := (blk_cell BK336.out 1).trans rfl; have hfz27_0 := blk_frozen BK336.out 0; have hfz27_1 := blk_frozen BK336.out 1; have p341 : 0 ≤ ((ji16) : Int) := of_decide_eq_true (by first | (with_reducible assumption) | assumption); have q341 : (ji16) < (l0_1.length : Int) := of_decide_eq_true (by first | (with_reducible assumption) | assumption); obtain ⟨ad341, e341, hx341_0, hx341_1⟩ := at_T79 HR0_1.out (ji16) p341 q341; obtain rfl : ad338 = ad341 := (by injection e341); have hn341_0 : ad338.block ≠ gb339 := Nat.ne_of_lt (Nat.lt_of_lt_of_le (by have := World.block_lt_of_cell? _ _ hx341_0; first | rwa [add_block] at this | exact this) GW339.out); have hn341_1 : ad338.block ≠ gb339 := Nat.ne_of_lt (Nat.lt_of_lt_of_le (by have := World.block_lt_of_cell? _ _ hx341_0; first | rwa [add_block] at this | exact this) GW339.out); replace hx341_0 := (HB.out.cell (World.block_lt_of_cell? w _ hx341_0)).trans hx341_0; replace hx341_1 := (HB.out.cell (World.block_lt_of_cell? w _ hx341_1)).trans hx341_1; replace hx341_0 := (cell_far (p := ⟨gb339, 0, none⟩) (by first | (rw [add_block]; exact hn341_0) | (show (Addr.add _ _).block ≠ _; rw [add_block]; exact hn341_0) | exact hn341_0) (.int .i64 ((rd_T79 l0_1 x18_2).f0))).trans hx341_0; replace hx341_1 := (cell_far (p := ⟨gb339, 0, none⟩) (by first | (rw [add_block]; exact hn341_0) | (show (Addr.add _ _).block ≠ _; rw [add_block]; exact hn341_0) | exact hn341_0) (.int .i64 ((rd_T79 l0_1 x18_2).f0))).trans hx341_1; replace hx341_0 := (cell_far (p := ⟨gb339, 1, none⟩) (by first | (rw [add_block]; exact hn341_1) | (show (Addr.add _ _).block ≠ _; rw [add_block]; exact hn341_1) | exact hn341_1) (.string ((rd_T79 l0_1 x18_2).f1))).trans hx341_0; replace hx341_1 := (cell_far (p := ⟨gb339, 1, none⟩) (by first | (rw [add_block]; exact hn341_1) | (show (Addr.add _ _).block ≠ _; rw [add_block]; exact hn341_1) | exact hn341_1) (.string ((rd_T79 l0_1 x18_2).f1))).trans hx341_1; (try have hy341_0 := fun (n_ : Nat) => (show ((((w24.drewN n_).setCell ⟨gb339, 0, none⟩ (.int .i64 ((rd_T79 l0_1 x18_2).f0))).setCell ⟨gb339, 1, none⟩ (.string ((rd_T79 l0_1 x18_2).f1)))).cell? _ = some _ from hx341_0)); (try have hy341_1 := fun (n_ : Nat) => (show ((((w24.drewN n_).setCell ⟨gb339, 0, none⟩ (.int .i64 ((rd_T79 l0_1 x18_2).f0))).setCell ⟨gb339, 1, none⟩ (.string ((rd_T79 l0_1 x18_2).f1)))).cell? _ = some _ from hx341_1)); clear hn341_0; clear hn341_1; replace p341 := eq_true p341; replace q341 := eq_true q341)))
              go_roundg k2
              case measure => have := HJ1.out; have := HK2.out; omega
              case rel => exact ⟨(wrap64 (x18_2 + 1)), (by first | rfl | (simp; done) | (simp [*]; done) | (simp [i64_w, IntKind.wrap_u8, e256_]; done) | (simp; generalize ByteArray.toList _ = zz_; cases zz_ <;> rfl)), H', ⟨by have := HJ1.out; have := HK2.out; omega⟩, ⟨by (with_reducible repeat (first | refine blk_drewN ?_ _ | refine blk_drew ?_ | refine blk_alloc ?_ _)); refine blk_far ?_ NB336_339.out _; (with_reducible repeat (first | refine blk_drewN ?_ _ | refine blk_drew ?_ | refine blk_alloc ?_ _)); refine blk_far ?_ NB336_339.out _; (with_reducible repeat (first | refine blk_drewN ?_ _ | refine blk_drew ?_ | refine blk_alloc ?_ _)); exact BK336.out⟩, ⟨bG⟩⟩
            ·rw [if_neg c18] at H
             exact absurd H (by simp)
           ·rw [if_neg c17] at H
            exact absurd H (by simp)
          ·rw [if_neg c15] at H
           have c15b0 : decide (0 < x18_2) = false := decide_eq_false c15
           clear c15
           have H' := Aside0.mk H
           clear H
           have p338 : 0 ≤ (x18_2 : Int) := of_decide_eq_true (by first | (with_reducible assumption) | assumption)
           have q338 : x18_2 < (l0_1.length : Int) := of_decide_eq_true (by first | (with_reducible assumption) | assumption)
           obtain ⟨ad338, e338, hx338_0, hx338_1⟩ := at_T79 HR0_1.out x18_2 p338 q338
           cases e338
           replace hx338_0 := (HB.out.cell (World.block_lt_of_cell? w _ hx338_0)).trans hx338_0
           replace hx338_1 := (HB.out.cell (World.block_lt_of_cell? w _ hx338_1)).trans hx338_1
           replace p338 := eq_true p338
           replace q338 := eq_true q338
           go_wp2_with (first | ((with_reducible refine gate_dst (N := 4) rfl ?_); (try (refine gate_guard (by rfl) ?_; dsimp only)); refine box_event ?hg (N := 4) ?hd (cs := #[.int .i64 0, .string (⟨#[]⟩ : ByteArray)]) (t := 79) ?hr ?_; (case hd => rfl); (case hg => rfl); (case hr => first | (go_simp; done) | (go_simp; rfl)); intro gb339 hg w28 hbox hb; have n0_ := Aside0.mk (blk_below (g := gb336) (o := .cells #[.string a0_0, .slice (some ad338) l0_1.length c0_1] 49 (0, 0)) (kA BK336.out) hb); have n1_ := Aside0.mk (below_step bG hb); have n2_ := Aside0.mk (hbox); have n3_ := Aside0.mk ((by rw [hg]; exact (below_size bG) : w.heap.size ≤ gb339)); have n4_ := Aside0.mk ((by rw [hg]; exact (below_size bG) : w.heap.size ≤ gb339)); have n5_ := Aside0.mk ((by rw [hg]; exact Nat.ne_of_lt (blk_lt (g := gb336) (o := .cells #[.string a0_0, .slice (some ad338) l0_1.length c0_1] 49 (0, 0)) (kA BK336.out)) : gb336 ≠ gb339)); have n6_ := Aside0.mk ((by rw [hg]; exact Nat.ne_of_gt (blk_lt (g := gb336) (o := .cells #[.string a0_0, .slice (some ad338) l0_1.length c0_1] 49 (0, 0)) (kA BK336.out)) : gb339 ≠ gb336)); clear BK336; clear HB; have BK336 := n0_; have HB := n1_; have BK339 := n2_; have GW339 := n3_; have GE339 := n4_; have NB336_339 := n5_; have NB339_336 := n6_; clear n0_ n1_ n2_ n3_ n4_ n5_ n6_; clear hb hbox hg; have hnb29 := NB339_336.out; have hnc29 := NB336_339.out; have hcz30_0 : w28.cell? ⟨gb339, 0, none⟩ = some (.int .i64 0) := (blk_cell BK339.out 0).trans rfl; have hcz30_1 : w28.cell? ⟨gb339, 1, none⟩ = some (.string (⟨#[]⟩ : ByteArray)) := (blk_cell BK339.out 1).trans rfl; have hfz30_0 := blk_frozen BK339.out 0; have hfz30_1 := blk_frozen BK339.out 1) | (go_at_call 50; (with_reducible refine (spec_FieldOk.calls k2 ((rd_T79 l0_1 x18_2).f0) ((rd_T79 l0_1 x18_2).f1) true _ A13.out).mono ?_); rintro e w' ⟨rfl, ⟨nd, rfl⟩⟩; (try first | exact ⟨rfl, _, World.drewN_drewN _ _ _⟩ | exact ⟨rfl, _, Eq.trans (World.drewN_drewN _ _ _) (congrArg (World.drewN _) (Nat.add_assoc _ _ _))⟩)))
           repeat (go_quiet (first | ((with_reducible refine gate_dst (N := 4) rfl ?_); (try (refine gate_guard (by rfl) ?_; dsimp only)); refine box_event ?hg (N := 4) ?hd (cs := #[.int .i64 0, .string (⟨#[]⟩ : ByteArray)]) (t := 79) ?hr ?_; (case hd => rfl); (case hg => rfl); (case hr => first | (go_simp; done) | (go_simp; rfl)); intro gb339 hg w28 hbox hb; have n0_ := Aside0.mk (blk_below (g := gb336) (o := .cells #[.string a0_0, .slice (some ad338) l0_1.length c0_1] 49 (0, 0)) (kA BK336.out) hb); have n1_ := Aside0.mk (below_step bG hb); have n2_ := Aside0.mk (hbox); have n3_ := Aside0.mk ((by rw [hg]; exact (below_size bG) : w.heap.size ≤ gb339)); have n4_ := Aside0.mk ((by rw [hg]; exact (below_size bG) : w.heap.size ≤ gb339)); have n5_ := Aside0.mk ((by rw [hg]; exact Nat.ne_of_lt (blk_lt (g := gb336) (o := .cells #[.string a0_0, .slice (some ad338) l0_1.length c0_1] 49 (0, 0)) (kA BK336.out)) : gb336 ≠ gb339)); have n6_ := Aside0.mk ((by rw [hg]; exact Nat.ne_of_gt (blk_lt (g := gb336) (o := .cells #[.string a0_0, .slice (some ad338) l0_1.length c0_1] 49 (0, 0)) (kA BK336.out)) : gb339 ≠ gb336)); clear BK336; clear HB; have BK336 := n0_; have HB := n1_; have BK339 := n2_; have GW339 := n3_; have GE339 := n4_; have NB336_339 := n5_; have NB339_336 := n6_; clear n0_ n1_ n2_ n3_ n4_ n5_ n6_; clear hb hbox hg; have hnb29 := NB339_336.out; have hnc29 := NB336_339.out; have hcz30_0 : w28.cell? ⟨gb339, 0, none⟩ = some (.int .i64 0) := (blk_cell BK339.out 0).trans rfl; have hcz30_1 : w28.cell? ⟨gb339, 1, none⟩ = some (.string (⟨#[]⟩ : ByteArray)) := (blk_cell BK339.out 1).trans rfl; have hfz30_0 := blk_frozen BK339.out 0; have hfz30_1 := blk_frozen BK339.out 1) | (go_at_call 50; (with_reducible refine (spec_FieldOk.calls k2 ((rd_T79 l0_1 x18_2).f0) ((rd_T79 l0_1 x18_2).f1) true _ A13.out).mono ?_); rintro e w' ⟨rfl, ⟨nd, rfl⟩⟩; (try first | exact ⟨rfl, _, World.drewN_drewN _ _ _⟩ | exact ⟨rfl, _, Eq.trans (World.drewN_drewN _ _ _) (congrArg (World.drewN _) (Nat.add_assoc _ _ _))⟩))); try go_wp2_with (first | ((with_reducible refine gate_dst (N := 4) rfl ?_); (try (refine gate_guard (by rfl) ?_; dsimp only)); refine box_event ?hg (N := 4) ?hd (cs := #[.int .i64 0, .string (⟨#[]⟩ : ByteArray)]) (t := 79) ?hr ?_; (case hd => rfl); (case hg => rfl); (case hr => first | (go_simp; done) | (go_simp; rfl)); intro gb339 hg w28 hbox hb; have n0_ := Aside0.mk (blk_below (g := gb336) (o := .cells #[.string a0_0, .slice (some ad338) l0_1.length c0_1] 49 (0, 0)) (kA BK336.out) hb); have n1_ := Aside0.mk (below_step bG hb); have n2_ := Aside0.mk (hbox); have n3_ := Aside0.mk ((by rw [hg]; exact (below_size bG) : w.heap.size ≤ gb339)); have n4_ := Aside0.mk ((by rw [hg]; exact (below_size bG) : w.heap.size ≤ gb339)); have n5_ := Aside0.mk ((by rw [hg]; exact Nat.ne_of_lt (blk_lt (g := gb336) (o := .cells #[.string a0_0, .slice (some ad338) l0_1.length c0_1] 49 (0, 0)) (kA BK336.out)) : gb336 ≠ gb339)); have n6_ := Aside0.mk ((by rw [hg]; exact Nat.ne_of_gt (blk_lt (g := gb336) (o := .cells #[.string a0_0, .slice (some ad338) l0_1.length c0_1] 49 (0, 0)) (kA BK336.out)) : gb339 ≠ gb336)); clear BK336; clear HB; have BK336 := n0_; have HB := n1_; have BK339 := n2_; have GW339 := n3_; have GE339 := n4_; have NB336_339 := n5_; have NB339_336 := n6_; clear n0_ n1_ n2_ n3_ n4_ n5_ n6_; clear hb hbox hg; have hnb29 := NB339_336.out; have hnc29 := NB336_339.out; have hcz30_0 : w28.cell? ⟨gb339, 0, none⟩ = some (.int .i64 0) := (blk_cell BK339.out 0).trans rfl; have hcz30_1 : w28.cell? ⟨gb339, 1, none⟩ = some (.string (⟨#[]⟩ : ByteArray)) := (blk_cell BK339.out 1).trans rfl; have hfz30_0 := blk_frozen BK339.out 0; have hfz30_1 := blk_frozen BK339.out 1) | (go_at_call 50; (with_reducible refine (spec_FieldOk.calls k2 ((rd_T79 l0_1 x18_2).f0) ((rd_T79 l0_1 x18_2).f1) true _ A13.out).mono ?_); rintro e w' ⟨rfl, ⟨nd, rfl⟩⟩; (try first | exact ⟨rfl, _, World.drewN_drewN _ _ _⟩ | exact ⟨rfl, _, Eq.trans (World.drewN_drewN _ _ _) (congrArg (World.drewN _) (Nat.add_assoc _ _ _))⟩))))
           go_roundg k2
           case measure => have := HJ1.out; have := HK2.out; omega
           case rel => exact ⟨(wrap64 (x18_2 + 1)), (by first | rfl | (simp; done) | (simp [*]; done) | (simp [i64_w, IntKind.wrap_u8, e256_]; done) | (simp; generalize ByteArray.toList _ = zz_; cases zz_ <;> rfl)), H', ⟨by have := HJ1.out; have := HK2.out; omega⟩, ⟨by (with_reducible repeat (first | refine blk_drewN ?_ _ | refine blk_drew ?_ | refine blk_alloc ?_ _)); refine blk_far ?_ NB336_339.out _; (with_reducible repeat (first | refine blk_drewN ?_ _ | refine blk_drew ?_ | refine blk_alloc ?_ _)); refine blk_far ?_ NB336_339.out _; (with_reducible repeat (first | refine blk_drewN ?_ _ | refine blk_drew ?_ | refine blk_alloc ?_ _)); exact BK336.out⟩, ⟨bG⟩⟩
         ·replace c14 := Bool.eq_false_iff.mpr c14
          subst c14
          have H1 : (some false) = some r := by rw [if_neg (show ¬ (false = true) by decide)] at H; exact H
          clear H
          have H := H1
          clear H1
          obtain rfl := Option.some.inj H
          have p338 : 0 ≤ (x18_2 : Int) := of_decide_eq_true (by first | (with_reducible assumption) | assumption)
          have q338 : x18_2 < (l0_1.length : Int) := of_decide_eq_true (by first | (with_reducible assumption) | assumption)
          obtain ⟨ad338, e338, hx338_0, hx338_1⟩ := at_T79 HR0_1.out x18_2 p338 q338
          cases e338
          replace hx338_0 := (HB.out.cell (World.block_lt_of_cell? w _ hx338_0)).trans hx338_0
          replace hx338_1 := (HB.out.cell (World.block_lt_of_cell? w _ hx338_1)).trans hx338_1
          replace p338 := eq_true p338
          replace q338 := eq_true q338
          go_wp2_with (first | ((with_reducible refine gate_dst (N := 4) rfl ?_); (try (refine gate_guard (by rfl) ?_; dsimp only)); refine box_event ?hg (N := 4) ?hd (cs := #[.int .i64 0, .string (⟨#[]⟩ : ByteArray)]) (t := 79) ?hr ?_; (case hd => rfl); (case hg => rfl); (case hr => first | (go_simp; done) | (go_simp; rfl)); intro gb339 hg w31 hbox hb; have n0_ := Aside0.mk (blk_below (g := gb336) (o := .cells #[.string a0_0, .slice (some ad338) l0_1.length c0_1] 49 (0, 0)) (kA BK336.out) hb); have n1_ := Aside0.mk (below_step bG hb); have n2_ := Aside0.mk (hbox); have n3_ := Aside0.mk ((by rw [hg]; exact (below_size bG) : w.heap.size ≤ gb339)); have n4_ := Aside0.mk ((by rw [hg]; exact (below_size bG) : w.heap.size ≤ gb339)); have n5_ := Aside0.mk ((by rw [hg]; exact Nat.ne_of_lt (blk_lt (g := gb336) (o := .cells #[.string a0_0, .slice (some ad338) l0_1.length c0_1] 49 (0, 0)) (kA BK336.out)) : gb336 ≠ gb339)); have n6_ := Aside0.mk ((by rw [hg]; exact Nat.ne_of_gt (blk_lt (g := gb336) (o := .cells #[.string a0_0, .slice (some ad338) l0_1.length c0_1] 49 (0, 0)) (kA BK336.out)) : gb339 ≠ gb336)); clear BK336; clear HB; have BK336 := n0_; have HB := n1_; have BK339 := n2_; have GW339 := n3_; have GE339 := n4_; have NB336_339 := n5_; have NB339_336 := n6_; clear n0_ n1_ n2_ n3_ n4_ n5_ n6_; clear hb hbox hg; have hnb32 := NB339_336.out; have hnc32 := NB336_339.out; have hcz33_0 : w31.cell? ⟨gb339, 0, none⟩ = some (.int .i64 0) := (blk_cell BK339.out 0).trans rfl; have hcz33_1 : w31.cell? ⟨gb339, 1, none⟩ = some (.string (⟨#[]⟩ : ByteArray)) := (blk_cell BK339.out 1).trans rfl; have hfz33_0 := blk_frozen BK339.out 0; have hfz33_1 := blk_frozen BK339.out 1) | (go_at_call 50; (with_reducible refine (spec_FieldOk.calls k2 ((rd_T79 l0_1 x18_2).f0) ((rd_T79 l0_1 x18_2).f1) false _ A13.out).mono ?_); rintro e w' ⟨rfl, ⟨nd, rfl⟩⟩; (try first | exact ⟨rfl, _, World.drewN_drewN _ _ _⟩ | exact ⟨rfl, _, Eq.trans (World.drewN_drewN _ _ _) (congrArg (World.drewN _) (Nat.add_assoc _ _ _))⟩)))
          repeat (go_quiet (first | ((with_reducible refine gate_dst (N := 4) rfl ?_); (try (refine gate_guard (by rfl) ?_; dsimp only)); refine box_event ?hg (N := 4) ?hd (cs := #[.int .i64 0, .string (⟨#[]⟩ : ByteArray)]) (t := 79) ?hr ?_; (case hd => rfl); (case hg => rfl); (case hr => first | (go_simp; done) | (go_simp; rfl)); intro gb339 hg w31 hbox hb; have n0_ := Aside0.mk (blk_below (g := gb336) (o := .cells #[.string a0_0, .slice (some ad338) l0_1.length c0_1] 49 (0, 0)) (kA BK336.out) hb); have n1_ := Aside0.mk (below_step bG hb); have n2_ := Aside0.mk (hbox); have n3_ := Aside0.mk ((by rw [hg]; exact (below_size bG) : w.heap.size ≤ gb339)); have n4_ := Aside0.mk ((by rw [hg]; exact (below_size bG) : w.heap.size ≤ gb339)); have n5_ := Aside0.mk ((by rw [hg]; exact Nat.ne_of_lt (blk_lt (g := gb336) (o := .cells #[.string a0_0, .slice (some ad338) l0_1.length c0_1] 49 (0, 0)) (kA BK336.out)) : gb336 ≠ gb339)); have n6_ := Aside0.mk ((by rw [hg]; exact Nat.ne_of_gt (blk_lt (g := gb336) (o := .cells #[.string a0_0, .slice (some ad338) l0_1.length c0_1] 49 (0, 0)) (kA BK336.out)) : gb339 ≠ gb336)); clear BK336; clear HB; have BK336 := n0_; have HB := n1_; have BK339 := n2_; have GW339 := n3_; have GE339 := n4_; have NB336_339 := n5_; have NB339_336 := n6_; clear n0_ n1_ n2_ n3_ n4_ n5_ n6_; clear hb hbox hg; have hnb32 := NB339_336.out; have hnc32 := NB336_339.out; have hcz33_0 : w31.cell? ⟨gb339, 0, none⟩ = some (.int .i64 0) := (blk_cell BK339.out 0).trans rfl; have hcz33_1 : w31.cell? ⟨gb339, 1, none⟩ = some (.string (⟨#[]⟩ : ByteArray)) := (blk_cell BK339.out 1).trans rfl; have hfz33_0 := blk_frozen BK339.out 0; have hfz33_1 := blk_frozen BK339.out 1) | (go_at_call 50; (with_reducible refine (spec_FieldOk.calls k2 ((rd_T79 l0_1 x18_2).f0) ((rd_T79 l0_1 x18_2).f1) false _ A13.out).mono ?_); rintro e w' ⟨rfl, ⟨nd, rfl⟩⟩; (try first | exact ⟨rfl, _, World.drewN_drewN _ _ _⟩ | exact ⟨rfl, _, Eq.trans (World.drewN_drewN _ _ _) (congrArg (World.drewN _) (Nat.add_assoc _ _ _))⟩))); try go_wp2_with (first | ((with_reducible refine gate_dst (N := 4) rfl ?_); (try (refine gate_guard (by rfl) ?_; dsimp only)); refine box_event ?hg (N := 4) ?hd (cs := #[.int .i64 0, .string (⟨#[]⟩ : ByteArray)]) (t := 79) ?hr ?_; (case hd => rfl); (case hg => rfl); (case hr => first | (go_simp; done) | (go_simp; rfl)); intro gb339 hg w31 hbox hb; have n0_ := Aside0.mk (blk_below (g := gb336) (o := .cells #[.string a0_0, .slice (some ad338) l0_1.length c0_1] 49 (0, 0)) (kA BK336.out) hb); have n1_ := Aside0.mk (below_step bG hb); have n2_ := Aside0.mk (hbox); have n3_ := Aside0.mk ((by rw [hg]; exact (below_size bG) : w.heap.size ≤ gb339)); have n4_ := Aside0.mk ((by rw [hg]; exact (below_size bG) : w.heap.size ≤ gb339)); have n5_ := Aside0.mk ((by rw [hg]; exact Nat.ne_of_lt (blk_lt (g := gb336) (o := .cells #[.string a0_0, .slice (some ad338) l0_1.length c0_1] 49 (0, 0)) (kA BK336.out)) : gb336 ≠ gb339)); have n6_ := Aside0.mk ((by rw [hg]; exact Nat.ne_of_gt (blk_lt (g := gb336) (o := .cells #[.string a0_0, .slice (some ad338) l0_1.length c0_1] 49 (0, 0)) (kA BK336.out)) : gb339 ≠ gb336)); clear BK336; clear HB; have BK336 := n0_; have HB := n1_; have BK339 := n2_; have GW339 := n3_; have GE339 := n4_; have NB336_339 := n5_; have NB339_336 := n6_; clear n0_ n1_ n2_ n3_ n4_ n5_ n6_; clear hb hbox hg; have hnb32 := NB339_336.out; have hnc32 := NB336_339.out; have hcz33_0 : w31.cell? ⟨gb339, 0, none⟩ = some (.int .i64 0) := (blk_cell BK339.out 0).trans rfl; have hcz33_1 : w31.cell? ⟨gb339, 1, none⟩ = some (.string (⟨#[]⟩ : ByteArray)) := (blk_cell BK339.out 1).trans rfl; have hfz33_0 := blk_frozen BK339.out 0; have hfz33_1 := blk_frozen BK339.out 1) | (go_at_call 50; (with_reducible refine (spec_FieldOk.calls k2 ((rd_T79 l0_1 x18_2).f0) ((rd_T79 l0_1 x18_2).f1) false _ A13.out).mono ?_); rintro e w' ⟨rfl, ⟨nd, rfl⟩⟩; (try first | exact ⟨rfl, _, World.drewN_drewN _ _ _⟩ | exact ⟨rfl, _, Eq.trans (World.drewN_drewN _ _ _) (congrArg (World.drewN _) (Nat.add_assoc _ _ _))⟩))))
          go_ret
          exact ⟨by first | rfl | (simp [errW_none, errW_some] <;> rfl) | (simp [*, errW_none, errW_some] <;> rfl), bG⟩
        ·rw [if_neg c12] at H
         exact absurd H (by simp)
       ·rw [if_neg c11] at H
        exact absurd H (by simp)
      ·rw [if_neg c10] at H
       have c10b0 : decide (x18_2 < (l0_1.length : Int)) = false := decide_eq_false c10
       clear c10
       obtain rfl := Option.some.inj H
       go_wp2
       repeat (go_quiet (fail); try go_wp2)
       go_ret
       exact ⟨by first | rfl | (simp [errW_none, errW_some] <;> rfl) | (simp [*, errW_none, errW_some] <;> rfl), bG⟩
attribute [local go_sem] max2_int min2_int max_two min_two max_three min_three max_four min_four
set_option linter.unusedVariables false
set_option linter.unusedSimpArgs false
def spec_PutBits.l0 : Nat → List Int → List Int → Int → Int → Option (List Int)
 | 0, _, _, _, _ => none
 | k + 1, x3, x7, x8, x9 => if x9 < x8 then (if 0 ≤ x9 then (if x9 < (x7.length : Int) then ((spec_l01In.f (rd x7 x9) 1 64).bind fun t346 => (if t346 = true then (if 0 ≤ (wrap64 (Int.tdiv (wrap64 ((rd x7 x9) - 1)) 8)) then (if (wrap64 (Int.tdiv (wrap64 ((rd x7 x9) - 1)) 8)) < (x3.length : Int) then (if 0 ≤ (Int.tmod (wrap64 ((rd x7 x9) - 1)) 8) then (spec_PutBits.l0 k (x3.set ((wrap64 (Int.tdiv (wrap64 ((rd x7 x9) - 1)) 8)) : Int).toNat (Go.bits .or .u8 (rd x3 (wrap64 (Int.tdiv (wrap64 ((rd x7 x9) - 1)) 8))) (shr .u8 128 (Int.tmod (wrap64 ((rd x7 x9) - 1)) 8)))) x7 x8 (wrap64 (x9 + 1))) else (none)) else (none)) else (none)) else (spec_PutBits.l0 k x3 x7 x8 (wrap64 (x9 + 1))))) else (none)) else (none)) else (some x3)
def spec_PutBits.f (k : Nat) (l0 : List Int) : Option (List Int) := if 8 ≤ 281474976710656 then (spec_PutBits.l0 k (List.replicate 8 0) l0 (l0.length : Int) 0) else (none)
def spec_PutBits.T6 : Bool × List (List Nat × List Nat) := (true, [([], []), ([], []), ([1], [1]), ([2], [2]), ([], []), ([], []), ([5], [5]), ([6], [6]), ([4, 7], [4, 7]), ([8], [8]), ([], []), ([10], [10]), ([11], [11]), ([12], [12]), ([9, 13], [9, 13]), ([0, 3, 0, 1, 2, 3, 4, 5, 6, 7, 8, 9, 10, 11, 12, 13, 14], [0, 3]), ([15, 14, 0, 1, 2, 3, 4, 5, 6, 7, 8, 9, 10, 11, 12, 13, 14], [14, 15])])
def spec_PutBits.B6 : List Nat := [0, 0, 2, 6, 0, 0, 32, 96, 240, 496, 0, 1024, 3072, 7168, 16368, 32767, 65535]
theorem spec_PutBits.tab6 : rtab .any (opsOf Tryd.f59 6) = spec_PutBits.T6 := by kernel_rfl
theorem spec_PutBits.bits6 : waitsOk spec_PutBits.T6.2 spec_PutBits.B6 = true := by kernel_rfl
set_option maxHeartbeats 8000000 in
set_option maxRecDepth 100000 in
theorem spec_PutBits.calls (k : Nat) (A0 : Option Addr) (c0 : Nat) (l0 : List Int) (r : List Int) (w : World) (hr0 : Kd.C (Kd.int .i64) w A0 l0.length l0) (hc0 : l0.length ≤ c0) (h : spec_PutBits.f k l0 = some r) :
  Calls Tryd.prog 59 #[.slice A0 l0.length c0] w fun e w' => ∃ v0_ : Value, e = .returned (v0_) ∧ Kd.R (Kd.int .u8) 5 w' w.heap.size (fun _ => True) v0_ r ∧ Below w.heap.size w w' := by
 have HR0 := Aside0.mk hr0
 have HC0 := Aside0.mk hc0
 clear hr0 hc0
 have HB := Aside0.mk (Below.refl w.heap.size w)
 have H : (if 8 ≤ 281474976710656 then (spec_PutBits.l0 k (List.replicate 8 0) l0 (l0.length : Int) 0) else (none)) = some r := h
 clear h
 by_cases c2 : 8 ≤ 281474976710656
 ·rw [if_pos c2] at H
  have c2b0 := eq_true c2
  have c2b1 : decide (8 ≤ 281474976710656) = true := decide_eq_true c2
  clear c2
  obtain ⟨y342, hy342⟩ : ∃ y_ : List Int, y_ = (List.replicate 8 0) := ⟨_, rfl⟩
  replace H : (spec_PutBits.l0 k y342 l0 (l0.length : Int) 0) = some r := by first | (rw [hy342]; with_reducible exact H) | (have H2_ := (Option.bind_some _ _).symm.trans H; rw [hy342]; with_reducible exact H2_) | (have H2_ := (Option.bind_some _ _).symm.trans H; with_reducible exact H2_) | with_reducible exact H | (rw [hy342]; exact H) | exact H
  have Ny342 := Aside0.mk hy342
  clear hy342
  have H' := Aside0.mk H
  clear H
  go_enter Tryd.func59, Tryd.ntmps59
  go_wp2_with (first | ((with_reducible refine gate_dst (N := 6) rfl ?_); refine Kd.R_make (Kd.int .u8) _ 5 rfl (N := 6) rfl 22 _ _ rfl 8 rfl rfl Tryd.underlying22 (.int .u8 0) 1 info5 rfl (by decide) (by omega) 0 (ok := fun _ => True) (okp := fun _ => True) rfl (fun _ hk => hk) trivial (by omega) (by omega) (Below.refl _ _) (Nat.le_refl _) ?_; intro v343 w3 ho4 hb hg_ hnew_; clear hg_ hnew_; (first | rw [← Ny342.out] at ho4 | (simp only [Int.reduceToNat] at ho4; rw [← Ny342.out] at ho4)); have n0_ := Aside0.mk (Kd.R_lower ho4 (below_size bB)); have n1_ := Aside0.mk (below_step bB hb); clear HB; have HO344 := n0_; have HB := n1_; clear n0_ n1_; clear hb ho4))
  go_loopg [9] k (fun kq v9 w' => ∃ (x3_1 : List Int) (x9_1 : Int), v9 = .int .i64 x9_1 ∧ Aside0 (spec_PutBits.l0 kq x3_1 l0 (l0.length : Int) x9_1 = some r) ∧ Aside0 (kq ≤ k) ∧ Aside0 (Kd.R (Kd.int .u8) 5 w' w.heap.size (fun _ => True) v343 x3_1) ∧ Aside0 (Below w.heap.size w w'))
  case atStart => exact ⟨(y342), (0), (by first | rfl | (simp; done) | (simp [*]; done) | (simp [i64_w, IntKind.wrap_u8, e256_]; done) | (simp; generalize ByteArray.toList _ = zz_; cases zz_ <;> rfl)), H', ⟨Nat.le_refl _⟩, ⟨rA HO344.out⟩, ⟨bB⟩⟩
  case round =>
   clear H'
   try clear c2
   try clear c2b0
   try clear c2b1
   try clear p2
   obtain ⟨x3_1, x9_1, rfl, HA, HK1, HO_3, HB⟩ := hrel
   cases gk with
   | zero => exact absurd HA.out (by simp [spec_PutBits.l0])
   | succ k1 =>
    have H := HA.out
    clear HA
    simp only [spec_PutBits.l0] at H
    by_cases c5 : x9_1 < (l0.length : Int)
    ·rw [if_pos c5] at H
     have c5b0 : decide (x9_1 < (l0.length : Int)) = true := decide_eq_true c5
     clear c5
     by_cases c6 : 0 ≤ x9_1
     ·rw [if_pos c6] at H
      have c6b0 : decide (0 ≤ x9_1) = true := decide_eq_true c6
      clear c6
      by_cases c7 : x9_1 < (l0.length : Int)
      ·rw [if_pos c7] at H
       have c7b0 : decide (x9_1 < (l0.length : Int)) = true := decide_eq_true c7
       clear c7
       replace H := Option.bind_eq_some_iff.mp H
       obtain ⟨t346, A80, H⟩ := H
       replace H : (if t346 = true then (if 0 ≤ (wrap64 (Int.tdiv (wrap64 ((rd l0 x9_1) - 1)) 8)) then (if (wrap64 (Int.tdiv (wrap64 ((rd l0 x9_1) - 1)) 8)) < (x3_1.length : Int) then (if 0 ≤ (Int.tmod (wrap64 ((rd l0 x9_1) - 1)) 8) then (spec_PutBits.l0 k1 (x3_1.set ((wrap64 (Int.tdiv (wrap64 ((rd l0 x9_1) - 1)) 8)) : Int).toNat (Go.bits .or .u8 (rd x3_1 (wrap64 (Int.tdiv (wrap64 ((rd l0 x9_1) - 1)) 8))) (shr .u8 128 (Int.tmod (wrap64 ((rd l0 x9_1) - 1)) 8)))) l0 (l0.length : Int) (wrap64 (x9_1 + 1))) else (none)) else (none)) else (none)) else (spec_PutBits.l0 k1 x3_1 l0 (l0.length : Int) (wrap64 (x9_1 + 1)))) = some r := H
       have A8 := Aside0.mk A80
       clear A80
       by_cases c9 : t346 = true
       ·subst c9
        have H1 : (if 0 ≤ (wrap64 (Int.tdiv (wrap64 ((rd l0 x9_1) - 1)) 8)) then (if (wrap64 (Int.tdiv (wrap64 ((rd l0 x9_1) - 1)) 8)) < (x3_1.length : Int) then (if 0 ≤ (Int.tmod (wrap64 ((rd l0 x9_1) - 1)) 8) then (spec_PutBits.l0 k1 (x3_1.set ((wrap64 (Int.tdiv (wrap64 ((rd l0 x9_1) - 1)) 8)) : Int).toNat (Go.bits .or .u8 (rd x3_1 (wrap64 (Int.tdiv (wrap64 ((rd l0 x9_1) - 1)) 8))) (shr .u8 128 (Int.tmod (wrap64 ((rd l0 x9_1) - 1)) 8)))) l0 (l0.length : Int) (wrap64 (x9_1 + 1))) else (none)) else (none)) else (none)) = some r := by rw [if_pos rfl] at H; exact H
        clear H
        have H := H1
        clear H1
        obtain ⟨ji10, hji10⟩ : ∃ j_ : Int, (wrap64 (Int.tdiv (wrap64 ((rd l0 x9_1) - 1)) 8)) = j_ := ⟨_, rfl⟩
        replace H : (if 0 ≤ (ji10) then (if (ji10) < (x3_1.length : Int) then (if 0 ≤ (Int.tmod (wrap64 ((rd l0 x9_1) - 1)) 8) then (spec_PutBits.l0 k1 (x3_1.set ((ji10) : Int).toNat (Go.bits .or .u8 (rd x3_1 (ji10)) (shr .u8 128 (Int.tmod (wrap64 ((rd l0 x9_1) - 1)) 8)))) l0 (l0.length : Int) (wrap64 (x9_1 + 1))) else (none)) else (none)) else (none)) = some r := by first | (rw [hji10] at H; exact H) | (simp only [hji10] at H ⊢; exact H)
        (try rw [hji10] at A8)
        have hji10w : (IntKind.i64.wrap (Int.tdiv (wrap64 ((rd l0 x9_1) - 1)) 8)) = ji10 := (i64_w _).trans hji10
        by_cases c11 : 0 ≤ (ji10)
        ·rw [if_pos c11] at H
         have c11b0 : decide (0 ≤ (ji10)) = true := decide_eq_true c11
         clear c11
         by_cases c12 : (ji10) < (x3_1.length : Int)
         ·rw [if_pos c12] at H
          have c12b0 : decide ((ji10) < (x3_1.length : Int)) = true := decide_eq_true c12
          clear c12
          obtain ⟨ji13, hji13⟩ : ∃ j_ : Int, (Int.tmod (wrap64 ((rd l0 x9_1) - 1)) 8) = j_ := ⟨_, rfl⟩
          replace H : (if 0 ≤ (ji13) then (spec_PutBits.l0 k1 (x3_1.set ((ji10) : Int).toNat (Go.bits .or .u8 (rd x3_1 (ji10)) (shr .u8 128 (ji13)))) l0 (l0.length : Int) (wrap64 (x9_1 + 1))) else (none)) = some r := by first | (rw [hji13] at H; exact H) | (simp only [hji13] at H ⊢; exact H)
          (try rw [hji13] at A8)
          by_cases c14 : 0 ≤ (ji13)
          ·rw [if_pos c14] at H
           have c14b0 := eq_true c14
           have c14b1 : decide (0 ≤ (ji13)) = true := decide_eq_true c14
           clear c14
           obtain ⟨ji15, hji15⟩ : ∃ j_ : Int, (shr .u8 128 (ji13)) = j_ := ⟨_, rfl⟩
           replace H : (spec_PutBits.l0 k1 (x3_1.set ((ji10) : Int).toNat (Go.bits .or .u8 (rd x3_1 (ji10)) (ji15))) l0 (l0.length : Int) (wrap64 (x9_1 + 1))) = some r := by first | (rw [hji15] at H; exact H) | (simp only [hji15] at H ⊢; exact H)
           (try rw [hji15] at A8)
           have hji15_ : (128 / 2 ^ min (ji13).toNat 8) = ji15 := hji15
           have hji15z : (ji13) ≤ 8 → (128 / 2 ^ (ji13).toNat) = ji15 := shr_small hji15
           obtain ⟨y348, hy348⟩ : ∃ y_ : List Int, y_ = (x3_1.set ((ji10) : Int).toNat (Go.bits .or .u8 (rd x3_1 (ji10)) (ji15))) := ⟨_, rfl⟩
           replace H : (spec_PutBits.l0 k1 y348 l0 (l0.length : Int) (wrap64 (x9_1 + 1))) = some r := by first | (rw [hy348]; with_reducible exact H) | (have H2_ := (Option.bind_some _ _).symm.trans H; rw [hy348]; with_reducible exact H2_) | (have H2_ := (Option.bind_some _ _).symm.trans H; with_reducible exact H2_) | with_reducible exact H | (rw [hy348]; exact H) | exact H
           have Ny348 := Aside0.mk hy348
           clear hy348
           have H' := Aside0.mk H
           clear H
           have p345 : 0 ≤ (x9_1 : Int) := of_decide_eq_true (by first | (with_reducible assumption) | assumption)
           have q345 : x9_1 < (l0.length : Int) := of_decide_eq_true (by first | (with_reducible assumption) | assumption)
           obtain ⟨ad345, e345, hx345_0⟩ := Kd.at_int HR0.out x9_1 p345 q345
           cases e345
           replace hx345_0 := (HB.out.cell (World.block_lt_of_cell? w _ hx345_0)).trans hx345_0
           replace p345 := eq_true p345
           replace q345 := eq_true q345
           try go_wp2_with (first | ((with_reducible refine gate_callee (f := 83) rfl ?_); refine goesM_ (some 14) rfl rfl Tryd.func83 (by kernel_rfl) rfl #[.int .i64 (rd l0 x9_1), .int .i64 1, .int .i64 64] rfl ?_; (with_reducible refine (spec_l01In.calls (rd l0 x9_1) 1 64 true _ A8.out).mono ?_); rintro e w' ⟨rfl, ⟨nd, rfl⟩⟩; refine ⟨_, rfl, ?_⟩; (try (rw [drewN_self wr]; generalize hq_ : World.drewN wr _ = wr; have n0_ : Aside0 (Kd.R (Kd.int .u8) 5 wr w.heap.size (fun _ => True) v343 x3_1) := ⟨by rw [← hq_]; exact (rA HO_3.out)⟩; have n1_ : Aside0 (Below w.heap.size w wr) := ⟨by rw [← hq_]; exact bB⟩; clear HO_3 HB hq_; have HO_3 := n0_; have HB := n1_; clear n0_ n1_))))
           have n0_ := Aside0.mk (Kd.R_drew HO_3.out)
           have n1_ := Aside0.mk (below_drew1 HB.out)
           clear HO_3
           clear HB
           have HO_3 := n0_
           have HB := n1_
           clear n0_ n1_
           obtain ⟨Ao18, co18, eo18⟩ := Kd.R_slice HO_3.out
           (first | subst eo18 | (injection eo18 with f1_ f2_ f3_; have f4_ := f1_.symm; have f5_ := f3_.symm; clear f1_ f2_ f3_; subst f4_; subst f5_))
           have p347 : 0 ≤ ((ji10) : Int) := of_decide_eq_true (by first | (with_reducible assumption) | assumption)
           have q347 : (ji10) < (x3_1.length : Int) := of_decide_eq_true (by first | (with_reducible assumption) | assumption)
           obtain ⟨ad347, e347, hx347_0⟩ := Kd.at_int (Kd.R_reads' HO_3.out).2.2 (ji10) p347 q347
           cases e347
           replace p347 := eq_true p347
           replace q347 := eq_true q347
           have p16 : 0 ≤ ((ji10) : Int) := of_decide_eq_true (by first | (with_reducible assumption) | assumption)
           have q16 : ((ji10) : Int) < ((x3_1.length : Int) : Int) := of_decide_eq_true (by first | (with_reducible assumption) | assumption)
           obtain ⟨go16, co16, eo16, gb16, gl16, cl16, HG16⟩ := Kd.R_form HO_3.out (by omega)
           (first | cases eo16 | (injection eo16 with ea_ en_ ec_; (first | subst ea_ | (injection ea_ with ea_; subst ea_)); subst ec_; clear en_))
           have GB16 := Aside0.mk gb16
           have GG16 := Aside0.mk HG16
           clear gb16 gl16 HG16
           (first | simp only [add_plain] at hx347_0 | skip)
           obtain ⟨hx16_0, hf16_0⟩ := Kd.R_celln 0 HO_3.out ((ji10) : Int) p16 q16
           replace p16 := eq_true p16
           replace q16 := eq_true q16
           have HP19 := Kd.R_putn HO_3.out ((ji10) : Int) (Go.bits .or .u8 (rd x3_1 (ji10)) (ji15))
           rw [← Ny348.out] at HP19
           have HQ19 := Aside0.mk HP19
           clear HP19
           refine start_ (n := 17) (S := fun w' => w'.cell? ⟨go16, ((ji10)).toNat, none⟩ = some (.int .u8 (rd x3_1 (ji10)))) (ds := [16]) #[false, false, false, false, false, false, false, false, false, false, false, false, false, false, false, false, false] (by kernel_rfl) rfl rfl (hx347_0) (fun hHeld => ?_); refine with_tabW spec_PutBits.tab6 spec_PutBits.bits6 (fun HT_ HW_ => ?_)
           generalize wr.drew = w17 at HO_3 HB GG16 HQ19 hf16_0 hx16_0 hx347_0 hHeld ⊢
           refine pure_ (i := 0) (N := some 15) (v := ?_) (a' := ?_) #[true, false, false, false, false, false, false, false, false, false, false, false, false, false, false, false, false] rfl rfl (any_of HT_.out (by kernel_rfl)) (fun _ _ _ h => h) (Or.inl ⟨by rfl, ?_⟩) ?_ ?_
           rotate_left
           ·intro w'
            go_simp
            with_reducible rfl
           rotate_left
           ·simp only [Act.put, List.setIfInBounds_toArray, List.set_cons_zero, List.set_cons_succ, i64_w, i32_w]
            rfl
           refine pure_ (i := 1) (N := some 16) (v := ?_) (a' := ?_) #[true, true, false, false, false, false, false, false, false, false, false, false, false, false, false, false, false] rfl rfl (any_of HT_.out (by kernel_rfl)) (fun _ _ _ h => h) (Or.inl ⟨by rfl, ?_⟩) ?_ ?_
           rotate_left
           ·intro w'
            go_simp
            with_reducible rfl
           rotate_left
           ·simp only [Act.put, List.setIfInBounds_toArray, List.set_cons_zero, List.set_cons_succ, i64_w, i32_w]
            rfl
           refine pure_ (i := 2) (N := some 17) (v := ?_) (a' := ?_) #[true, true, true, false, false, false, false, false, false, false, false, false, false, false, false, false, false] rfl rfl (any_of HT_.out (by kernel_rfl)) (fun _ _ _ h => h) (Or.inl ⟨by rfl, ?_⟩) ?_ ?_
           rotate_left
           ·intro w'
            go_simp
            with_reducible rfl
           rotate_left
           ·simp only [Act.put, List.setIfInBounds_toArray, List.set_cons_zero, List.set_cons_succ, i64_w, i32_w]
            rfl
           refine pure_ (i := 3) (N := some 18) (v := ?_) (a' := ?_) #[true, true, true, true, false, false, false, false, false, false, false, false, false, false, false, false, false] rfl rfl (any_of HT_.out (by kernel_rfl)) (fun _ _ _ h => h) (Or.inl ⟨by rfl, ?_⟩) ?_ ?_
           rotate_left
           ·intro w'
            go_simp
            with_reducible rfl
           rotate_left
           ·simp only [Act.put, List.setIfInBounds_toArray, List.set_cons_zero, List.set_cons_succ, i64_w, i32_w]
            rfl
           refine pure_ (i := 4) (N := some 19) (v := ?_) (a' := ?_) #[true, true, true, true, true, false, false, false, false, false, false, false, false, false, false, false, false] rfl rfl (any_of HT_.out (by kernel_rfl)) (fun _ _ _ h => h) (Or.inl ⟨by rfl, ?_⟩) ?_ ?_
           rotate_left
           ·intro w'
            go_simp
            with_reducible rfl
           rotate_left
           ·simp only [Act.put, List.setIfInBounds_toArray, List.set_cons_zero, List.set_cons_succ, i64_w, i32_w]
            rfl
           refine pure_ (i := 5) (N := some 20) (v := ?_) (a' := ?_) #[true, true, true, true, true, true, false, false, false, false, false, false, false, false, false, false, false] rfl rfl (any_of HT_.out (by kernel_rfl)) (fun _ _ _ h => h) (Or.inl ⟨by rfl, ?_⟩) ?_ ?_
           rotate_left
           ·intro w'
            go_simp
            with_reducible rfl
           rotate_left
           ·simp only [Act.put, List.setIfInBounds_toArray, List.set_cons_zero, List.set_cons_succ, i64_w, i32_w]
            rfl
           refine pure_ (i := 6) (N := some 21) (v := ?_) (a' := ?_) #[true, true, true, true, true, true, true, false, false, false, false, false, false, false, false, false, false] rfl rfl (any_of HT_.out (by kernel_rfl)) (fun _ _ _ h => h) (Or.inl ⟨by rfl, ?_⟩) ?_ ?_
           rotate_left
           ·intro w'
            go_simp
            with_reducible rfl
           rotate_left
           ·simp only [Act.put, List.setIfInBounds_toArray, List.set_cons_zero, List.set_cons_succ, i64_w, i32_w]
            rfl
           refine pure_ (i := 7) (N := some 22) (v := ?_) (a' := ?_) #[true, true, true, true, true, true, true, true, false, false, false, false, false, false, false, false, false] rfl rfl (any_of HT_.out (by kernel_rfl)) (fun _ _ _ h => h) (Or.inl ⟨by rfl, ?_⟩) ?_ ?_
           rotate_left
           ·intro w'
            go_simp
            with_reducible rfl
           rotate_left
           ·simp only [Act.put, List.setIfInBounds_toArray, List.set_cons_zero, List.set_cons_succ, i64_w, i32_w]
            rfl
           refine pure_ (i := 8) (N := some 23) (v := ?_) (a' := ?_) #[true, true, true, true, true, true, true, true, true, false, false, false, false, false, false, false, false] rfl rfl (any_of HT_.out (by kernel_rfl)) (fun _ _ _ h => h) (Or.inl ⟨by rfl, ?_⟩) ?_ ?_
           rotate_left
           ·intro w'
            go_simp
            with_reducible rfl
           rotate_left
           ·simp only [Act.put, List.setIfInBounds_toArray, List.set_cons_zero, List.set_cons_succ, i64_w, i32_w]
            rfl
           refine pure_ (i := 10) (N := some 25) (v := ?_) (a' := ?_) #[true, true, true, true, true, true, true, true, true, false, true, false, false, false, false, false, false] rfl rfl (any_of HT_.out (by kernel_rfl)) (fun _ _ _ h => h) (Or.inl ⟨by rfl, ?_⟩) ?_ ?_
           rotate_left
           ·intro w'
            go_simp
            with_reducible rfl
           rotate_left
           ·simp only [Act.put, List.setIfInBounds_toArray, List.set_cons_zero, List.set_cons_succ, i64_w, i32_w]
            rfl
           refine pure_ (i := 11) (N := some 26) (v := ?_) (a' := ?_) #[true, true, true, true, true, true, true, true, true, false, true, true, false, false, false, false, false] rfl rfl (any_of HT_.out (by kernel_rfl)) (fun _ _ _ h => h) (Or.inl ⟨by rfl, ?_⟩) ?_ ?_
           rotate_left
           ·intro w'
            go_simp
            with_reducible rfl
           rotate_left
           ·simp only [Act.put, List.setIfInBounds_toArray, List.set_cons_zero, List.set_cons_succ, i64_w, i32_w]
            rfl
           refine pure_ (i := 12) (N := some 27) (v := ?_) (a' := ?_) #[true, true, true, true, true, true, true, true, true, false, true, true, true, false, false, false, false] rfl rfl (any_of HT_.out (by kernel_rfl)) (fun _ _ _ h => h) (Or.inl ⟨by rfl, ?_⟩) ?_ ?_
           rotate_left
           ·intro w'
            go_simp
            with_reducible rfl
           rotate_left
           ·simp only [Act.put, List.setIfInBounds_toArray, List.set_cons_zero, List.set_cons_succ, i64_w, i32_w]
            rfl
           refine pure_ (i := 13) (N := some 28) (v := ?_) (a' := ?_) #[true, true, true, true, true, true, true, true, true, false, true, true, true, true, false, false, false] rfl rfl (any_of HT_.out (by kernel_rfl)) (fun _ _ _ h => h) (Or.inl ⟨by rfl, ?_⟩) ?_ ?_
           rotate_left
           ·intro w'
            go_simp
            with_reducible rfl
           rotate_left
           ·simp only [Act.put, List.setIfInBounds_toArray, List.set_cons_zero, List.set_cons_succ, i64_w, i32_w]
            rfl
           refine take_ (i := 9) (N := some 24) (v := ?_) (a' := ?_) #[true, true, true, true, true, true, true, true, true, true, true, true, true, true, false, false, false] rfl rfl (take_ofW HT_.out HW_.out (by kernel_rfl)) (fun _ _ _ h => h) (Or.inl ⟨by rfl, ?_⟩) hHeld ?_ ?_
           rotate_left
           ·intro w' s0
            go_simp
            with_reducible rfl
           rotate_left
           ·simp only [Act.put, List.setIfInBounds_toArray, List.set_cons_zero, List.set_cons_succ, i64_w, i32_w]
            rfl
           refine pure_ (i := 14) (N := some 29) (v := ?_) (a' := ?_) #[true, true, true, true, true, true, true, true, true, true, true, true, true, true, true, false, false] rfl rfl (any_of HT_.out (by kernel_rfl)) (fun _ _ _ h => h) (Or.inl ⟨by rfl, ?_⟩) ?_ ?_
           rotate_left
           ·intro w'
            go_simp
            with_reducible rfl
           rotate_left
           ·simp only [Act.put, List.setIfInBounds_toArray, List.set_cons_zero, List.set_cons_succ, i64_w, i32_w]
            rfl
           refine pure_ (i := 15) (N := some 30) (v := ?_) (a' := ?_) #[true, true, true, true, true, true, true, true, true, true, true, true, true, true, true, true, false] rfl rfl (any_of HT_.out (by kernel_rfl)) (fun _ _ _ h => h) (Or.inl ⟨by rfl, ?_⟩) ?_ ?_
           rotate_left
           ·intro w'
            go_simp
            with_reducible rfl
           rotate_left
           ·simp only [Act.put, List.setIfInBounds_toArray, List.set_cons_zero, List.set_cons_succ, i64_w, i32_w]
            rfl
           refine last_ (i := 16) (N := none) #[true, true, true, true, true, true, true, true, true, true, true, true, true, true, true, true, true] rfl rfl (one_of HT_.out (by kernel_rfl)) (by decide) (fun K hK => ?_)
           refine skip_ (w1 := ?_) (by rfl) rfl ?_ ?_
           rotate_left
           ·go_simp
            rfl
           refine hK.out _ _ ?_
           clear hK K
           refine done_ (done_of HT_.out (by kernel_rfl)) ?_
           try go_wp2
           go_roundg k1
           case measure => have := HK1.out; omega
           case rel => exact ⟨(y348), (wrap64 (x9_1 + 1)), (by first | rfl | (simp; done) | (simp [*]; done) | (simp [i64_w, IntKind.wrap_u8, e256_]; done) | (simp; generalize ByteArray.toList _ = zz_; cases zz_ <;> rfl)), H', ⟨by have := HK1.out; omega⟩, ⟨rA HQ19.out⟩, ⟨by repeat (first | (with_reducible first | exact HB.out | apply below_alloc | apply pw_below_drewN | apply below_drew1 | refine below_set ?_ GB16.out) | exact HB.out)⟩⟩
          ·rw [if_neg c14] at H
           exact absurd H (by simp)
         ·rw [if_neg c12] at H
          exact absurd H (by simp)
        ·rw [if_neg c11] at H
         exact absurd H (by simp)
       ·replace c9 := Bool.eq_false_iff.mpr c9
        subst c9
        have H1 : (spec_PutBits.l0 k1 x3_1 l0 (l0.length : Int) (wrap64 (x9_1 + 1))) = some r := by rw [if_neg (show ¬ (false = true) by decide)] at H; exact H
        clear H
        have H := H1
        clear H1
        have H' := Aside0.mk H
        clear H
        have p345 : 0 ≤ (x9_1 : Int) := of_decide_eq_true (by first | (with_reducible assumption) | assumption)
        have q345 : x9_1 < (l0.length : Int) := of_decide_eq_true (by first | (with_reducible assumption) | assumption)
        obtain ⟨ad345, e345, hx345_0⟩ := Kd.at_int HR0.out x9_1 p345 q345
        cases e345
        replace hx345_0 := (HB.out.cell (World.block_lt_of_cell? w _ hx345_0)).trans hx345_0
        replace p345 := eq_true p345
        replace q345 := eq_true q345
        go_wp2_with (first | ((with_reducible refine gate_callee (f := 83) rfl ?_); refine goesM_ (some 14) rfl rfl Tryd.func83 (by kernel_rfl) rfl #[.int .i64 (rd l0 x9_1), .int .i64 1, .int .i64 64] rfl ?_; (with_reducible refine (spec_l01In.calls (rd l0 x9_1) 1 64 false _ A8.out).mono ?_); rintro e w' ⟨rfl, ⟨nd, rfl⟩⟩; refine ⟨_, rfl, ?_⟩))
        go_roundg k1
        case measure => have := HK1.out; omega
        case rel => exact ⟨(x3_1), (wrap64 (x9_1 + 1)), (by first | rfl | (simp; done) | (simp [*]; done) | (simp [i64_w, IntKind.wrap_u8, e256_]; done) | (simp; generalize ByteArray.toList _ = zz_; cases zz_ <;> rfl)), H', ⟨by have := HK1.out; omega⟩, ⟨rA HO_3.out⟩, ⟨bB⟩⟩
      ·rw [if_neg c7] at H
       exact absurd H (by simp)
     ·rw [if_neg c6] at H
      exact absurd H (by simp)
    ·rw [if_neg c5] at H
     have c5b0 : decide (x9_1 < (l0.length : Int)) = false := decide_eq_false c5
     clear c5
     obtain rfl := Option.some.inj H
     go_wp2
     go_ret
     exact ⟨_, by first | rfl | (simp [errW_none, errW_some] <;> rfl) | (simp [*, errW_none, errW_some] <;> rfl), rA HO_3.out, bB⟩
 ·rw [if_neg c2] at H
  exact absurd H (by simp)
end Go.Proofs.YtfiieppnpmodoaaDoor.Q
end
section
namespace Go.Proofs.YtfiieppnpmodoaaDoor.Q
open Go.RowKit Go.Proofs.YtfiieppnpmodoaaDoorW.PrintWords Go.Proofs.YtfiieppnpmodoaaDoorW.PrintLast Go.Proofs.YtfiieppnpmodoaaDoorW.PrintMore
set_option linter.unusedVariables false
set_option linter.unusedSimpArgs false
def spec_PutField.f (a0 : Int) (a1 : ByteArray) : Option (List Int × Bool) := if a1.size ≤ 140737488351232 then some (putField a0 (bytesOf a1)) else none
theorem sput_info : (Tryd.prog.info? 5).map (fun i => (i.zero, i.size, i.bytes)) = some (some (.int .u8 0), 1, 1) := by kernel_rfl
set_option maxHeartbeats 8000000 in
set_option maxRecDepth 100000 in
theorem sput_no (a0 : Int) (a1 : ByteArray) (w : World) (hs : a1.size ≤ 140737488351232) (h : fieldOk a0 (bytesOf a1) = false) :
    Calls Tryd.prog 21 #[.int .i64 a0, .string a1] w fun e w' => ∃ v, e = .returned (.tuple #[v, .bool false]) ∧ Kd.R (Kd.int .u8) 5 w' w.heap.size (fun _ => True) v [] ∧ Below w.heap.size w w' := by
  have HF := Aside0.mk (spec_FieldOk_at a0 a1 hs (a1.size + 1000) (by omega))
  rw [h] at HF
  have HB := Aside0.mk (Below.refl w.heap.size w)
  go_enter Tryd.func21, Tryd.ntmps21
  go_wp2_with (go_at_call 50; (with_reducible refine (spec_FieldOk.calls _ a0 a1 false _ HF.out).mono ?_); rintro e w1 ⟨rfl, hd_⟩; have hb := hd_.below; have n0_ := Aside0.mk (below_step HB.out hb); clear HB; have HB := n0_; clear n0_; clear hd_ hb)
  go_ret2
  exact ⟨_, rfl, Kd.R_nil _ _ _ _ _, HB.out⟩
set_option maxHeartbeats 8000000 in
set_option maxRecDepth 100000 in
theorem sput_num (a0 : Int) (a1 : ByteArray) (w : World) (hs : a1.size ≤ 38) (h : fieldOk a0 (bytesOf a1) = true) (hk : kindOf a0 = 1) (hd : putBcd (bytesOf a1) = (bcd (evened (bytesOf a1)), true)) (hl2 : (bcd (evened (bytesOf a1))).length ≤ 100) :
    Calls Tryd.prog 21 #[.int .i64 a0, .string a1] w fun e w' => ∃ v, e = .returned (.tuple #[v, .bool true]) ∧ Kd.R (Kd.int .u8) 5 w' w.heap.size (fun _ => True) v (bcd (evened (bytesOf a1))) ∧ Below w.heap.size w w' := by
  have HF := Aside0.mk (spec_FieldOk_at a0 a1 (by omega) (a1.size + 1000) (by omega))
  have HK := Aside0.mk (spec_FieldKind_at a0 (a1.size + 1000) (by omega))
  have HW := Aside0.mk (spec_l03Width_at 1 (a1.size + 1000) (by omega))
  rw [h] at HF
  rw [hk] at HK
  have hw_ : (if (1 : Int) = 3 ∨ (1 : Int) = 4 then (2 : Int) else if (1 : Int) = 5 then 3 else 0) = 0 := by decide
  rw [hw_] at HW
  have HD := Aside0.mk (spec_PutBcd_at a1 (by omega) (a1.size + 1000) (by omega))
  rw [hd] at HD
  clear hd
  generalize bcd (evened (bytesOf a1)) = B at HD hl2 ⊢
  clear h hk hw_
  have HB := Aside0.mk (Below.refl w.heap.size w)
  go_enter Tryd.func21, Tryd.ntmps21
  go_wp2_with (first | (go_at_call 50; (with_reducible refine (spec_FieldOk.calls _ a0 a1 true _ HF.out).mono ?_); rintro e w1 ⟨rfl, hd_⟩; have hb := hd_.below; have n0_ := Aside0.mk (below_step HB.out hb); clear HB; have HB := n0_; clear n0_; clear hd_ hb) | (go_at_call 51; (with_reducible refine (spec_FieldKind.calls _ a0 1 _ HK.out).mono ?_); rintro e w1 ⟨rfl, hd_⟩; have hb := hd_.below; have n0_ := Aside0.mk (below_step HB.out hb); clear HB; have HB := n0_; clear n0_; clear hd_ hb) | ((with_reducible refine gate_dst (N := 16) rfl ?_); refine Kd.R_lit (Kd.int .u8) _ 5 ?hg (N := 16) ?hd (xs := ([] : List Int)) (inner := []) (ok := fun _ => True) (okp := fun _ => True) ?hr ?hp (fun _ hk => hk) trivial (Below.refl _ _) (Nat.le_refl _) (by simp) ?_; (case hd => rfl); (case hg => rfl); (case hr => first | (go_simp; done) | (go_simp; rfl)); (case hp => exact (Reps.none _ _)); intro vb w2 hr_ hb hg_ hnew_; clear hg_ hnew_; have HR := Aside0.mk (Kd.R_lower hr_ HB.out.size); have n0_ := Aside0.mk (below_step HB.out hb); clear HB; have HB := n0_; clear n0_; clear hr_ hb) | (go_at_call 52; (with_reducible refine (spec_l03Width.calls _ 1 0 _ HW.out).mono ?_); rintro e w1 ⟨rfl, hd_⟩; have hb := hd_.below; have n0_ := Aside0.mk (Kd.R_below HR.out hb); have n1_ := Aside0.mk (below_step HB.out hb); clear HR; clear HB; have HR := n0_; have HB := n1_; clear n0_ n1_; clear hd_ hb) | (go_at_call 54; (with_reducible refine (spec_PutBcd.calls _ a1 B true _ HD.out).mono ?_); rintro e w1 ⟨vd, rfl, hr_, hb⟩; obtain ⟨Ad, cd, rfl, hle_, hc_⟩ := Kd.R_reads hr_; have HC := Aside0.mk hc_; have n0_ := Aside0.mk (Kd.R_below HR.out hb); have n1_ := Aside0.mk (below_step HB.out hb); clear HR; clear HB; have HR := n0_; have HB := n1_; clear n0_ n1_; clear hr_ hb hle_ hc_) | ((with_reducible refine gate_builtin (b := .append) (xs := #[.tmp 39, .tmp 40]) rfl ?_); at_builtin; refine Kd.R_append_row (w0 := w) (Value.int .u8) (0 : Int) (h1 := fun _ => rfl) w.heap.size rfl (.tmp 39) (.tmp 40) 22 5 (.int .u8 0) 1 rfl Tryd.underlying22 sput_info rfl (by decide) vb ([] : List Int) B _ _ _ (fun _ => True) rfl rfl (fun _ _ => trivial) HR.out HC.out HB.out HB.out.size (by first | omega | (simp; omega)) ?_; intro v7 w7 hr7 hb7 hg7 hat7; have HR7 := Aside0.mk hr7; have HB7 := Aside0.mk hb7; clear hr7 hb7 hg7 hat7))
  go_ret2
  exact ⟨_, rfl, by first | exact HR7.out | simpa using HR7.out, HB7.out⟩
set_option maxHeartbeats 8000000 in
set_option maxRecDepth 100000 in
theorem sput_text (a0 : Int) (a1 : ByteArray) (w : World) (hs : a1.size ≤ 100) (h : fieldOk a0 (bytesOf a1) = true) (hk : kindOf a0 = 2) :
    Calls Tryd.prog 21 #[.int .i64 a0, .string a1] w fun e w' => ∃ v, e = .returned (.tuple #[v, .bool true]) ∧ Kd.R (Kd.int .u8) 5 w' w.heap.size (fun _ => True) v (bytesOf a1) ∧ Below w.heap.size w w' := by
  have HF := Aside0.mk (spec_FieldOk_at a0 a1 (by omega) (a1.size + 1000) (by omega))
  have HK := Aside0.mk (spec_FieldKind_at a0 (a1.size + 1000) (by omega))
  have HW := Aside0.mk (spec_l03Width_at 2 (a1.size + 1000) (by omega))
  rw [h] at HF
  rw [hk] at HK
  have hw_ : (if (2 : Int) = 3 ∨ (2 : Int) = 4 then (2 : Int) else if (2 : Int) = 5 then 3 else 0) = 0 := by decide
  rw [hw_] at HW
  have hlen := bytesOf_length a1
  generalize hB : bytesOf a1 = B at hlen ⊢
  clear h hk hw_
  have HB := Aside0.mk (Below.refl w.heap.size w)
  go_enter Tryd.func21, Tryd.ntmps21
  go_wp2_with (first | (go_at_call 50; (with_reducible refine (spec_FieldOk.calls _ a0 a1 true _ HF.out).mono ?_); rintro e w1 ⟨rfl, hd_⟩; have hb := hd_.below; have n0_ := Aside0.mk (below_step HB.out hb); clear HB; have HB := n0_; clear n0_; clear hd_ hb) | (go_at_call 51; (with_reducible refine (spec_FieldKind.calls _ a0 2 _ HK.out).mono ?_); rintro e w1 ⟨rfl, hd_⟩; have hb := hd_.below; have n0_ := Aside0.mk (below_step HB.out hb); clear HB; have HB := n0_; clear n0_; clear hd_ hb) | ((with_reducible refine gate_dst (N := 16) rfl ?_); refine Kd.R_lit (Kd.int .u8) _ 5 ?hg (N := 16) ?hd (xs := ([] : List Int)) (inner := []) (ok := fun _ => True) (okp := fun _ => True) ?hr ?hp (fun _ hk => hk) trivial (Below.refl _ _) (Nat.le_refl _) (by simp) ?_; (case hd => rfl); (case hg => rfl); (case hr => first | (go_simp; done) | (go_simp; rfl)); (case hp => exact (Reps.none _ _)); intro vb w2 hr_ hb hg_ hnew_; clear hg_ hnew_; have HR := Aside0.mk (Kd.R_lower hr_ HB.out.size); have n0_ := Aside0.mk (below_step HB.out hb); clear HB; have HB := n0_; clear n0_; clear hr_ hb) | (go_at_call 52; (with_reducible refine (spec_l03Width.calls _ 2 0 _ HW.out).mono ?_); rintro e w1 ⟨rfl, hd_⟩; have hb := hd_.below; have n0_ := Aside0.mk (Kd.R_below HR.out hb); have n1_ := Aside0.mk (below_step HB.out hb); clear HR; clear HB; have HR := n0_; have HB := n1_; clear n0_ n1_; clear hd_ hb) | ((with_reducible refine gate_dst (N := 44) rfl ?_); refine conv_event (src := 9) (dst := 22) (e := 5) (x := .tmp 43) (s := a1) rfl rfl rfl Tryd.underlying9 Tryd.underlying22 Tryd.underlying5 (by unfold maxLen; omega) ?_; intro g c w2 hg hr_ hb; have HC := Aside0.mk (RB_C hr_); rw [hB] at HC; have n0_ := Aside0.mk (Kd.R_below HR.out hb); have n1_ := Aside0.mk (below_step HB.out hb); clear HR; clear HB; have HR := n0_; have HB := n1_; clear n0_ n1_; clear hg hr_ hb) | ((with_reducible refine gate_builtin (b := .append) (xs := #[.tmp 42, .tmp 44]) rfl ?_); at_builtin; refine Kd.R_append_row (w0 := w) (Value.int .u8) (0 : Int) (h1 := fun _ => rfl) w.heap.size rfl (.tmp 42) (.tmp 44) 22 5 (.int .u8 0) 1 rfl Tryd.underlying22 sput_info rfl (by decide) vb ([] : List Int) B _ _ _ (fun _ => True) rfl rfl (fun _ _ => trivial) HR.out (by rw [← hlen]; exact HC.out) HB.out HB.out.size (by first | omega | (simp; omega)) ?_; intro v7 w7 hr7 hb7 hg7 hat7; have HR7 := Aside0.mk hr7; have HB7 := Aside0.mk hb7; clear hr7 hb7 hg7 hat7))
  go_ret2
  exact ⟨_, rfl, by first | exact HR7.out | simpa using HR7.out, HB7.out⟩
set_option maxHeartbeats 8000000 in
set_option maxRecDepth 100000 in
theorem sput_numVar (a0 : Int) (a1 : ByteArray) (w : World) (hs : a1.size ≤ 38) (h : fieldOk a0 (bytesOf a1) = true) (hk : kindOf a0 = 3) (hd : putBcd (bytesOf a1) = (bcd (evened (bytesOf a1)), true)) (hl2 : (bcd (evened (bytesOf a1))).length ≤ 100) (H : List Int) (b : Bool) (hH : putLen (a1.size : Int) 2 = (H, b)) (hl : H.length ≤ 100) :
    Calls Tryd.prog 21 #[.int .i64 a0, .string a1] w fun e w' => ∃ v, e = .returned (.tuple #[v, .bool true]) ∧ Kd.R (Kd.int .u8) 5 w' w.heap.size (fun _ => True) v (H ++ bcd (evened (bytesOf a1))) ∧ Below w.heap.size w w' := by
  have HF := Aside0.mk (spec_FieldOk_at a0 a1 (by omega) (a1.size + 1000) (by omega))
  have HK := Aside0.mk (spec_FieldKind_at a0 (a1.size + 1000) (by omega))
  have HW := Aside0.mk (spec_l03Width_at 3 (a1.size + 1000) (by omega))
  rw [h] at HF
  rw [hk] at HK
  have hw_ : (if (3 : Int) = 3 ∨ (3 : Int) = 4 then (2 : Int) else if (3 : Int) = 5 then 3 else 0) = 2 := by decide
  rw [hw_] at HW
  have HD := Aside0.mk (spec_PutBcd_at a1 (by omega) (a1.size + 1000) (by omega))
  rw [hd] at HD
  clear hd
  generalize bcd (evened (bytesOf a1)) = B at HD hl2 ⊢
  have HL := Aside0.mk (spec_PutLen_at (a1.size : Int) 2 (by omega) (a1.size + 1000) (by omega))
  rw [hH] at HL
  clear hH
  clear h hk hw_
  have HB := Aside0.mk (Below.refl w.heap.size w)
  go_enter Tryd.func21, Tryd.ntmps21
  go_wp2_with (first | (go_at_call 50; (with_reducible refine (spec_FieldOk.calls _ a0 a1 true _ HF.out).mono ?_); rintro e w1 ⟨rfl, hd_⟩; have hb := hd_.below; have n0_ := Aside0.mk (below_step HB.out hb); clear HB; have HB := n0_; clear n0_; clear hd_ hb) | (go_at_call 51; (with_reducible refine (spec_FieldKind.calls _ a0 3 _ HK.out).mono ?_); rintro e w1 ⟨rfl, hd_⟩; have hb := hd_.below; have n0_ := Aside0.mk (below_step HB.out hb); clear HB; have HB := n0_; clear n0_; clear hd_ hb) | ((with_reducible refine gate_dst (N := 16) rfl ?_); refine Kd.R_lit (Kd.int .u8) _ 5 ?hg (N := 16) ?hd (xs := ([] : List Int)) (inner := []) (ok := fun _ => True) (okp := fun _ => True) ?hr ?hp (fun _ hk => hk) trivial (Below.refl _ _) (Nat.le_refl _) (by simp) ?_; (case hd => rfl); (case hg => rfl); (case hr => first | (go_simp; done) | (go_simp; rfl)); (case hp => exact (Reps.none _ _)); intro vb w2 hr_ hb hg_ hnew_; clear hg_ hnew_; have HR := Aside0.mk (Kd.R_lower hr_ HB.out.size); have n0_ := Aside0.mk (below_step HB.out hb); clear HB; have HB := n0_; clear n0_; clear hr_ hb) | (go_at_call 52; (with_reducible refine (spec_l03Width.calls _ 3 2 _ HW.out).mono ?_); rintro e w1 ⟨rfl, hd_⟩; have hb := hd_.below; have n0_ := Aside0.mk (Kd.R_below HR.out hb); have n1_ := Aside0.mk (below_step HB.out hb); clear HR; clear HB; have HR := n0_; have HB := n1_; clear n0_ n1_; clear hd_ hb) | (go_at_call 53; (with_reducible refine (spec_PutLen.calls _ (a1.size : Int) 2 H b _ HL.out).mono ?_); rintro e w1 ⟨vb, rfl, hr_, hb⟩; clear HR; have HR := Aside0.mk (Kd.R_lower hr_ HB.out.size); have n0_ := Aside0.mk (below_step HB.out hb); clear HB; have HB := n0_; clear n0_; clear hr_ hb) | (go_at_call 54; (with_reducible refine (spec_PutBcd.calls _ a1 B true _ HD.out).mono ?_); rintro e w1 ⟨vd, rfl, hr_, hb⟩; obtain ⟨Ad, cd, rfl, hle_, hc_⟩ := Kd.R_reads hr_; have HC := Aside0.mk hc_; have n0_ := Aside0.mk (Kd.R_below HR.out hb); have n1_ := Aside0.mk (below_step HB.out hb); clear HR; clear HB; have HR := n0_; have HB := n1_; clear n0_ n1_; clear hr_ hb hle_ hc_) | ((with_reducible refine gate_builtin (b := .append) (xs := #[.tmp 39, .tmp 40]) rfl ?_); at_builtin; refine Kd.R_append_row (w0 := w) (Value.int .u8) (0 : Int) (h1 := fun _ => rfl) w.heap.size rfl (.tmp 39) (.tmp 40) 22 5 (.int .u8 0) 1 rfl Tryd.underlying22 sput_info rfl (by decide) vb H B _ _ _ (fun _ => True) rfl rfl (fun _ _ => trivial) HR.out HC.out HB.out HB.out.size (by first | omega | (simp; omega)) ?_; intro v7 w7 hr7 hb7 hg7 hat7; have HR7 := Aside0.mk hr7; have HB7 := Aside0.mk hb7; clear hr7 hb7 hg7 hat7))
  go_ret2
  exact ⟨_, rfl, HR7.out, HB7.out⟩
set_option maxHeartbeats 8000000 in
set_option maxRecDepth 100000 in
theorem sput_textVar (a0 : Int) (a1 : ByteArray) (w : World) (hs : a1.size ≤ 100) (h : fieldOk a0 (bytesOf a1) = true) (hk : kindOf a0 = 4) (H : List Int) (b : Bool) (hH : putLen (a1.size : Int) 2 = (H, b)) (hl : H.length ≤ 100) :
    Calls Tryd.prog 21 #[.int .i64 a0, .string a1] w fun e w' => ∃ v, e = .returned (.tuple #[v, .bool true]) ∧ Kd.R (Kd.int .u8) 5 w' w.heap.size (fun _ => True) v (H ++ bytesOf a1) ∧ Below w.heap.size w w' := by
  have HF := Aside0.mk (spec_FieldOk_at a0 a1 (by omega) (a1.size + 1000) (by omega))
  have HK := Aside0.mk (spec_FieldKind_at a0 (a1.size + 1000) (by omega))
  have HW := Aside0.mk (spec_l03Width_at 4 (a1.size + 1000) (by omega))
  rw [h] at HF
  rw [hk] at HK
  have hw_ : (if (4 : Int) = 3 ∨ (4 : Int) = 4 then (2 : Int) else if (4 : Int) = 5 then 3 else 0) = 2 := by decide
  rw [hw_] at HW
  have hlen := bytesOf_length a1
  generalize hB : bytesOf a1 = B at hlen ⊢
  have HL := Aside0.mk (spec_PutLen_at (a1.size : Int) 2 (by omega) (a1.size + 1000) (by omega))
  rw [hH] at HL
  clear hH
  clear h hk hw_
  have HB := Aside0.mk (Below.refl w.heap.size w)
  go_enter Tryd.func21, Tryd.ntmps21
  go_wp2_with (first | (go_at_call 50; (with_reducible refine (spec_FieldOk.calls _ a0 a1 true _ HF.out).mono ?_); rintro e w1 ⟨rfl, hd_⟩; have hb := hd_.below; have n0_ := Aside0.mk (below_step HB.out hb); clear HB; have HB := n0_; clear n0_; clear hd_ hb) | (go_at_call 51; (with_reducible refine (spec_FieldKind.calls _ a0 4 _ HK.out).mono ?_); rintro e w1 ⟨rfl, hd_⟩; have hb := hd_.below; have n0_ := Aside0.mk (below_step HB.out hb); clear HB; have HB := n0_; clear n0_; clear hd_ hb) | ((with_reducible refine gate_dst (N := 16) rfl ?_); refine Kd.R_lit (Kd.int .u8) _ 5 ?hg (N := 16) ?hd (xs := ([] : List Int)) (inner := []) (ok := fun _ => True) (okp := fun _ => True) ?hr ?hp (fun _ hk => hk) trivial (Below.refl _ _) (Nat.le_refl _) (by simp) ?_; (case hd => rfl); (case hg => rfl); (case hr => first | (go_simp; done) | (go_simp; rfl)); (case hp => exact (Reps.none _ _)); intro vb w2 hr_ hb hg_ hnew_; clear hg_ hnew_; have HR := Aside0.mk (Kd.R_lower hr_ HB.out.size); have n0_ := Aside0.mk (below_step HB.out hb); clear HB; have HB := n0_; clear n0_; clear hr_ hb) | (go_at_call 52; (with_reducible refine (spec_l03Width.calls _ 4 2 _ HW.out).mono ?_); rintro e w1 ⟨rfl, hd_⟩; have hb := hd_.below; have n0_ := Aside0.mk (Kd.R_below HR.out hb); have n1_ := Aside0.mk (below_step HB.out hb); clear HR; clear HB; have HR := n0_; have HB := n1_; clear n0_ n1_; clear hd_ hb) | (go_at_call 53; (with_reducible refine (spec_PutLen.calls _ (a1.size : Int) 2 H b _ HL.out).mono ?_); rintro e w1 ⟨vb, rfl, hr_, hb⟩; clear HR; have HR := Aside0.mk (Kd.R_lower hr_ HB.out.size); have n0_ := Aside0.mk (below_step HB.out hb); clear HB; have HB := n0_; clear n0_; clear hr_ hb) | ((with_reducible refine gate_dst (N := 44) rfl ?_); refine conv_event (src := 9) (dst := 22) (e := 5) (x := .tmp 43) (s := a1) rfl rfl rfl Tryd.underlying9 Tryd.underlying22 Tryd.underlying5 (by unfold maxLen; omega) ?_; intro g c w2 hg hr_ hb; have HC := Aside0.mk (RB_C hr_); rw [hB] at HC; have n0_ := Aside0.mk (Kd.R_below HR.out hb); have n1_ := Aside0.mk (below_step HB.out hb); clear HR; clear HB; have HR := n0_; have HB := n1_; clear n0_ n1_; clear hg hr_ hb) | ((with_reducible refine gate_builtin (b := .append) (xs := #[.tmp 42, .tmp 44]) rfl ?_); at_builtin; refine Kd.R_append_row (w0 := w) (Value.int .u8) (0 : Int) (h1 := fun _ => rfl) w.heap.size rfl (.tmp 42) (.tmp 44) 22 5 (.int .u8 0) 1 rfl Tryd.underlying22 sput_info rfl (by decide) vb H B _ _ _ (fun _ => True) rfl rfl (fun _ _ => trivial) HR.out (by rw [← hlen]; exact HC.out) HB.out HB.out.size (by first | omega | (simp; omega)) ?_; intro v7 w7 hr7 hb7 hg7 hat7; have HR7 := Aside0.mk hr7; have HB7 := Aside0.mk hb7; clear hr7 hb7 hg7 hat7))
  go_ret2
  exact ⟨_, rfl, HR7.out, HB7.out⟩
set_option maxHeartbeats 8000000 in
set_option maxRecDepth 100000 in
theorem sput_textLong (a0 : Int) (a1 : ByteArray) (w : World) (hs : a1.size ≤ 100) (h : fieldOk a0 (bytesOf a1) = true) (hk : kindOf a0 = 5) (H : List Int) (b : Bool) (hH : putLen (a1.size : Int) 3 = (H, b)) (hl : H.length ≤ 100) :
    Calls Tryd.prog 21 #[.int .i64 a0, .string a1] w fun e w' => ∃ v, e = .returned (.tuple #[v, .bool true]) ∧ Kd.R (Kd.int .u8) 5 w' w.heap.size (fun _ => True) v (H ++ bytesOf a1) ∧ Below w.heap.size w w' := by
  have HF := Aside0.mk (spec_FieldOk_at a0 a1 (by omega) (a1.size + 1000) (by omega))
  have HK := Aside0.mk (spec_FieldKind_at a0 (a1.size + 1000) (by omega))
  have HW := Aside0.mk (spec_l03Width_at 5 (a1.size + 1000) (by omega))
  rw [h] at HF
  rw [hk] at HK
  have hw_ : (if (5 : Int) = 3 ∨ (5 : Int) = 4 then (2 : Int) else if (5 : Int) = 5 then 3 else 0) = 3 := by decide
  rw [hw_] at HW
  have hlen := bytesOf_length a1
  generalize hB : bytesOf a1 = B at hlen ⊢
  have HL := Aside0.mk (spec_PutLen_at (a1.size : Int) 3 (by omega) (a1.size + 1000) (by omega))
  rw [hH] at HL
  clear hH
  clear h hk hw_
  have HB := Aside0.mk (Below.refl w.heap.size w)
  go_enter Tryd.func21, Tryd.ntmps21
  go_wp2_with (first | (go_at_call 50; (with_reducible refine (spec_FieldOk.calls _ a0 a1 true _ HF.out).mono ?_); rintro e w1 ⟨rfl, hd_⟩; have hb := hd_.below; have n0_ := Aside0.mk (below_step HB.out hb); clear HB; have HB := n0_; clear n0_; clear hd_ hb) | (go_at_call 51; (with_reducible refine (spec_FieldKind.calls _ a0 5 _ HK.out).mono ?_); rintro e w1 ⟨rfl, hd_⟩; have hb := hd_.below; have n0_ := Aside0.mk (below_step HB.out hb); clear HB; have HB := n0_; clear n0_; clear hd_ hb) | ((with_reducible refine gate_dst (N := 16) rfl ?_); refine Kd.R_lit (Kd.int .u8) _ 5 ?hg (N := 16) ?hd (xs := ([] : List Int)) (inner := []) (ok := fun _ => True) (okp := fun _ => True) ?hr ?hp (fun _ hk => hk) trivial (Below.refl _ _) (Nat.le_refl _) (by simp) ?_; (case hd => rfl); (case hg => rfl); (case hr => first | (go_simp; done) | (go_simp; rfl)); (case hp => exact (Reps.none _ _)); intro vb w2 hr_ hb hg_ hnew_; clear hg_ hnew_; have HR := Aside0.mk (Kd.R_lower hr_ HB.out.size); have n0_ := Aside0.mk (below_step HB.out hb); clear HB; have HB := n0_; clear n0_; clear hr_ hb) | (go_at_call 52; (with_reducible refine (spec_l03Width.calls _ 5 3 _ HW.out).mono ?_); rintro e w1 ⟨rfl, hd_⟩; have hb := hd_.below; have n0_ := Aside0.mk (Kd.R_below HR.out hb); have n1_ := Aside0.mk (below_step HB.out hb); clear HR; clear HB; have HR := n0_; have HB := n1_; clear n0_ n1_; clear hd_ hb) | (go_at_call 53; (with_reducible refine (spec_PutLen.calls _ (a1.size : Int) 3 H b _ HL.out).mono ?_); rintro e w1 ⟨vb, rfl, hr_, hb⟩; clear HR; have HR := Aside0.mk (Kd.R_lower hr_ HB.out.size); have n0_ := Aside0.mk (below_step HB.out hb); clear HB; have HB := n0_; clear n0_; clear hr_ hb) | ((with_reducible refine gate_dst (N := 44) rfl ?_); refine conv_event (src := 9) (dst := 22) (e := 5) (x := .tmp 43) (s := a1) rfl rfl rfl Tryd.underlying9 Tryd.underlying22 Tryd.underlying5 (by unfold maxLen; omega) ?_; intro g c w2 hg hr_ hb; have HC := Aside0.mk (RB_C hr_); rw [hB] at HC; have n0_ := Aside0.mk (Kd.R_below HR.out hb); have n1_ := Aside0.mk (below_step HB.out hb); clear HR; clear HB; have HR := n0_; have HB := n1_; clear n0_ n1_; clear hg hr_ hb) | ((with_reducible refine gate_builtin (b := .append) (xs := #[.tmp 42, .tmp 44]) rfl ?_); at_builtin; refine Kd.R_append_row (w0 := w) (Value.int .u8) (0 : Int) (h1 := fun _ => rfl) w.heap.size rfl (.tmp 42) (.tmp 44) 22 5 (.int .u8 0) 1 rfl Tryd.underlying22 sput_info rfl (by decide) vb H B _ _ _ (fun _ => True) rfl rfl (fun _ _ => trivial) HR.out (by rw [← hlen]; exact HC.out) HB.out HB.out.size (by first | omega | (simp; omega)) ?_; intro v7 w7 hr7 hb7 hg7 hat7; have HR7 := Aside0.mk hr7; have HB7 := Aside0.mk hb7; clear hr7 hb7 hg7 hat7))
  go_ret2
  exact ⟨_, rfl, HR7.out, HB7.out⟩
theorem spec_PutField.calls (a0 : Int) (a1 : ByteArray) (r1 : List Int) (r2 : Bool) (w : World) (h : spec_PutField.f a0 a1 = some (r1, r2)) :
    Calls Tryd.prog 21 #[.int .i64 a0, .string a1] w fun e w' => ∃ v0_ : Value, e = .returned (.tuple #[v0_, .bool r2]) ∧ Kd.R (Kd.int .u8) 5 w' w.heap.size (fun _ => True) v0_ r1 ∧ Below w.heap.size w w' := by
  unfold spec_PutField.f at h
  by_cases hs : a1.size ≤ 140737488351232
  · rw [if_pos hs] at h
    have e0 := Option.some.inj h
    cases hf : fieldOk a0 (bytesOf a1) with
    | false =>
      have e : putField a0 (bytesOf a1) = ([], false) := by unfold putField; rw [hf]; rfl
      rw [e] at e0
      simp only [Prod.mk.injEq] at e0
      obtain ⟨rfl, rfl⟩ := e0
      exact sput_no a0 a1 w hs hf
    | true =>
      have hl := fieldOk_len a0 _ hf
      rw [bytesOf_length] at hl
      have hz := sizeOf_range a0
      have kr := kind_range a0
      have e : putField a0 (bytesOf a1) = (pfHead a0 a1.size ++ pfBody a0 (bytesOf a1), true) := by unfold putField; rw [if_pos hf, bytesOf_length]
      rw [e] at e0
      simp only [Prod.mk.injEq] at e0
      obtain ⟨rfl, rfl⟩ := e0
      have hp := putLen_short (a1.size : Int) (lenWidth a0)
      by_cases hd : inDigits a0 = true
      · obtain ⟨d1, d2, d3⟩ := fieldOk_digits a0 _ hf hd
        have hbcd := putBcd_digits _ d1 d2 d3
        have hbl := bcd_length _ _ (evened_length (bytesOf a1))
        rw [bytesOf_length] at d3
        rw [bytesOf_length] at hbl
        have eb : pfBody a0 (bytesOf a1) = bcd (evened (bytesOf a1)) := by unfold pfBody; rw [if_pos hd]
        rw [eb]
        rcases of_decide_eq_true hd with k | k
        · have eh : pfHead a0 a1.size = [] := by unfold pfHead prefixed; rw [if_neg (by simp [k])]
          rw [eh, List.nil_append]
          exact sput_num a0 a1 w d3 hf k hbcd (by omega)
        · have ew : lenWidth a0 = 2 := by unfold lenWidth; rw [if_neg (by omega)]
          have eh : pfHead a0 a1.size = (putLen (a1.size : Int) 2).1 := by unfold pfHead prefixed; rw [if_pos (by simp [k]), ew]
          rw [eh]
          rw [ew] at hp
          exact sput_numVar a0 a1 w d3 hf k hbcd (by omega) _ _ rfl (by omega)
      · have hd' := of_decide_eq_false (by simpa using hd : inDigits a0 = false)
        have eb : pfBody a0 (bytesOf a1) = bytesOf a1 := by unfold pfBody; rw [if_neg hd]
        rw [eb]
        by_cases k2 : kindOf a0 = 2
        · have eh : pfHead a0 a1.size = [] := by unfold pfHead prefixed; rw [if_neg (by simp [k2])]
          rw [eh, List.nil_append]
          exact sput_text a0 a1 w (by omega) hf k2
        · have k0 : ¬ kindOf a0 = 0 := fieldOk_kind a0 _ hf
          have eh : pfHead a0 a1.size = (putLen (a1.size : Int) (lenWidth a0)).1 := by unfold pfHead prefixed; rw [if_pos (by simp; omega)]
          rw [eh]
          by_cases k5 : kindOf a0 = 5
          · have ew : lenWidth a0 = 3 := by unfold lenWidth; rw [if_pos k5]
            rw [ew] at hp ⊢
            exact sput_textLong a0 a1 w (by omega) hf k5 _ _ rfl (by omega)
          · have ew : lenWidth a0 = 2 := by unfold lenWidth; rw [if_neg k5]
            rw [ew] at hp ⊢
            exact sput_textVar a0 a1 w (by omega) hf (by omega) _ _ rfl (by omega)
  · rw [if_neg hs] at h
    exact absurd h (by simp)
end Go.Proofs.YtfiieppnpmodoaaDoor.Q
end
section
namespace Go.Proofs.YtfiieppnpmodoaaDoor.Q
open Go.RowKit Go.Proofs.YtfiieppnpmodoaaDoorW.PrintWords Go.Proofs.YtfiieppnpmodoaaDoorW.PrintLast Go.Proofs.YtfiieppnpmodoaaDoorW.PrintMore
attribute [local go_sem] max2_int min2_int max_two min_two max_three min_three max_four min_four
set_option linter.unusedVariables false
set_option linter.unusedSimpArgs false
mutual
def spec_Encode.l0 : Nat → List Int → List Int → List (S79) → Int → Int → ByteArray → List (S79) → Option (List Int × Bool)
 | 0, _, _, _, _, _, _, _ => none
 | k + 1, x4, x5, x20, x21, x22, x350000, x350001 => if x22 < x21 then (if 0 ≤ x22 then (if x22 < (x20.length : Int) then (if ((rd_T79 x20 x22).f0) > 64 then (if x5.length < 17592186044416 then (spec_Encode.l0 k x4 (x5 ++ [wrap64 (((rd_T79 x20 x22).f0) - 64)]) x20 x21 (wrap64 (x22 + 1)) x350000 x350001) else (none)) else (if x4.length < 17592186044416 then (spec_Encode.l0 k (x4 ++ [(rd_T79 x20 x22).f0]) x5 x20 x21 (wrap64 (x22 + 1)) x350000 x350001) else (none))) else (none)) else (none)) else ((spec_PutBcd.f k x350000).bind fun bt365 => (if (x5.length : Int) > 0 then (if x4.length < 17592186044416 then (spec_Encode.j1 k (x4 ++ [1]) x5 bt365.1 x350000 x350001) else (none)) else (spec_Encode.j1 k x4 x5 bt365.1 x350000 x350001)))
def spec_Encode.j1 : Nat → List Int → List Int → List Int → ByteArray → List (S79) → Option (List Int × Bool)
 | 0, _, _, _, _, _ => none
 | k + 1, x4, x5, x8, x350000, x350001 => (spec_PutBits.f k x4).bind fun t372 => (if x8.length + t372.length < 140737488355328 then ((some (x8 ++ t372 : List Int)).bind fun y375 => (if (x5.length : Int) > 0 then ((spec_PutBits.f k x5).bind fun t378 => (if y375.length + t378.length < 140737488355328 then (spec_Encode.j2 k (y375 ++ t378) x350000 x350001) else (none))) else (spec_Encode.j2 k y375 x350000 x350001))) else (none))
def spec_Encode.j2 : Nat → List Int → ByteArray → List (S79) → Option (List Int × Bool)
 | 0, _, _, _ => none
 | k + 1, x8, x350000, x350001 => spec_Encode.l1 k x8 x350001 (x350001.length : Int) 0
def spec_Encode.l1 : Nat → List Int → List (S79) → Int → Int → Option (List Int × Bool)
 | 0, _, _, _, _ => none
 | k + 1, x8, x65, x66, x67 => if x67 < x66 then (if 0 ≤ x67 then (if x67 < (x65.length : Int) then ((spec_PutField.f ((rd_T79 x65 x67).f0) ((rd_T79 x65 x67).f1)).bind fun bt386 => (if x8.length + bt386.1.length < 140737488355328 then (spec_Encode.l1 k (x8 ++ bt386.1) x65 x66 (wrap64 (x67 + 1))) else (none))) else (none)) else (none)) else (some (x8, true))
end
def spec_Encode.f (k : Nat) (a0_0 : ByteArray) (l0_1 : List (S79)) : Option (List Int × Bool) := (spec_MsgOk.f k a0_0 l0_1).bind fun t350 => (if t350 = true then (spec_Encode.l0 k (([] : List Int)) (([] : List Int)) l0_1 (l0_1.length : Int) 0 a0_0 l0_1) else (some (([] : List Int), false)))
set_option maxHeartbeats 8000000 in
set_option maxRecDepth 100000 in
theorem spec_Encode.calls (k : Nat) (a0_0 : ByteArray) (A0_1 : Option Addr) (c0_1 : Nat) (l0_1 : List (S79)) (r1 : List Int) (r2 : Bool) (w : World) (hr0_1 : Kd.C k79 w A0_1 l0_1.length l0_1) (hc0_1 : l0_1.length ≤ c0_1) (h : spec_Encode.f k a0_0 l0_1 = some (r1, r2)) :
  Calls Tryd.prog 27 #[.agg #[.string a0_0, .slice A0_1 l0_1.length c0_1]] w fun e w' => ∃ v0_ : Value, e = .returned (.tuple #[v0_, .bool r2]) ∧ Kd.R (Kd.int .u8) 5 w' w.heap.size (fun _ => True) v0_ r1 ∧ Below w.heap.size w w' := by
 have hu49 := Tryd.underlying49
 have hu79 := Tryd.underlying79
 have HR0_1 := Aside0.mk hr0_1
 have HC0_1 := Aside0.mk hc0_1
 clear hr0_1 hc0_1
 have HB := Aside0.mk (Below.refl w.heap.size w)
 have H : ((spec_MsgOk.f k a0_0 l0_1).bind fun t350 => (if t350 = true then (spec_Encode.l0 k (([] : List Int)) (([] : List Int)) l0_1 (l0_1.length : Int) 0 a0_0 l0_1) else (some (([] : List Int), false)))) = some (r1, r2) := h
 clear h
 replace H := Option.bind_eq_some_iff.mp H
 obtain ⟨t350, A20, H⟩ := H
 replace H : (if t350 = true then (spec_Encode.l0 k (([] : List Int)) (([] : List Int)) l0_1 (l0_1.length : Int) 0 a0_0 l0_1) else (some (([] : List Int), false))) = some (r1, r2) := H
 have A2 := Aside0.mk A20
 clear A20
 by_cases c3 : t350 = true
 ·subst c3
  have H1 : (spec_Encode.l0 k (([] : List Int)) (([] : List Int)) l0_1 (l0_1.length : Int) 0 a0_0 l0_1) = some (r1, r2) := by rw [if_pos rfl] at H; exact H
  clear H
  have H := H1
  clear H1
  obtain ⟨y351, hy351⟩ : ∃ y_ : List Int, y_ = (([] : List Int)) := ⟨_, rfl⟩
  replace H : (spec_Encode.l0 k y351 (([] : List Int)) l0_1 (l0_1.length : Int) 0 a0_0 l0_1) = some (r1, r2) := by first | (rw [hy351]; with_reducible exact H) | (have H2_ := (Option.bind_some _ _).symm.trans H; rw [hy351]; with_reducible exact H2_) | (have H2_ := (Option.bind_some _ _).symm.trans H; with_reducible exact H2_) | with_reducible exact H | (rw [hy351]; exact H) | exact H
  have Ny351 := Aside0.mk hy351
  clear hy351
  obtain ⟨y354, hy354⟩ : ∃ y_ : List Int, y_ = (([] : List Int)) := ⟨_, rfl⟩
  replace H : (spec_Encode.l0 k y351 y354 l0_1 (l0_1.length : Int) 0 a0_0 l0_1) = some (r1, r2) := by first | (rw [hy354]; with_reducible exact H) | (have H2_ := (Option.bind_some _ _).symm.trans H; rw [hy354]; with_reducible exact H2_) | (have H2_ := (Option.bind_some _ _).symm.trans H; with_reducible exact H2_) | with_reducible exact H | (rw [hy354]; exact H) | exact H
  have Ny354 := Aside0.mk hy354
  clear hy354
  have H' := Aside0.mk H
  clear H
  go_enter Tryd.func27, Tryd.ntmps27
  go_wp2_with (first | ((with_reducible refine gate_dst (N := 1) rfl ?_); refine box_event ?hg (N := 1) ?hd (cs := #[.string a0_0, .slice A0_1 l0_1.length c0_1]) (t := 49) ?hr ?_; (case hd => rfl); (case hg => rfl); (case hr => first | (go_simp; done) | (go_simp; rfl)); intro gb349 hg w4 hbox hb; have n0_ := Aside0.mk (below_step bB hb); have n1_ := Aside0.mk (hbox); have n2_ := Aside0.mk ((by rw [hg]; exact (below_size bB) : w.heap.size ≤ gb349)); have n3_ := Aside0.mk ((by rw [hg]; exact (below_size bB) : w.heap.size ≤ gb349)); clear HB; have HB := n0_; have BK349 := n1_; have GW349 := n2_; have GE349 := n3_; clear n0_ n1_ n2_ n3_; clear hb hbox hg; have hcz5_0 : w4.cell? ⟨gb349, 0, none⟩ = some (.string a0_0) := (blk_cell BK349.out 0).trans rfl; have hcz5_1 : w4.cell? ⟨gb349, 1, none⟩ = some (.slice A0_1 l0_1.length c0_1) := (blk_cell BK349.out 1).trans rfl; have hfz5_0 := blk_frozen BK349.out 0; have hfz5_1 := blk_frozen BK349.out 1) | ((with_reducible refine gate_callee (f := 58) rfl ?_); refine goesM_ (some 15) rfl rfl Tryd.func58 (by kernel_rfl) rfl #[.agg #[.string a0_0, .slice A0_1 l0_1.length c0_1]] rfl ?_; (with_reducible refine (spec_MsgOk.calls k a0_0 _ _ l0_1 true _ ?side1 ?side2 A2.out).mono ?_); (case side1 => repeat (first | exact (Kd.C_below HR0_1.out HB.out) | (with_reducible refine Kd.C_alloc ?_ _) | (with_reducible refine Kd.C_drewN ?_ _) | (with_reducible refine Kd.C_drew ?_))); (case side2 => exact HC0_1.out); rintro e w6 ⟨rfl, hb⟩; refine ⟨_, rfl, ?_⟩; have n0_ := Aside0.mk (blk_below (g := gb349) (o := .cells #[.string a0_0, .slice A0_1 l0_1.length c0_1] 49 (0, 0)) (kA BK349.out) hb); have n1_ := Aside0.mk (below_step bG hb); clear BK349; clear HB; have BK349 := n0_; have HB := n1_; clear n0_ n1_; (try clear hb); (try clear hb2); (try clear hk); (try clear hi)) | ((with_reducible refine gate_dst (N := 17) rfl ?_); refine Kd.R_lit (Kd.int .i64) _ 3 ?hg (N := 17) ?hd (xs := ([] : List Int)) (inner := []) (ok := fun _ => True) (okp := fun _ => True) ?hr ?hp (fun _ hk => hk) trivial (Below.refl _ _) (Nat.le_refl _) (by simp) ?_; (case hd => rfl); (case hg => rfl); (case hr => first | (go_simp; done) | (go_simp; rfl)); (case hp => exact (Reps.none _ _)); intro v352 w7 ho8 hb hg_ hnew_; clear hg_ hnew_; (first | rw [← Ny351.out] at ho8 | (simp only [Int.reduceToNat] at ho8; rw [← Ny351.out] at ho8)); have n0_ := Aside0.mk (Kd.R_lower ho8 (below_size bG)); have n1_ := Aside0.mk (blk_below (g := gb349) (o := .cells #[.string a0_0, .slice A0_1 l0_1.length c0_1] 49 (0, 0)) (kA BK349.out) hb); have n2_ := Aside0.mk (below_step bG hb); clear BK349; clear HB; have HO353 := n0_; have BK349 := n1_; have HB := n2_; clear n0_ n1_ n2_; clear hb ho8) | ((with_reducible refine gate_dst (N := 18) rfl ?_); refine Kd.R_lit (Kd.int .i64) _ 3 ?hg (N := 18) ?hd (xs := ([] : List Int)) (inner := []) (ok := fun _ => True) (okp := fun _ => True) ?hr ?hp (fun _ hk => hk) trivial (Below.refl _ _) (Nat.le_refl _) (by simp) ?_; (case hd => rfl); (case hg => rfl); (case hr => first | (go_simp; done) | (go_simp; rfl)); (case hp => exact (Reps.none _ _)); intro v355 w9 ho10 hb hg_ hnew_; clear hg_ hnew_; (first | rw [← Ny354.out] at ho10 | (simp only [Int.reduceToNat] at ho10; rw [← Ny354.out] at ho10)); have n0_ := Aside0.mk (Kd.R_elder' (rA HO353.out) (Kd.R_base ho10) hb); have n1_ := Aside0.mk (Kd.R_lower (Kd.R_new' ho10 (Kd.R_lt (rA HO353.out))) (below_size bG)); have n2_ := Aside0.mk (blk_below (g := gb349) (o := .cells #[.string a0_0, .slice A0_1 l0_1.length c0_1] 49 (0, 0)) (kA BK349.out) hb); have n3_ := Aside0.mk (below_step bG hb); clear HO353; clear BK349; clear HB; have HO353 := n0_; have HO356 := n1_; have BK349 := n2_; have HB := n3_; clear n0_ n1_ n2_ n3_; clear hb ho10; have hcz11_0 : w9.cell? ⟨gb349, 0, none⟩ = some (.string a0_0) := (blk_cell BK349.out 0).trans rfl; have hcz11_1 : w9.cell? ⟨gb349, 1, none⟩ = some (.slice A0_1 l0_1.length c0_1) := (blk_cell BK349.out 1).trans rfl; have hfz11_0 := blk_frozen BK349.out 0; have hfz11_1 := blk_frozen BK349.out 1))
  go_loopg [4, 5, 22] k (fun kq v4 v5 v22 w' => ∃ (x4_1 : List Int) (x5_1 : List Int) (x22_1 : Int), v22 = .int .i64 x22_1 ∧ Aside0 (spec_Encode.l0 kq x4_1 x5_1 l0_1 (l0_1.length : Int) x22_1 a0_0 l0_1 = some (r1, r2)) ∧ Aside0 (kq ≤ k) ∧ Aside0 (Kd.R (Kd.int .i64) 3 w' w.heap.size (fun k_ => some k_ ≠ (v5 : Value).ownBlock) v4 x4_1) ∧ Aside0 (Kd.R (Kd.int .i64) 3 w' w.heap.size (fun k_ => some k_ ≠ (v4 : Value).ownBlock) v5 x5_1) ∧ Aside0 (w'.heap[gb349]? = some (.cells #[.string a0_0, (.slice A0_1 l0_1.length c0_1)] 49 (0, 0))) ∧ Aside0 (Below w.heap.size w w'))
  case atStart => exact ⟨(y351), (y354), (0), (by first | rfl | (simp; done) | (simp [*]; done) | (simp [i64_w, IntKind.wrap_u8, e256_]; done) | (simp; generalize ByteArray.toList _ = zz_; cases zz_ <;> rfl)), H', ⟨Nat.le_refl _⟩, ⟨by (with_reducible repeat (first | apply Kd.R_alloc | apply Kd.R_drewN | apply Kd.R_drew)); exact Kd.R_mono HO353.out (fun _ hk => hk.2)⟩, ⟨by (with_reducible repeat (first | apply Kd.R_alloc | apply Kd.R_drewN | apply Kd.R_drew)); exact Kd.R_mono HO356.out (fun _ hk => hk.2)⟩, ⟨kA BK349.out⟩, ⟨bG⟩⟩
  case round =>
   clear H'
   try clear c2
   try clear p2
   try clear c3
   try clear c5
   try clear p6
   try clear hcz11_0
   try clear hcz11_1
   try clear hcz5_0
   try clear hcz5_1
   try clear hfz11_0
   try clear hfz11_1
   try clear hfz5_0
   try clear hfz5_1
   obtain ⟨x4_1, x5_1, x22_1, rfl, HA, HK1, HO_4, HO_5, BK349, HB⟩ := hrel
   cases gk with
   | zero => exact absurd HA.out (by simp [spec_Encode.l0])
   | succ k1 =>
    have H := HA.out
    clear HA
    simp only [spec_Encode.l0] at H
    by_cases c12 : x22_1 < (l0_1.length : Int)
    ·rw [if_pos c12] at H
     have c12b0 : decide (x22_1 < (l0_1.length : Int)) = true := decide_eq_true c12
     clear c12
     by_cases c13 : 0 ≤ x22_1
     ·rw [if_pos c13] at H
      have c13b0 : decide (0 ≤ x22_1) = true := decide_eq_true c13
      clear c13
      by_cases c14 : x22_1 < (l0_1.length : Int)
      ·rw [if_pos c14] at H
       have c14b0 : decide (x22_1 < (l0_1.length : Int)) = true := decide_eq_true c14
       clear c14
       by_cases c15 : ((rd_T79 l0_1 x22_1).f0) > 64
       ·rw [if_pos c15] at H
        have c15b0 : decide (64 < ((rd_T79 l0_1 x22_1).f0)) = true := decide_eq_true c15
        clear c15
        by_cases c16 : x5_1.length < 17592186044416
        ·rw [if_pos c16] at H
         have LMc16 := Aside0.mk c16
         clear c16
         obtain ⟨y359, hy359⟩ : ∃ y_ : List Int, y_ = (x5_1 ++ [wrap64 (((rd_T79 l0_1 x22_1).f0) - 64)]) := ⟨_, rfl⟩
         replace H : (spec_Encode.l0 k1 x4_1 y359 l0_1 (l0_1.length : Int) (wrap64 (x22_1 + 1)) a0_0 l0_1) = some (r1, r2) := by first | (rw [hy359]; with_reducible exact H) | (have H2_ := (Option.bind_some _ _).symm.trans H; rw [hy359]; with_reducible exact H2_) | (have H2_ := (Option.bind_some _ _).symm.trans H; with_reducible exact H2_) | with_reducible exact H | (rw [hy359]; exact H) | exact H
         have Ny359 := Aside0.mk hy359
         clear hy359
         have H' := Aside0.mk H
         clear H
         have p357 : 0 ≤ (x22_1 : Int) := of_decide_eq_true (by first | (with_reducible assumption) | assumption)
         have q357 : x22_1 < (l0_1.length : Int) := of_decide_eq_true (by first | (with_reducible assumption) | assumption)
         obtain ⟨ad357, e357, hx357_0, hx357_1⟩ := at_T79 HR0_1.out x22_1 p357 q357
         cases e357
         replace hx357_0 := (HB.out.cell (World.block_lt_of_cell? w _ hx357_0)).trans hx357_0
         replace hx357_1 := (HB.out.cell (World.block_lt_of_cell? w _ hx357_1)).trans hx357_1
         replace p357 := eq_true p357
         replace q357 := eq_true q357
         go_wp2_with (first | ((with_reducible refine gate_dst (N := 7) rfl ?_); refine box_event ?hg (N := 7) ?hd (cs := #[.int .i64 0, .string (⟨#[]⟩ : ByteArray)]) (t := 79) ?hr ?_; (case hd => rfl); (case hg => rfl); (case hr => first | (go_simp; done) | (go_simp; rfl)); intro gb358 hg w17 hbox hb; have n0_ := Aside0.mk (Kd.R_below (rA HO_4.out) hb); have n1_ := Aside0.mk (Kd.R_below (rA HO_5.out) hb); have n2_ := Aside0.mk (blk_below (g := gb349) (o := .cells #[.string a0_0, .slice (some ad357) l0_1.length c0_1] 49 (0, 0)) (kA BK349.out) hb); have n3_ := Aside0.mk (below_step bG hb); have n4_ := Aside0.mk (hbox); have n5_ := Aside0.mk ((by rw [hg]; exact (below_size bG) : w.heap.size ≤ gb358)); have n6_ := Aside0.mk ((by rw [hg]; exact (below_size bG) : w.heap.size ≤ gb358)); have n7_ := Aside0.mk ((by rw [hg]; exact Nat.ne_of_lt (blk_lt (g := gb349) (o := .cells #[.string a0_0, .slice (some ad357) l0_1.length c0_1] 49 (0, 0)) (kA BK349.out)) : gb349 ≠ gb358)); have n8_ := Aside0.mk ((by rw [hg]; exact Nat.ne_of_gt (blk_lt (g := gb349) (o := .cells #[.string a0_0, .slice (some ad357) l0_1.length c0_1] 49 (0, 0)) (kA BK349.out)) : gb358 ≠ gb349)); clear HO_4; clear HO_5; clear BK349; clear HB; have HO_4 := n0_; have HO_5 := n1_; have BK349 := n2_; have HB := n3_; have BK358 := n4_; have GW358 := n5_; have GE358 := n6_; have NB349_358 := n7_; have NB358_349 := n8_; clear n0_ n1_ n2_ n3_ n4_ n5_ n6_ n7_ n8_; clear hb hbox hg; have hnb18 := NB358_349.out; have hnc18 := NB349_358.out; have hcz19_0 : w17.cell? ⟨gb358, 0, none⟩ = some (.int .i64 0) := (blk_cell BK358.out 0).trans rfl; have hcz19_1 : w17.cell? ⟨gb358, 1, none⟩ = some (.string (⟨#[]⟩ : ByteArray)) := (blk_cell BK358.out 1).trans rfl; have hfz19_0 := blk_frozen BK358.out 0; have hfz19_1 := blk_frozen BK358.out 1) | ((with_reducible refine gate_builtin (b := .append) (xs := #[.tmp 29, .tmp 33]) rfl ?_); at_builtin; refine Kd.R_append (Kd.int .i64) (w0 := w) w.heap.size rfl (.tmp 29) (.tmp 33) 32 3 (.int .i64 0) 8 rfl Tryd.underlying32 info3 rfl (by decide) (by omega) u5 x5_1 (wrap64 (((rd_T79 l0_1 x22_1).f0) - 64)) [.int .i64 (wrap64 (((rd_T79 l0_1 x22_1).f0) - 64))] (fun k_ => some k_ ≠ (u4 : Value).ownBlock) (fun _ => False) rfl (by first | (go_simp; done) | (go_simp; rfl)) ?aP (fun _ hk => hk.elim) ?aF ?aO ?aB ?aS ?aL ?_; (case aP => exact rfl); (case aB => exact bG); (case aF => exact (fun k_ hk => Kd.fresh' (Kd.R_lt (by (with_reducible repeat (first | apply Kd.R_alloc | apply Kd.R_drewN | apply Kd.R_drew)); exact (Kd.R_mono (Kd.R_far (p := ⟨gb358, 1, none⟩) (Kd.R_far (p := ⟨gb358, 0, none⟩) (Kd.R_types HO_4.out BK358.out (by decide)) (fun _ hk => hk.2) (.int .i64 ((rd_T79 l0_1 x22_1).f0))) (fun _ hk => hk.2) (.string ((rd_T79 l0_1 x22_1).f1))) (fun _ h_ => h_.1)))) k_ hk)); (case aO => exact (by (with_reducible repeat (first | apply Kd.R_alloc | apply Kd.R_drewN | apply Kd.R_drew)); exact Kd.R_mono (Kd.R_far (p := ⟨gb358, 1, none⟩) (Kd.R_far (p := ⟨gb358, 0, none⟩) (Kd.R_types HO_5.out BK358.out (by decide)) (fun _ hk => hk.2) (.int .i64 ((rd_T79 l0_1 x22_1).f0))) (fun _ hk => hk.2) (.string ((rd_T79 l0_1 x22_1).f1))) (fun _ hk => hk.1))); (case aS => exact (below_size bG)); (case aL => have := LMc16.out; omega); intro v360 w20 ho hb hg hat; rw [← Ny359.out] at ho; have n0_ := Aside0.mk (Kd.R_after (ok := (fun _ => True)) (by (with_reducible repeat (first | apply Kd.R_alloc | apply Kd.R_drewN | apply Kd.R_drew)); exact Kd.R_mono (Kd.R_far (p := ⟨gb358, 1, none⟩) (Kd.R_far (p := ⟨gb358, 0, none⟩) (Kd.R_types HO_4.out BK358.out (by decide)) (fun _ hk => hk.2) (.int .i64 ((rd_T79 l0_1 x22_1).f0))) (fun _ hk => hk.2) (.string ((rd_T79 l0_1 x22_1).f1))) (fun _ hk => ⟨trivial, hk.1⟩)) hg hat); have n1_ := Aside0.mk (blk_grown (g := gb349) (o := .cells #[.string a0_0, .slice (some ad357) l0_1.length c0_1] 49 (0, 0)) (by (with_reducible repeat (first | refine blk_drewN ?_ _ | refine blk_drew ?_ | refine blk_alloc ?_ _)); refine blk_far ?_ NB349_358.out _; (with_reducible repeat (first | refine blk_drewN ?_ _ | refine blk_drew ?_ | refine blk_alloc ?_ _)); refine blk_far ?_ NB349_358.out _; (with_reducible repeat (first | refine blk_drewN ?_ _ | refine blk_drew ?_ | refine blk_alloc ?_ _)); exact BK349.out) hg (Kd.R_ne HO_5.out BK349.out (by decide))); have n2_ := Aside0.mk (blk_grown (g := gb358) (o := .cells #[.int .i64 ((rd_T79 l0_1 x22_1).f0), .string ((rd_T79 l0_1 x22_1).f1)] 79 (0, 0)) (by (with_reducible repeat (first | refine blk_drewN ?_ _ | refine blk_drew ?_ | refine blk_alloc ?_ _)); refine blk_put (cs := #[.int .i64 ((rd_T79 l0_1 x22_1).f0), .string (⟨#[]⟩ : ByteArray)]) ?_ 1 _ rfl; (with_reducible repeat (first | refine blk_drewN ?_ _ | refine blk_drew ?_ | refine blk_alloc ?_ _)); refine blk_put (cs := #[.int .i64 0, .string (⟨#[]⟩ : ByteArray)]) ?_ 0 _ rfl; (with_reducible repeat (first | refine blk_drewN ?_ _ | refine blk_drew ?_ | refine blk_alloc ?_ _)); exact BK358.out) hg (Kd.R_ne HO_5.out BK358.out (by decide))); have n3_ := Aside0.mk (hb); have n4_ := Aside0.mk (ho); clear HO_4; clear BK349; clear BK358; clear HB; clear HO_5; have HO_4 := n0_; have BK349 := n1_; have BK358 := n2_; have HB := n3_; have HO361 := n4_; clear n0_ n1_ n2_ n3_ n4_; clear ho hb hg hat))
         go_roundg k1
         case measure => have := HK1.out; omega
         case rel => exact ⟨(x4_1), (y359), (wrap64 (x22_1 + 1)), (by first | rfl | (simp; done) | (simp [*]; done) | (simp [i64_w, IntKind.wrap_u8, e256_]; done) | (simp; generalize ByteArray.toList _ = zz_; cases zz_ <;> rfl)), H', ⟨by have := HK1.out; omega⟩, ⟨by (with_reducible repeat (first | apply Kd.R_alloc | apply Kd.R_drewN | apply Kd.R_drew)); exact Kd.R_mono HO_4.out (fun _ hk => hk.2)⟩, ⟨rA HO361.out⟩, ⟨kA BK349.out⟩, ⟨bG⟩⟩
        ·rw [if_neg c16] at H
         exact absurd H (by simp)
       ·rw [if_neg c15] at H
        have c15b0 : decide (64 < ((rd_T79 l0_1 x22_1).f0)) = false := decide_eq_false c15
        clear c15
        by_cases c21 : x4_1.length < 17592186044416
        ·rw [if_pos c21] at H
         have LMc21 := Aside0.mk c21
         clear c21
         obtain ⟨y362, hy362⟩ : ∃ y_ : List Int, y_ = (x4_1 ++ [(rd_T79 l0_1 x22_1).f0]) := ⟨_, rfl⟩
         replace H : (spec_Encode.l0 k1 y362 x5_1 l0_1 (l0_1.length : Int) (wrap64 (x22_1 + 1)) a0_0 l0_1) = some (r1, r2) := by first | (rw [hy362]; with_reducible exact H) | (have H2_ := (Option.bind_some _ _).symm.trans H; rw [hy362]; with_reducible exact H2_) | (have H2_ := (Option.bind_some _ _).symm.trans H; with_reducible exact H2_) | with_reducible exact H | (rw [hy362]; exact H) | exact H
         have Ny362 := Aside0.mk hy362
         clear hy362
         have H' := Aside0.mk H
         clear H
         have p357 : 0 ≤ (x22_1 : Int) := of_decide_eq_true (by first | (with_reducible assumption) | assumption)
         have q357 : x22_1 < (l0_1.length : Int) := of_decide_eq_true (by first | (with_reducible assumption) | assumption)
         obtain ⟨ad357, e357, hx357_0, hx357_1⟩ := at_T79 HR0_1.out x22_1 p357 q357
         cases e357
         replace hx357_0 := (HB.out.cell (World.block_lt_of_cell? w _ hx357_0)).trans hx357_0
         replace hx357_1 := (HB.out.cell (World.block_lt_of_cell? w _ hx357_1)).trans hx357_1
         replace p357 := eq_true p357
         replace q357 := eq_true q357
         go_wp2_with (first | ((with_reducible refine gate_dst (N := 7) rfl ?_); refine box_event ?hg (N := 7) ?hd (cs := #[.int .i64 0, .string (⟨#[]⟩ : ByteArray)]) (t := 79) ?hr ?_; (case hd => rfl); (case hg => rfl); (case hr => first | (go_simp; done) | (go_simp; rfl)); intro gb358 hg w22 hbox hb; have n0_ := Aside0.mk (Kd.R_below (rA HO_4.out) hb); have n1_ := Aside0.mk (Kd.R_below (rA HO_5.out) hb); have n2_ := Aside0.mk (blk_below (g := gb349) (o := .cells #[.string a0_0, .slice (some ad357) l0_1.length c0_1] 49 (0, 0)) (kA BK349.out) hb); have n3_ := Aside0.mk (below_step bG hb); have n4_ := Aside0.mk (hbox); have n5_ := Aside0.mk ((by rw [hg]; exact (below_size bG) : w.heap.size ≤ gb358)); have n6_ := Aside0.mk ((by rw [hg]; exact (below_size bG) : w.heap.size ≤ gb358)); have n7_ := Aside0.mk ((by rw [hg]; exact Nat.ne_of_lt (blk_lt (g := gb349) (o := .cells #[.string a0_0, .slice (some ad357) l0_1.length c0_1] 49 (0, 0)) (kA BK349.out)) : gb349 ≠ gb358)); have n8_ := Aside0.mk ((by rw [hg]; exact Nat.ne_of_gt (blk_lt (g := gb349) (o := .cells #[.string a0_0, .slice (some ad357) l0_1.length c0_1] 49 (0, 0)) (kA BK349.out)) : gb358 ≠ gb349)); clear HO_4; clear HO_5; clear BK349; clear HB; have HO_4 := n0_; have HO_5 := n1_; have BK349 := n2_; have HB := n3_; have BK358 := n4_; have GW358 := n5_; have GE358 := n6_; have NB349_358 := n7_; have NB358_349 := n8_; clear n0_ n1_ n2_ n3_ n4_ n5_ n6_ n7_ n8_; clear hb hbox hg; have hnb23 := NB358_349.out; have hnc23 := NB349_358.out; have hcz24_0 : w22.cell? ⟨gb358, 0, none⟩ = some (.int .i64 0) := (blk_cell BK358.out 0).trans rfl; have hcz24_1 : w22.cell? ⟨gb358, 1, none⟩ = some (.string (⟨#[]⟩ : ByteArray)) := (blk_cell BK358.out 1).trans rfl; have hfz24_0 := blk_frozen BK358.out 0; have hfz24_1 := blk_frozen BK358.out 1) | ((with_reducible refine gate_builtin (b := .append) (xs := #[.tmp 35, .tmp 38]) rfl ?_); at_builtin; refine Kd.R_append (Kd.int .i64) (w0 := w) w.heap.size rfl (.tmp 35) (.tmp 38) 32 3 (.int .i64 0) 8 rfl Tryd.underlying32 info3 rfl (by decide) (by omega) u4 x4_1 ((rd_T79 l0_1 x22_1).f0) [.int .i64 ((rd_T79 l0_1 x22_1).f0)] (fun k_ => some k_ ≠ (u5 : Value).ownBlock) (fun _ => False) rfl (by first | (go_simp; done) | (go_simp; rfl)) ?aP (fun _ hk => hk.elim) ?aF ?aO ?aB ?aS ?aL ?_; (case aP => exact rfl); (case aB => exact bG); (case aF => exact (fun k_ hk => Kd.fresh' (Kd.R_lt (by (with_reducible repeat (first | apply Kd.R_alloc | apply Kd.R_drewN | apply Kd.R_drew)); exact (Kd.R_mono (Kd.R_far (p := ⟨gb358, 1, none⟩) (Kd.R_far (p := ⟨gb358, 0, none⟩) (Kd.R_types HO_5.out BK358.out (by decide)) (fun _ hk => hk.2) (.int .i64 ((rd_T79 l0_1 x22_1).f0))) (fun _ hk => hk.2) (.string ((rd_T79 l0_1 x22_1).f1))) (fun _ h_ => h_.1)))) k_ hk)); (case aO => exact (by (with_reducible repeat (first | apply Kd.R_alloc | apply Kd.R_drewN | apply Kd.R_drew)); exact Kd.R_mono (Kd.R_far (p := ⟨gb358, 1, none⟩) (Kd.R_far (p := ⟨gb358, 0, none⟩) (Kd.R_types HO_4.out BK358.out (by decide)) (fun _ hk => hk.2) (.int .i64 ((rd_T79 l0_1 x22_1).f0))) (fun _ hk => hk.2) (.string ((rd_T79 l0_1 x22_1).f1))) (fun _ hk => hk.1))); (case aS => exact (below_size bG)); (case aL => have := LMc21.out; omega); intro v363 w25 ho hb hg hat; rw [← Ny362.out] at ho; have n0_ := Aside0.mk (Kd.R_after (ok := (fun _ => True)) (by (with_reducible repeat (first | apply Kd.R_alloc | apply Kd.R_drewN | apply Kd.R_drew)); exact Kd.R_mono (Kd.R_far (p := ⟨gb358, 1, none⟩) (Kd.R_far (p := ⟨gb358, 0, none⟩) (Kd.R_types HO_5.out BK358.out (by decide)) (fun _ hk => hk.2) (.int .i64 ((rd_T79 l0_1 x22_1).f0))) (fun _ hk => hk.2) (.string ((rd_T79 l0_1 x22_1).f1))) (fun _ hk => ⟨trivial, hk.1⟩)) hg hat); have n1_ := Aside0.mk (blk_grown (g := gb349) (o := .cells #[.string a0_0, .slice (some ad357) l0_1.length c0_1] 49 (0, 0)) (by (with_reducible repeat (first | refine blk_drewN ?_ _ | refine blk_drew ?_ | refine blk_alloc ?_ _)); refine blk_far ?_ NB349_358.out _; (with_reducible repeat (first | refine blk_drewN ?_ _ | refine blk_drew ?_ | refine blk_alloc ?_ _)); refine blk_far ?_ NB349_358.out _; (with_reducible repeat (first | refine blk_drewN ?_ _ | refine blk_drew ?_ | refine blk_alloc ?_ _)); exact BK349.out) hg (Kd.R_ne HO_4.out BK349.out (by decide))); have n2_ := Aside0.mk (blk_grown (g := gb358) (o := .cells #[.int .i64 ((rd_T79 l0_1 x22_1).f0), .string ((rd_T79 l0_1 x22_1).f1)] 79 (0, 0)) (by (with_reducible repeat (first | refine blk_drewN ?_ _ | refine blk_drew ?_ | refine blk_alloc ?_ _)); refine blk_put (cs := #[.int .i64 ((rd_T79 l0_1 x22_1).f0), .string (⟨#[]⟩ : ByteArray)]) ?_ 1 _ rfl; (with_reducible repeat (first | refine blk_drewN ?_ _ | refine blk_drew ?_ | refine blk_alloc ?_ _)); refine blk_put (cs := #[.int .i64 0, .string (⟨#[]⟩ : ByteArray)]) ?_ 0 _ rfl; (with_reducible repeat (first | refine blk_drewN ?_ _ | refine blk_drew ?_ | refine blk_alloc ?_ _)); exact BK358.out) hg (Kd.R_ne HO_4.out BK358.out (by decide))); have n3_ := Aside0.mk (hb); have n4_ := Aside0.mk (ho); clear HO_5; clear BK349; clear BK358; clear HB; clear HO_4; have HO_5 := n0_; have BK349 := n1_; have BK358 := n2_; have HB := n3_; have HO364 := n4_; clear n0_ n1_ n2_ n3_ n4_; clear ho hb hg hat))
         go_roundg k1
         case measure => have := HK1.out; omega
         case rel => exact ⟨(y362), (x5_1), (wrap64 (x22_1 + 1)), (by first | rfl | (simp; done) | (simp [*]; done) | (simp [i64_w, IntKind.wrap_u8, e256_]; done) | (simp; generalize ByteArray.toList _ = zz_; cases zz_ <;> rfl)), H', ⟨by have := HK1.out; omega⟩, ⟨rA HO364.out⟩, ⟨by (with_reducible repeat (first | apply Kd.R_alloc | apply Kd.R_drewN | apply Kd.R_drew)); exact Kd.R_mono HO_5.out (fun _ hk => hk.2)⟩, ⟨kA BK349.out⟩, ⟨bG⟩⟩
        ·rw [if_neg c21] at H
         exact absurd H (by simp)
      ·rw [if_neg c14] at H
       exact absurd H (by simp)
     ·rw [if_neg c13] at H
      exact absurd H (by simp)
    ·rw [if_neg c12] at H
     have c12b0 : decide (x22_1 < (l0_1.length : Int)) = false := decide_eq_false c12
     clear c12
     replace H := Option.bind_eq_some_iff.mp H
     obtain ⟨⟨t365, t366⟩, A260, H⟩ := H
     replace H : (if (x5_1.length : Int) > 0 then (if x4_1.length < 17592186044416 then (spec_Encode.j1 k1 (x4_1 ++ [1]) x5_1 t365 a0_0 l0_1) else (none)) else (spec_Encode.j1 k1 x4_1 x5_1 t365 a0_0 l0_1)) = some (r1, r2) := H
     have A26 := Aside0.mk A260
     clear A260
     have HC27 := Aside0.mk H
     clear H
     have hcz28_0 : wr.cell? ⟨gb349, 0, none⟩ = some (.string a0_0) := (blk_cell BK349.out 0).trans rfl
     have hcz28_1 : wr.cell? ⟨gb349, 1, none⟩ = some (.slice A0_1 l0_1.length c0_1) := (blk_cell BK349.out 1).trans rfl
     have hfz28_0 := blk_frozen BK349.out 0
     have hfz28_1 := blk_frozen BK349.out 1
     go_upto_if 49 with (first | ((with_reducible refine gate_callee (f := 54) rfl ?_); refine goesM_ (some 44) rfl rfl Tryd.func54 (by kernel_rfl) rfl #[.string a0_0] rfl ?_; (with_reducible refine (spec_PutBcd.calls k1 a0_0 t365 t366 _ A26.out).mono ?_); rintro e w29 ⟨v367, rfl, ho0, hb⟩; refine ⟨_, rfl, ?_⟩; have n0_ := Aside0.mk (Kd.R_below (rA HO_4.out) hb); have n1_ := Aside0.mk (Kd.R_below (rA HO_5.out) hb); have n2_ := Aside0.mk (Kd.R_lower ho0 (below_size bG)); have n3_ := Aside0.mk (blk_below (g := gb349) (o := .cells #[.string a0_0, .slice A0_1 l0_1.length c0_1] 49 (0, 0)) (kA BK349.out) hb); have n4_ := Aside0.mk (below_step bG hb); clear HO_4; clear HO_5; clear BK349; clear HB; have HO_4 := n0_; have HO_5 := n1_; have HO368 := n2_; have BK349 := n3_; have HB := n4_; clear n0_ n1_ n2_ n3_ n4_; (try clear hb); (try clear hb2); (try clear hk); (try clear hi); (try clear ho0); obtain ⟨Ao30, co30, eo30⟩ := Kd.R_slice HO_5.out; subst eo30))
     (try simp only [Act.put, List.setIfInBounds_toArray, List.set_cons_zero, List.set_cons_succ])
     go_cut [4] (fun v4 wc => ∃ (kq : Nat) (x4_26 : List Int), Aside0 (spec_Encode.j1 kq x4_26 x5_1 t365 a0_0 l0_1 = some (r1, r2)) ∧ Aside0 (kq ≤ k1) ∧ Aside0 (Kd.R (Kd.int .i64) 3 wc w.heap.size (fun k_ => some k_ ≠ ((.slice Ao30 x5_1.length co30) : Value).ownBlock) v4 x4_26) ∧ Aside0 (Kd.R (Kd.int .i64) 3 wc w.heap.size (fun k_ => some k_ ≠ (v4 : Value).ownBlock) (.slice Ao30 x5_1.length co30) x5_1) ∧ Aside0 (Kd.R (Kd.int .u8) 5 wc w.heap.size (fun _ => True) v367 t365) ∧ Aside0 (wc.heap[gb349]? = some (.cells #[.string a0_0, (.slice A0_1 l0_1.length c0_1)] 49 (0, 0))) ∧ Aside0 (Below w.heap.size w wc))
     case first =>
      have H := HC27.out
      clear HC27
      by_cases c31 : (x5_1.length : Int) > 0
      ·rw [if_pos c31] at H
       have c31b0 : decide (0 < (x5_1.length : Int)) = true := decide_eq_true c31
       have c31b1 : decide (0 < x5_1.length) = true := decide_eq_true (by omega)
       clear c31
       (first | rw [c31b0] | (simp only [i64_w, i32_w]; rw [c31b0]) | rw [c31b1] | (simp only [c31b1]) | skip)
       by_cases c32 : x4_1.length < 17592186044416
       ·rw [if_pos c32] at H
        have LMc32 := Aside0.mk c32
        clear c32
        obtain ⟨y369, hy369⟩ : ∃ y_ : List Int, y_ = (x4_1 ++ [1]) := ⟨_, rfl⟩
        replace H : (spec_Encode.j1 k1 y369 x5_1 t365 a0_0 l0_1) = some (r1, r2) := by first | (rw [hy369]; with_reducible exact H) | (have H2_ := (Option.bind_some _ _).symm.trans H; rw [hy369]; with_reducible exact H2_) | (have H2_ := (Option.bind_some _ _).symm.trans H; with_reducible exact H2_) | with_reducible exact H | (rw [hy369]; exact H) | exact H
        have Ny369 := Aside0.mk hy369
        clear hy369
        have H' := Aside0.mk H
        clear H
        go_wp2_with (first | ((with_reducible refine gate_builtin (b := .append) (xs := #[.tmp 50, .tmp 51]) rfl ?_); at_builtin; refine Kd.R_append (Kd.int .i64) (w0 := w) w.heap.size rfl (.tmp 50) (.tmp 51) 32 3 (.int .i64 0) 8 rfl Tryd.underlying32 info3 rfl (by decide) (by omega) u4 x4_1 1 [.int .i64 1] (fun k_ => some k_ ≠ (.slice Ao30 x5_1.length co30 : Value).ownBlock) (fun _ => False) rfl rfl ?aP (fun _ hk => hk.elim) ?aF ?aO ?aB ?aS ?aL ?_; (case aP => exact rfl); (case aB => exact bG); (case aF => exact (fun k_ hk => Kd.fresh' (Kd.R_lt (rA HO_5.out)) k_ hk)); (case aO => exact (rA HO_4.out)); (case aS => exact (below_size bG)); (case aL => have := LMc32.out; omega); intro v370 w33 ho hb hg hat; rw [← Ny369.out] at ho; have n0_ := Aside0.mk (Kd.R_after (ok := (fun _ => True)) (by (with_reducible repeat (first | apply Kd.R_alloc | apply Kd.R_drewN | apply Kd.R_drew)); exact Kd.R_mono HO_5.out (fun _ hk => ⟨trivial, hk⟩)) hg hat); have n1_ := Aside0.mk (blk_grown (g := gb349) (o := .cells #[.string a0_0, .slice A0_1 l0_1.length c0_1] 49 (0, 0)) (kA BK349.out) hg (Kd.R_ne HO_4.out BK349.out (by decide))); have n2_ := Aside0.mk (Kd.R_over' (rA HO368.out) (Kd.R_typed (rA HO_4.out)) (by decide) hg); have n3_ := Aside0.mk (hb); have n4_ := Aside0.mk (ho); clear HO_5; clear BK349; clear HO368; clear HB; clear HO_4; have HO_5 := n0_; have BK349 := n1_; have HO368 := n2_; have HB := n3_; have HO371 := n4_; clear n0_ n1_ n2_ n3_ n4_; clear ho hb hg hat))
        go_meet
        case rel => exact ⟨_, (y369), H', ⟨by have := HK1.out; first | omega | exact Nat.le_refl _⟩, ⟨rA HO371.out⟩, ⟨by (with_reducible repeat (first | apply Kd.R_alloc | apply Kd.R_drewN | apply Kd.R_drew)); exact Kd.R_mono HO_5.out (fun _ hk => hk.2)⟩, ⟨rA HO368.out⟩, ⟨kA BK349.out⟩, ⟨bG⟩⟩
       ·rw [if_neg c32] at H
        exact absurd H (by simp)
      ·rw [if_neg c31] at H
       have c31b0 : decide (0 < (x5_1.length : Int)) = false := decide_eq_false c31
       have c31b1 : decide (0 < x5_1.length) = false := decide_eq_false (by omega)
       clear c31
       (first | rw [c31b0] | (simp only [i64_w, i32_w]; rw [c31b0]) | rw [c31b1] | (simp only [c31b1]) | skip)
       have H' := Aside0.mk H
       clear H
       go_wp2
       go_meet
       case rel => exact ⟨_, (x4_1), H', ⟨by have := HK1.out; first | omega | exact Nat.le_refl _⟩, ⟨rA HO_4.out⟩, ⟨rA HO_5.out⟩, ⟨rA HO368.out⟩, ⟨kA BK349.out⟩, ⟨bG⟩⟩
     case rest =>
      clear HC27
      try clear c1
      try clear c2
      try clear p2
      try clear c3
      try clear p3
      try clear q3
      try clear hx3
      try clear c5
      try clear p6
      try clear c12
      try clear c12b0
      try clear c13
      try clear c13b0
      try clear c14
      try clear c14b0
      try clear c15
      try clear c15b0
      try clear c16
      try clear c18
      try clear c21
      try clear c23
      try clear c27
      try clear c31
      try clear c31b0
      try clear c31b1
      try clear c32
      try clear hcz11_0
      try clear hcz11_1
      try clear hcz19_0
      try clear hcz19_1
      try clear hcz24_0
      try clear hcz24_1
      try clear hcz28_0
      try clear hcz28_1
      try clear hcz5_0
      try clear hcz5_1
      try clear hfz11_0
      try clear hfz11_1
      try clear hfz19_0
      try clear hfz19_1
      try clear hfz24_0
      try clear hfz24_1
      try clear hfz28_0
      try clear hfz28_1
      try clear hfz5_0
      try clear hfz5_1
      try clear hx357_0
      try clear hx357_1
      try clear p2
      try clear p357
      try clear p6
      try clear q357
      obtain ⟨kq, x4_26, HA, HJ26, HO_4, HO_5, HO_8, BK349, HB⟩ := hcut
      cases kq with
      | zero => exact absurd HA.out (by simp [spec_Encode.j1])
      | succ kj26 =>
       have H := HA.out
       clear HA
       simp only [spec_Encode.j1] at H
       replace H := Option.bind_eq_some_iff.mp H
       obtain ⟨t372, A340, H⟩ := H
       replace H : (if t365.length + t372.length < 140737488355328 then ((some (t365 ++ t372 : List Int)).bind fun y375 => (if (x5_1.length : Int) > 0 then ((spec_PutBits.f kj26 x5_1).bind fun t378 => (if y375.length + t378.length < 140737488355328 then (spec_Encode.j2 kj26 (y375 ++ t378) a0_0 l0_1) else (none))) else (spec_Encode.j2 kj26 y375 a0_0 l0_1))) else (none)) = some (r1, r2) := H
       have A34 := Aside0.mk A340
       clear A340
       by_cases c35 : t365.length + t372.length < 140737488355328
       ·rw [if_pos c35] at H
        have LMc35 := Aside0.mk c35
        clear c35
        obtain ⟨y375, hy375⟩ : ∃ y_ : List Int, y_ = (t365 ++ t372) := ⟨_, rfl⟩
        replace H : (if (x5_1.length : Int) > 0 then ((spec_PutBits.f kj26 x5_1).bind fun t378 => (if y375.length + t378.length < 140737488355328 then (spec_Encode.j2 kj26 (y375 ++ t378) a0_0 l0_1) else (none))) else (spec_Encode.j2 kj26 y375 a0_0 l0_1)) = some (r1, r2) := by first | (rw [hy375]; with_reducible exact H) | (have H2_ := (Option.bind_some _ _).symm.trans H; rw [hy375]; with_reducible exact H2_) | (have H2_ := (Option.bind_some _ _).symm.trans H; with_reducible exact H2_) | with_reducible exact H | (rw [hy375]; exact H) | exact H
        have Ny375 := Aside0.mk hy375
        clear hy375
        have HC36 := Aside0.mk H
        clear H
        obtain ⟨Ao37, co37, eo37⟩ := Kd.R_slice HO_4.out
        subst eo37
        go_upto_if 59 with (first | ((with_reducible refine gate_callee (f := 59) rfl ?_); refine goesM_ (some 55) rfl rfl Tryd.func59 (by kernel_rfl) rfl #[.slice Ao37 x4_26.length co37] rfl ?_; (with_reducible refine (spec_PutBits.calls kj26 _ _ x4_26 t372 _ ?side1 ?side2 A34.out).mono ?_); (case side1 => repeat (first | exact (Kd.R_reads' HO_4.out).2.2 | (with_reducible refine Kd.C_alloc ?_ _) | (with_reducible refine Kd.C_drewN ?_ _) | (with_reducible refine Kd.C_drew ?_))); (case side2 => exact (Kd.R_reads' HO_4.out).2.1); rintro e w38 ⟨v373, rfl, ho0, hb⟩; refine ⟨_, rfl, ?_⟩; have n0_ := Aside0.mk (Kd.R_below (rA HO_4.out) hb); have n1_ := Aside0.mk (Kd.R_below (rA HO_5.out) hb); have n2_ := Aside0.mk (Kd.R_elder' (rA HO_8.out) (Kd.R_base ho0) hb); have n3_ := Aside0.mk (Kd.R_lower (Kd.R_new' ho0 (Kd.R_lt (rA HO_8.out))) (below_size bG)); have n4_ := Aside0.mk (blk_below (g := gb349) (o := .cells #[.string a0_0, .slice A0_1 l0_1.length c0_1] 49 (0, 0)) (kA BK349.out) hb); have n5_ := Aside0.mk (below_step bG hb); clear HO_4; clear HO_5; clear HO_8; clear BK349; clear HB; have HO_4 := n0_; have HO_5 := n1_; have HO_8 := n2_; have HO374 := n3_; have BK349 := n4_; have HB := n5_; clear n0_ n1_ n2_ n3_ n4_ n5_; (try clear hb); (try clear hb2); (try clear hk); (try clear hi); (try clear ho0); obtain ⟨Ao40, co40, eo40⟩ := Kd.R_slice HO374.out; subst eo40) | ((with_reducible refine gate_builtin (b := .append) (xs := #[.tmp 53, .tmp 55]) rfl ?_); at_builtin; refine Kd.R_append_rows (Kd.int .u8) (w0 := w) w.heap.size rfl (.tmp 53) (.tmp 55) 22 5 (.int .u8 0) 1 rfl Tryd.underlying22 info5 rfl (by decide) (by omega) v367 t365 t372 _ _ _ (fun k_ => some k_ ≠ (.slice Ao40 t372.length co40 : Value).ownBlock) (fun _ => False) rfl rfl ?aO ?aR (fun _ _ h => h) (fun _ h => h.elim) ?aF ?aB ?aS ?aL ?_; (case aR => repeat (first | exact (Kd.R_reads' HO374.out).2.2 | (with_reducible refine Kd.C_alloc ?_ _) | (with_reducible refine Kd.C_drewN ?_ _) | (with_reducible refine Kd.C_drew ?_))); (case aB => exact bG); (case aF => exact (fun k_ hk => Kd.fresh' (Kd.R_lt (rA HO374.out)) k_ hk)); (case aO => exact (by (with_reducible repeat (first | apply Kd.R_alloc | apply Kd.R_drewN | apply Kd.R_drew)); exact Kd.R_mono HO_8.out (fun _ hk => hk.2))); (case aS => exact (below_size bG)); (case aL => have := LMc35.out; omega); intro v376 w39 ho hb hg hat; rw [← Ny375.out] at ho; have n0_ := Aside0.mk (Kd.R_over' (rA HO_4.out) (Kd.R_typed (rA HO_8.out)) (by decide) hg); have n1_ := Aside0.mk (Kd.R_over' (rA HO_5.out) (Kd.R_typed (rA HO_8.out)) (by decide) hg); have n2_ := Aside0.mk (blk_grown (g := gb349) (o := .cells #[.string a0_0, .slice A0_1 l0_1.length c0_1] 49 (0, 0)) (kA BK349.out) hg (Kd.R_ne HO_8.out BK349.out (by decide))); have n3_ := Aside0.mk (Kd.R_after (ok := (fun _ => True)) (rA HO374.out) hg hat); have n4_ := Aside0.mk (hb); have n5_ := Aside0.mk (ho); clear HO_4; clear HO_5; clear BK349; clear HO374; clear HB; clear HO_8; have HO_4 := n0_; have HO_5 := n1_; have BK349 := n2_; have HO374 := n3_; have HB := n4_; have HO377 := n5_; clear n0_ n1_ n2_ n3_ n4_ n5_; clear ho hb hg hat))
        (try simp only [Act.put, List.setIfInBounds_toArray, List.set_cons_zero, List.set_cons_succ])
        go_cut [8] (fun v8 wc => ∃ (kq : Nat) (x8_35 : List Int), Aside0 (spec_Encode.j2 kq x8_35 a0_0 l0_1 = some (r1, r2)) ∧ Aside0 (kq ≤ kj26) ∧ Aside0 (Kd.R (Kd.int .u8) 5 wc w.heap.size (fun _ => True) v8 x8_35) ∧ Aside0 (wc.heap[gb349]? = some (.cells #[.string a0_0, (.slice A0_1 l0_1.length c0_1)] 49 (0, 0))) ∧ Aside0 (Below w.heap.size w wc))
        case first =>
         have H := HC36.out
         clear HC36
         by_cases c41 : (x5_1.length : Int) > 0
         ·rw [if_pos c41] at H
          have c41b0 : decide (0 < (x5_1.length : Int)) = true := decide_eq_true c41
          have c41b1 : decide (0 < x5_1.length) = true := decide_eq_true (by omega)
          clear c41
          (first | rw [c41b0] | (simp only [i64_w, i32_w]; rw [c41b0]) | rw [c41b1] | (simp only [c41b1]) | skip)
          replace H := Option.bind_eq_some_iff.mp H
          obtain ⟨t378, A420, H⟩ := H
          replace H : (if y375.length + t378.length < 140737488355328 then (spec_Encode.j2 kj26 (y375 ++ t378) a0_0 l0_1) else (none)) = some (r1, r2) := H
          have A42 := Aside0.mk A420
          clear A420
          by_cases c43 : y375.length + t378.length < 140737488355328
          ·rw [if_pos c43] at H
           have LMc43 := Aside0.mk c43
           clear c43
           obtain ⟨y381, hy381⟩ : ∃ y_ : List Int, y_ = (y375 ++ t378) := ⟨_, rfl⟩
           replace H : (spec_Encode.j2 kj26 y381 a0_0 l0_1) = some (r1, r2) := by first | (rw [hy381]; with_reducible exact H) | (have H2_ := (Option.bind_some _ _).symm.trans H; rw [hy381]; with_reducible exact H2_) | (have H2_ := (Option.bind_some _ _).symm.trans H; with_reducible exact H2_) | with_reducible exact H | (rw [hy381]; exact H) | exact H
           have Ny381 := Aside0.mk hy381
           clear hy381
           have H' := Aside0.mk H
           clear H
           go_wp2_with (first | ((with_reducible refine gate_callee (f := 59) rfl ?_); refine goesM_ (some 62) rfl rfl Tryd.func59 (by kernel_rfl) rfl #[.slice Ao30 x5_1.length co30] rfl ?_; (with_reducible refine (spec_PutBits.calls kj26 _ _ x5_1 t378 _ ?side1 ?side2 A42.out).mono ?_); (case side1 => repeat (first | exact (Kd.R_reads' HO_5.out).2.2 | (with_reducible refine Kd.C_alloc ?_ _) | (with_reducible refine Kd.C_drewN ?_ _) | (with_reducible refine Kd.C_drew ?_))); (case side2 => exact (Kd.R_reads' HO_5.out).2.1); rintro e w44 ⟨v379, rfl, ho0, hb⟩; refine ⟨_, rfl, ?_⟩; have n0_ := Aside0.mk (Kd.R_below (rA HO_4.out) hb); have n1_ := Aside0.mk (Kd.R_below (rA HO_5.out) hb); have n2_ := Aside0.mk (Kd.R_elder' (rA HO374.out) (Kd.R_base ho0) hb); have n3_ := Aside0.mk (Kd.R_elder' (rA HO377.out) (Kd.R_base ho0) hb); have n4_ := Aside0.mk (Kd.R_lower (Kd.R_new' (Kd.R_new' ho0 (Kd.R_lt (rA HO374.out))) (Kd.R_lt (rA HO377.out))) (below_size bG)); have n5_ := Aside0.mk (blk_below (g := gb349) (o := .cells #[.string a0_0, .slice A0_1 l0_1.length c0_1] 49 (0, 0)) (kA BK349.out) hb); have n6_ := Aside0.mk (below_step bG hb); clear HO_4; clear HO_5; clear HO374; clear HO377; clear BK349; clear HB; have HO_4 := n0_; have HO_5 := n1_; have HO374 := n2_; have HO377 := n3_; have HO380 := n4_; have BK349 := n5_; have HB := n6_; clear n0_ n1_ n2_ n3_ n4_ n5_ n6_; (try clear hb); (try clear hb2); (try clear hk); (try clear hi); (try clear ho0); obtain ⟨Ao46, co46, eo46⟩ := Kd.R_slice HO380.out; subst eo46) | ((with_reducible refine gate_builtin (b := .append) (xs := #[.tmp 60, .tmp 62]) rfl ?_); at_builtin; refine Kd.R_append_rows (Kd.int .u8) (w0 := w) w.heap.size rfl (.tmp 60) (.tmp 62) 22 5 (.int .u8 0) 1 rfl Tryd.underlying22 info5 rfl (by decide) (by omega) v376 y375 t378 _ _ _ (fun k_ => some k_ ≠ (.slice Ao40 t372.length co40 : Value).ownBlock ∧ some k_ ≠ (.slice Ao46 t378.length co46 : Value).ownBlock) (fun _ => False) rfl rfl ?aO ?aR (fun _ _ h => h) (fun _ h => h.elim) ?aF ?aB ?aS ?aL ?_; (case aR => repeat (first | exact (Kd.R_reads' HO380.out).2.2 | (with_reducible refine Kd.C_alloc ?_ _) | (with_reducible refine Kd.C_drewN ?_ _) | (with_reducible refine Kd.C_drew ?_))); (case aB => exact bG); (case aF => exact (fun k_ hk => ⟨Kd.fresh' (Kd.R_lt (rA HO374.out)) k_ hk, Kd.fresh' (Kd.R_lt (rA HO380.out)) k_ hk⟩)); (case aO => exact (rA HO377.out)); (case aS => exact (below_size bG)); (case aL => have := LMc43.out; omega); intro v382 w45 ho hb hg hat; rw [← Ny381.out] at ho; have n0_ := Aside0.mk (Kd.R_over' (rA HO_4.out) (Kd.R_typed (rA HO377.out)) (by decide) hg); have n1_ := Aside0.mk (Kd.R_over' (rA HO_5.out) (Kd.R_typed (rA HO377.out)) (by decide) hg); have n2_ := Aside0.mk (blk_grown (g := gb349) (o := .cells #[.string a0_0, .slice A0_1 l0_1.length c0_1] 49 (0, 0)) (kA BK349.out) hg (Kd.R_ne HO377.out BK349.out (by decide))); have n3_ := Aside0.mk (Kd.R_after (ok := (fun k_ => some k_ ≠ (.slice Ao46 t378.length co46 : Value).ownBlock)) (by (with_reducible repeat (first | apply Kd.R_alloc | apply Kd.R_drewN | apply Kd.R_drew)); exact Kd.R_mono HO374.out (fun _ hk => ⟨hk.2, hk.1.2⟩)) hg hat); have n4_ := Aside0.mk (Kd.R_after (ok := (fun k_ => some k_ ≠ (.slice Ao40 t372.length co40 : Value).ownBlock)) (by (with_reducible repeat (first | apply Kd.R_alloc | apply Kd.R_drewN | apply Kd.R_drew)); exact Kd.R_mono HO380.out (fun _ hk => ⟨hk.1.2, hk.2⟩)) hg hat); have n5_ := Aside0.mk (hb); have n6_ := Aside0.mk (ho); clear HO_4; clear HO_5; clear BK349; clear HO374; clear HO380; clear HB; clear HO377; have HO_4 := n0_; have HO_5 := n1_; have BK349 := n2_; have HO374 := n3_; have HO380 := n4_; have HB := n5_; have HO383 := n6_; clear n0_ n1_ n2_ n3_ n4_ n5_ n6_; clear ho hb hg hat))
           go_meet
           case rel => exact ⟨_, (y381), H', ⟨by have := HK1.out; have := HJ26.out; first | omega | exact Nat.le_refl _⟩, ⟨by (with_reducible repeat (first | apply Kd.R_alloc | apply Kd.R_drewN | apply Kd.R_drew)); exact Kd.R_mono HO383.out (fun _ hk => trivial)⟩, ⟨kA BK349.out⟩, ⟨bG⟩⟩
          ·rw [if_neg c43] at H
           exact absurd H (by simp)
         ·rw [if_neg c41] at H
          have c41b0 : decide (0 < (x5_1.length : Int)) = false := decide_eq_false c41
          have c41b1 : decide (0 < x5_1.length) = false := decide_eq_false (by omega)
          clear c41
          (first | rw [c41b0] | (simp only [i64_w, i32_w]; rw [c41b0]) | rw [c41b1] | (simp only [c41b1]) | skip)
          have H' := Aside0.mk H
          clear H
          go_wp2
          go_meet
          case rel => exact ⟨_, (y375), H', ⟨by have := HK1.out; have := HJ26.out; first | omega | exact Nat.le_refl _⟩, ⟨by (with_reducible repeat (first | apply Kd.R_alloc | apply Kd.R_drewN | apply Kd.R_drew)); exact Kd.R_mono HO377.out (fun _ hk => trivial)⟩, ⟨kA BK349.out⟩, ⟨bG⟩⟩
        case rest =>
         clear HC36
         try clear c1
         try clear c2
         try clear p2
         try clear c3
         try clear p3
         try clear q3
         try clear hx3
         try clear c4
         try clear c5
         try clear p6
         try clear c12
         try clear c12b0
         try clear c13
         try clear c13b0
         try clear c14
         try clear c14b0
         try clear c15
         try clear c15b0
         try clear c16
         try clear c18
         try clear c21
         try clear c23
         try clear c27
         try clear c31
         try clear c31b0
         try clear c31b1
         try clear c32
         try clear c35
         try clear p35
         try clear q35
         try clear hx35
         try clear c41
         try clear c41b0
         try clear c41b1
         try clear c43
         try clear hcz11_0
         try clear hcz11_1
         try clear hcz19_0
         try clear hcz19_1
         try clear hcz24_0
         try clear hcz24_1
         try clear hcz28_0
         try clear hcz28_1
         try clear hcz5_0
         try clear hcz5_1
         try clear hfz11_0
         try clear hfz11_1
         try clear hfz19_0
         try clear hfz19_1
         try clear hfz24_0
         try clear hfz24_1
         try clear hfz28_0
         try clear hfz28_1
         try clear hfz5_0
         try clear hfz5_1
         try clear hx357_0
         try clear hx357_1
         try clear p2
         try clear p3
         try clear p357
         try clear p6
         try clear q3
         try clear q357
         obtain ⟨kq, x8_35, HA, HJ35, HO_8, BK349, HB⟩ := hcut
         cases kq with
         | zero => exact absurd HA.out (by simp [spec_Encode.j2])
         | succ kj35 =>
          have H := HA.out
          clear HA
          simp only [spec_Encode.j2] at H
          have H' := Aside0.mk H
          clear H
          have hcz47_0 : wc.cell? ⟨gb349, 0, none⟩ = some (.string a0_0) := (blk_cell BK349.out 0).trans rfl
          have hcz47_1 : wc.cell? ⟨gb349, 1, none⟩ = some (.slice A0_1 l0_1.length c0_1) := (blk_cell BK349.out 1).trans rfl
          have hfz47_0 := blk_frozen BK349.out 0
          have hfz47_1 := blk_frozen BK349.out 1
          go_wp2
          go_loopg [8, 67] kj35 (fun kq v8 v67 w' => ∃ (x8_4 : List Int) (x67_4 : Int), v67 = .int .i64 x67_4 ∧ Aside0 (spec_Encode.l1 kq x8_4 l0_1 (l0_1.length : Int) x67_4 = some (r1, r2)) ∧ Aside0 (kq ≤ kj35) ∧ Aside0 (Kd.R (Kd.int .u8) 5 w' w.heap.size (fun _ => True) v8 x8_4) ∧ Aside0 (w'.heap[gb349]? = some (.cells #[.string a0_0, (.slice A0_1 l0_1.length c0_1)] 49 (0, 0))) ∧ Aside0 (Below w.heap.size w w'))
          case atStart => exact ⟨(x8_35), (0), (by first | rfl | (simp; done) | (simp [*]; done) | (simp [i64_w, IntKind.wrap_u8, e256_]; done) | (simp; generalize ByteArray.toList _ = zz_; cases zz_ <;> rfl)), H', ⟨Nat.le_refl _⟩, ⟨rA HO_8.out⟩, ⟨kA BK349.out⟩, ⟨bG⟩⟩
          case round =>
           clear H'
           try clear c1
           try clear c2
           try clear p2
           try clear c3
           try clear p3
           try clear q3
           try clear hx3
           try clear c4
           try clear c5
           try clear p6
           try clear c12
           try clear c12b0
           try clear c13
           try clear c13b0
           try clear c14
           try clear c14b0
           try clear c15
           try clear c15b0
           try clear c16
           try clear c18
           try clear c21
           try clear c23
           try clear c27
           try clear c31
           try clear c31b0
           try clear c31b1
           try clear c32
           try clear c35
           try clear p35
           try clear q35
           try clear hx35
           try clear c41
           try clear c41b0
           try clear c41b1
           try clear c43
           try clear hcz11_0
           try clear hcz11_1
           try clear hcz19_0
           try clear hcz19_1
           try clear hcz24_0
           try clear hcz24_1
           try clear hcz28_0
           try clear hcz28_1
           try clear hcz47_0
           try clear hcz47_1
           try clear hcz5_0
           try clear hcz5_1
           try clear hfz11_0
           try clear hfz11_1
           try clear hfz19_0
           try clear hfz19_1
           try clear hfz24_0
           try clear hfz24_1
           try clear hfz28_0
           try clear hfz28_1
           try clear hfz47_0
           try clear hfz47_1
           try clear hfz5_0
           try clear hfz5_1
           try clear hx357_0
           try clear hx357_1
           try clear p2
           try clear p3
           try clear p35
           try clear p357
           try clear p6
           try clear q3
           try clear q35
           try clear q357
           obtain ⟨x8_4, x67_4, rfl, HA, HK4, HO_8, BK349, HB⟩ := hrel
           cases gk with
           | zero => exact absurd HA.out (by simp [spec_Encode.l1])
           | succ k4 =>
            have H := HA.out
            clear HA
            simp only [spec_Encode.l1] at H
            by_cases c48 : x67_4 < (l0_1.length : Int)
            ·rw [if_pos c48] at H
             have c48b0 : decide (x67_4 < (l0_1.length : Int)) = true := decide_eq_true c48
             clear c48
             by_cases c49 : 0 ≤ x67_4
             ·rw [if_pos c49] at H
              have c49b0 : decide (0 ≤ x67_4) = true := decide_eq_true c49
              clear c49
              by_cases c50 : x67_4 < (l0_1.length : Int)
              ·rw [if_pos c50] at H
               have c50b0 : decide (x67_4 < (l0_1.length : Int)) = true := decide_eq_true c50
               clear c50
               replace H := Option.bind_eq_some_iff.mp H
               obtain ⟨⟨t386, t387⟩, A510, H⟩ := H
               replace H : (if x8_4.length + t386.length < 140737488355328 then (spec_Encode.l1 k4 (x8_4 ++ t386) l0_1 (l0_1.length : Int) (wrap64 (x67_4 + 1))) else (none)) = some (r1, r2) := H
               have A51 := Aside0.mk A510
               clear A510
               by_cases c52 : x8_4.length + t386.length < 140737488355328
               ·rw [if_pos c52] at H
                have LMc52 := Aside0.mk c52
                clear c52
                obtain ⟨y390, hy390⟩ : ∃ y_ : List Int, y_ = (x8_4 ++ t386) := ⟨_, rfl⟩
                replace H : (spec_Encode.l1 k4 y390 l0_1 (l0_1.length : Int) (wrap64 (x67_4 + 1))) = some (r1, r2) := by first | (rw [hy390]; with_reducible exact H) | (have H2_ := (Option.bind_some _ _).symm.trans H; rw [hy390]; with_reducible exact H2_) | (have H2_ := (Option.bind_some _ _).symm.trans H; with_reducible exact H2_) | with_reducible exact H | (rw [hy390]; exact H) | exact H
                have Ny390 := Aside0.mk hy390
                clear hy390
                have H' := Aside0.mk H
                clear H
                have p384 : 0 ≤ (x67_4 : Int) := of_decide_eq_true (by first | (with_reducible assumption) | assumption)
                have q384 : x67_4 < (l0_1.length : Int) := of_decide_eq_true (by first | (with_reducible assumption) | assumption)
                obtain ⟨ad384, e384, hx384_0, hx384_1⟩ := at_T79 HR0_1.out x67_4 p384 q384
                cases e384
                replace hx384_0 := (HB.out.cell (World.block_lt_of_cell? w _ hx384_0)).trans hx384_0
                replace hx384_1 := (HB.out.cell (World.block_lt_of_cell? w _ hx384_1)).trans hx384_1
                replace p384 := eq_true p384
                replace q384 := eq_true q384
                go_wp2_with (first | ((with_reducible refine gate_dst (N := 11) rfl ?_); refine box_event ?hg (N := 11) ?hd (cs := #[.int .i64 0, .string (⟨#[]⟩ : ByteArray)]) (t := 79) ?hr ?_; (case hd => rfl); (case hg => rfl); (case hr => first | (go_simp; done) | (go_simp; rfl)); intro gb385 hg w53 hbox hb; have n0_ := Aside0.mk (Kd.R_below (rA HO_8.out) hb); have n1_ := Aside0.mk (blk_below (g := gb349) (o := .cells #[.string a0_0, .slice (some ad384) l0_1.length c0_1] 49 (0, 0)) (kA BK349.out) hb); have n2_ := Aside0.mk (below_step bG hb); have n3_ := Aside0.mk (hbox); have n4_ := Aside0.mk ((by rw [hg]; exact (below_size bG) : w.heap.size ≤ gb385)); have n5_ := Aside0.mk ((by rw [hg]; exact (below_size bG) : w.heap.size ≤ gb385)); have n6_ := Aside0.mk ((by rw [hg]; exact Nat.ne_of_lt (blk_lt (g := gb349) (o := .cells #[.string a0_0, .slice (some ad384) l0_1.length c0_1] 49 (0, 0)) (kA BK349.out)) : gb349 ≠ gb385)); have n7_ := Aside0.mk ((by rw [hg]; exact Nat.ne_of_gt (blk_lt (g := gb349) (o := .cells #[.string a0_0, .slice (some ad384) l0_1.length c0_1] 49 (0, 0)) (kA BK349.out)) : gb385 ≠ gb349)); clear HO_8; clear BK349; clear HB; have HO_8 := n0_; have BK349 := n1_; have HB := n2_; have BK385 := n3_; have GW385 := n4_; have GE385 := n5_; have NB349_385 := n6_; have NB385_349 := n7_; clear n0_ n1_ n2_ n3_ n4_ n5_ n6_ n7_; clear hb hbox hg; have hnb54 := NB385_349.out; have hnc54 := NB349_385.out; have hcz55_0 : w53.cell? ⟨gb385, 0, none⟩ = some (.int .i64 0) := (blk_cell BK385.out 0).trans rfl; have hcz55_1 : w53.cell? ⟨gb385, 1, none⟩ = some (.string (⟨#[]⟩ : ByteArray)) := (blk_cell BK385.out 1).trans rfl; have hfz55_0 := blk_frozen BK385.out 0; have hfz55_1 := blk_frozen BK385.out 1) | ((with_reducible refine gate_callee (f := 21) rfl ?_); refine goesM_ (some 76) rfl rfl Tryd.func21 (by kernel_rfl) rfl #[.int .i64 ((rd_T79 l0_1 x67_4).f0), .string ((rd_T79 l0_1 x67_4).f1)] rfl ?_; (with_reducible refine (spec_PutField.calls ((rd_T79 l0_1 x67_4).f0) ((rd_T79 l0_1 x67_4).f1) t386 t387 _ A51.out).mono ?_); rintro e w56 ⟨v388, rfl, ho0, hb⟩; refine ⟨_, rfl, ?_⟩; have n0_ := Aside0.mk (Kd.R_elder' (by (with_reducible repeat (first | apply Kd.R_alloc | apply Kd.R_drewN | apply Kd.R_drew)); exact (Kd.R_mono (Kd.R_far (p := ⟨gb385, 1, none⟩) (Kd.R_far (p := ⟨gb385, 0, none⟩) (Kd.R_types HO_8.out BK385.out (by decide)) (fun _ hk => hk.2) (.int .i64 ((rd_T79 l0_1 x67_4).f0))) (fun _ hk => hk.2) (.string ((rd_T79 l0_1 x67_4).f1))) (fun _ h_ => h_.1))) (Kd.R_base ho0) hb); have n1_ := Aside0.mk (Kd.R_lower (Kd.R_new' ho0 (Kd.R_lt (by (with_reducible repeat (first | apply Kd.R_alloc | apply Kd.R_drewN | apply Kd.R_drew)); exact (Kd.R_mono (Kd.R_far (p := ⟨gb385, 1, none⟩) (Kd.R_far (p := ⟨gb385, 0, none⟩) (Kd.R_types HO_8.out BK385.out (by decide)) (fun _ hk => hk.2) (.int .i64 ((rd_T79 l0_1 x67_4).f0))) (fun _ hk => hk.2) (.string ((rd_T79 l0_1 x67_4).f1))) (fun _ h_ => h_.1))))) (below_size bG)); have n2_ := Aside0.mk (blk_below (g := gb349) (o := .cells #[.string a0_0, .slice (some ad384) l0_1.length c0_1] 49 (0, 0)) (by (with_reducible repeat (first | refine blk_drewN ?_ _ | refine blk_drew ?_ | refine blk_alloc ?_ _)); refine blk_far ?_ NB349_385.out _; (with_reducible repeat (first | refine blk_drewN ?_ _ | refine blk_drew ?_ | refine blk_alloc ?_ _)); refine blk_far ?_ NB349_385.out _; (with_reducible repeat (first | refine blk_drewN ?_ _ | refine blk_drew ?_ | refine blk_alloc ?_ _)); exact BK349.out) hb); have n3_ := Aside0.mk (blk_below (g := gb385) (o := .cells #[.int .i64 ((rd_T79 l0_1 x67_4).f0), .string ((rd_T79 l0_1 x67_4).f1)] 79 (0, 0)) (by (with_reducible repeat (first | refine blk_drewN ?_ _ | refine blk_drew ?_ | refine blk_alloc ?_ _)); refine blk_put (cs := #[.int .i64 ((rd_T79 l0_1 x67_4).f0), .string (⟨#[]⟩ : ByteArray)]) ?_ 1 _ rfl; (with_reducible repeat (first | refine blk_drewN ?_ _ | refine blk_drew ?_ | refine blk_alloc ?_ _)); refine blk_put (cs := #[.int .i64 0, .string (⟨#[]⟩ : ByteArray)]) ?_ 0 _ rfl; (with_reducible repeat (first | refine blk_drewN ?_ _ | refine blk_drew ?_ | refine blk_alloc ?_ _)); exact BK385.out) hb); have n4_ := Aside0.mk (below_step bG hb); clear HO_8; clear BK349; clear BK385; clear HB; have HO_8 := n0_; have HO389 := n1_; have BK349 := n2_; have BK385 := n3_; have HB := n4_; clear n0_ n1_ n2_ n3_ n4_; (try clear hb); (try clear hb2); (try clear hk); (try clear hi); (try clear ho0); obtain ⟨Ao58, co58, eo58⟩ := Kd.R_slice HO389.out; subst eo58) | ((with_reducible refine gate_builtin (b := .append) (xs := #[.tmp 79, .tmp 80]) rfl ?_); at_builtin; refine Kd.R_append_rows (Kd.int .u8) (w0 := w) w.heap.size rfl (.tmp 79) (.tmp 80) 22 5 (.int .u8 0) 1 rfl Tryd.underlying22 info5 rfl (by decide) (by omega) u8 x8_4 t386 _ _ _ (fun k_ => some k_ ≠ (.slice Ao58 t386.length co58 : Value).ownBlock) (fun _ => False) rfl rfl ?aO ?aR (fun _ _ h => h) (fun _ h => h.elim) ?aF ?aB ?aS ?aL ?_; (case aR => repeat (first | exact (Kd.R_reads' HO389.out).2.2 | (with_reducible refine Kd.C_alloc ?_ _) | (with_reducible refine Kd.C_drewN ?_ _) | (with_reducible refine Kd.C_drew ?_))); (case aB => exact bG); (case aF => exact (fun k_ hk => Kd.fresh' (Kd.R_lt (rA HO389.out)) k_ hk)); (case aO => exact (by (with_reducible repeat (first | apply Kd.R_alloc | apply Kd.R_drewN | apply Kd.R_drew)); exact Kd.R_mono HO_8.out (fun _ hk => hk.2))); (case aS => exact (below_size bG)); (case aL => have := LMc52.out; omega); intro v391 w57 ho hb hg hat; rw [← Ny390.out] at ho; have n0_ := Aside0.mk (blk_grown (g := gb349) (o := .cells #[.string a0_0, .slice (some ad384) l0_1.length c0_1] 49 (0, 0)) (kA BK349.out) hg (Kd.R_ne HO_8.out BK349.out (by decide))); have n1_ := Aside0.mk (blk_grown (g := gb385) (o := .cells #[.int .i64 ((rd_T79 l0_1 x67_4).f0), .string ((rd_T79 l0_1 x67_4).f1)] 79 (0, 0)) (kA BK385.out) hg (Kd.R_ne HO_8.out BK385.out (by decide))); have n2_ := Aside0.mk (Kd.R_after (ok := (fun _ => True)) (rA HO389.out) hg hat); have n3_ := Aside0.mk (hb); have n4_ := Aside0.mk (ho); clear BK349; clear BK385; clear HO389; clear HB; clear HO_8; have BK349 := n0_; have BK385 := n1_; have HO389 := n2_; have HB := n3_; have HO392 := n4_; clear n0_ n1_ n2_ n3_ n4_; clear ho hb hg hat))
                go_roundg k4
                case measure => have := HK1.out; have := HJ26.out; have := HJ35.out; have := HK4.out; omega
                case rel => exact ⟨(y390), (wrap64 (x67_4 + 1)), (by first | rfl | (simp; done) | (simp [*]; done) | (simp [i64_w, IntKind.wrap_u8, e256_]; done) | (simp; generalize ByteArray.toList _ = zz_; cases zz_ <;> rfl)), H', ⟨by have := HK1.out; have := HJ26.out; have := HJ35.out; have := HK4.out; omega⟩, ⟨by (with_reducible repeat (first | apply Kd.R_alloc | apply Kd.R_drewN | apply Kd.R_drew)); exact Kd.R_mono HO392.out (fun _ hk => trivial)⟩, ⟨kA BK349.out⟩, ⟨bG⟩⟩
               ·rw [if_neg c52] at H
                exact absurd H (by simp)
              ·rw [if_neg c50] at H
               exact absurd H (by simp)
             ·rw [if_neg c49] at H
              exact absurd H (by simp)
            ·rw [if_neg c48] at H
             have c48b0 : decide (x67_4 < (l0_1.length : Int)) = false := decide_eq_false c48
             clear c48
             simp only [Option.some.injEq, Prod.mk.injEq] at H
             obtain ⟨rfl, rfl⟩ := H
             go_wp2
             go_ret2
             exact ⟨_, by first | rfl | (simp [errW_none, errW_some] <;> rfl) | (simp [*, errW_none, errW_some] <;> rfl), rA HO_8.out, bG⟩
       ·rw [if_neg c35] at H
        exact absurd H (by simp)
 ·replace c3 := Bool.eq_false_iff.mpr c3
  subst c3
  have H1 : (some (([] : List Int), false)) = some (r1, r2) := by rw [if_neg (show ¬ (false = true) by decide)] at H; exact H
  clear H
  have H := H1
  clear H1
  simp only [Option.some.injEq, Prod.mk.injEq] at H
  obtain ⟨rfl, rfl⟩ := H
  go_enter Tryd.func27, Tryd.ntmps27
  go_wp2_with (first | ((with_reducible refine gate_dst (N := 1) rfl ?_); refine box_event ?hg (N := 1) ?hd (cs := #[.string a0_0, .slice A0_1 l0_1.length c0_1]) (t := 49) ?hr ?_; (case hd => rfl); (case hg => rfl); (case hr => first | (go_simp; done) | (go_simp; rfl)); intro gb349 hg w59 hbox hb; have n0_ := Aside0.mk (below_step bB hb); have n1_ := Aside0.mk (hbox); have n2_ := Aside0.mk ((by rw [hg]; exact (below_size bB) : w.heap.size ≤ gb349)); have n3_ := Aside0.mk ((by rw [hg]; exact (below_size bB) : w.heap.size ≤ gb349)); clear HB; have HB := n0_; have BK349 := n1_; have GW349 := n2_; have GE349 := n3_; clear n0_ n1_ n2_ n3_; clear hb hbox hg; have hcz60_0 : w59.cell? ⟨gb349, 0, none⟩ = some (.string a0_0) := (blk_cell BK349.out 0).trans rfl; have hcz60_1 : w59.cell? ⟨gb349, 1, none⟩ = some (.slice A0_1 l0_1.length c0_1) := (blk_cell BK349.out 1).trans rfl; have hfz60_0 := blk_frozen BK349.out 0; have hfz60_1 := blk_frozen BK349.out 1) | ((with_reducible refine gate_callee (f := 58) rfl ?_); refine goesM_ (some 15) rfl rfl Tryd.func58 (by kernel_rfl) rfl #[.agg #[.string a0_0, .slice A0_1 l0_1.length c0_1]] rfl ?_; (with_reducible refine (spec_MsgOk.calls k a0_0 _ _ l0_1 false _ ?side1 ?side2 A2.out).mono ?_); (case side1 => repeat (first | exact (Kd.C_below HR0_1.out HB.out) | (with_reducible refine Kd.C_alloc ?_ _) | (with_reducible refine Kd.C_drewN ?_ _) | (with_reducible refine Kd.C_drew ?_))); (case side2 => exact HC0_1.out); rintro e w61 ⟨rfl, hb⟩; refine ⟨_, rfl, ?_⟩; have n0_ := Aside0.mk (blk_below (g := gb349) (o := .cells #[.string a0_0, .slice A0_1 l0_1.length c0_1] 49 (0, 0)) (kA BK349.out) hb); have n1_ := Aside0.mk (below_step bG hb); clear BK349; clear HB; have BK349 := n0_; have HB := n1_; clear n0_ n1_; (try clear hb); (try clear hb2); (try clear hk); (try clear hi)))
  go_ret2
  exact ⟨_, by first | rfl | (simp [errW_none, errW_some] <;> rfl) | (simp [*, errW_none, errW_some] <;> rfl), by first | exact Kd.R_nil _ _ _ _ _ | exact Kd.N_nil _ _ _ _ _ | exact Kd.V_nil _ _ _ _ _ | exact Kd.Q_nil _ _ _ _ _ | exact Kd.S_nil _ _ _ _ _, bG⟩
end Go.Proofs.YtfiieppnpmodoaaDoor.Q
end
