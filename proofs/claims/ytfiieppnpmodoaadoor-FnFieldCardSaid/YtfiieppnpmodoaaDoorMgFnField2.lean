/- Texts for FnField, packed by a program of this session (wip/pack.py), part 2 of 3: the print's words that are used, the printed walks, the plain laws, the row; no condition. -/
import Derived.Test.YtfiieppnpmodoaaDoorMgFnField1
import Derived.Lib.ConvBytes
import Derived.Test.YtfiieppnpmodoaaDoorRows
import Derived.LaidLaws
import Derived.Stop.LaidErr
import Derived.ChangeMaps5
section
namespace Go.Proofs.YtfiieppnpmodoaaDoor.Q
open Go.RowKit Go.Proofs.YtfiieppnpmodoaaDoorW.PrintWords Go.Proofs.YtfiieppnpmodoaaDoorW.PrintLast Go.Proofs.YtfiieppnpmodoaaDoorW.PrintMore
attribute [local go_sem] max2_int min2_int max_two min_two max_three min_three max_four min_four
set_option linter.unusedVariables false
set_option linter.unusedSimpArgs false
def impl_GetLen.f (k : Nat) (l0 : List Int) (a1 : Int) (a2 : Int) : Option (Int × Int × Bool) := (impl_within.f a2 2 3).bind fun t187 => (if t187 = true then ((impl_GetBcd.f k l0 a1 a2).bind fun bt188 => (if bt188.2.2 = true then ((impl_Narrow.f bt188.1).bind fun bt191 => (some (bt191.1, bt188.2.1, true))) else (some (0, 0, false)))) else (some (0, 0, false)))
set_option maxHeartbeats 8000000 in
set_option maxRecDepth 100000 in
theorem impl_GetLen.calls (k : Nat) (A0 : Option Addr) (c0 : Nat) (l0 : List Int) (a1 : Int) (a2 : Int) (r1 : Int) (r2 : Int) (r3 : Bool) (w : World) (hr0 : Kd.C (Kd.int .u8) w A0 l0.length l0) (hc0 : l0.length ≤ c0) (hG : GLW w) (h : impl_GetLen.f k l0 a1 a2 = some (r1, r2, r3)) :
  Calls Tryd.prog 14 #[.slice A0 l0.length c0, .int .i64 a1, .int .i64 a2] w fun e w' => e = .returned (.tuple #[.int .i64 r1, .int .i64 r2, .bool r3]) ∧ Below w.heap.size w w' := by
 have HR0 := Aside0.mk hr0
 have HC0 := Aside0.mk hc0
 clear hr0 hc0
 have HB := Aside0.mk (Below.refl w.heap.size w)
 have HG := Aside0.mk hG
 clear hG
 have H : ((impl_within.f a2 2 3).bind fun t187 => (if t187 = true then ((impl_GetBcd.f k l0 a1 a2).bind fun bt188 => (if bt188.2.2 = true then ((impl_Narrow.f bt188.1).bind fun bt191 => (some (bt191.1, bt188.2.1, true))) else (some (0, 0, false)))) else (some (0, 0, false)))) = some (r1, r2, r3) := h
 clear h
 replace H := Option.bind_eq_some_iff.mp H
 obtain ⟨t187, A40, H⟩ := H
 replace H : (if t187 = true then ((impl_GetBcd.f k l0 a1 a2).bind fun bt188 => (if bt188.2.2 = true then ((impl_Narrow.f bt188.1).bind fun bt191 => (some (bt191.1, bt188.2.1, true))) else (some (0, 0, false)))) else (some (0, 0, false))) = some (r1, r2, r3) := H
 have A4 := Aside0.mk A40
 clear A40
 by_cases c5 : t187 = true
 ·subst c5
  have H1 : ((impl_GetBcd.f k l0 a1 a2).bind fun bt188 => (if bt188.2.2 = true then ((impl_Narrow.f bt188.1).bind fun bt191 => (some (bt191.1, bt188.2.1, true))) else (some (0, 0, false)))) = some (r1, r2, r3) := by rw [if_pos rfl] at H; exact H
  clear H
  have H := H1
  clear H1
  replace H := Option.bind_eq_some_iff.mp H
  obtain ⟨⟨t188, t189, t190⟩, A60, H⟩ := H
  replace H : (if t190 = true then ((impl_Narrow.f t188).bind fun bt191 => (some (bt191.1, t189, true))) else (some (0, 0, false))) = some (r1, r2, r3) := H
  have A6 := Aside0.mk A60
  clear A60
  by_cases c7 : t190 = true
  ·subst c7
   have H1 : ((impl_Narrow.f t188).bind fun bt191 => (some (bt191.1, t189, true))) = some (r1, r2, r3) := by rw [if_pos rfl] at H; exact H
   clear H
   have H := H1
   clear H1
   replace H := Option.bind_eq_some_iff.mp H
   obtain ⟨⟨t191, t192⟩, A80, H⟩ := H
   replace H : (some (t191, t189, true)) = some (r1, r2, r3) := H
   have A8 := Aside0.mk A80
   clear A80
   simp only [Option.some.injEq, Prod.mk.injEq] at H
   obtain ⟨rfl, rfl, rfl⟩ := H
   go_enter Tryd.func14, Tryd.ntmps14
   go_wp2_with (first | ((with_reducible refine gate_callee (f := 45) rfl ?_); refine goesM_ (some 15) rfl rfl Tryd.func45 (by kernel_rfl) rfl #[.int .i64 a2, .int .i64 2, .int .i64 3] rfl ?_; (with_reducible refine (impl_within.calls a2 2 3 true _ A4.out).mono ?_); rintro e w' ⟨rfl, ⟨nd, rfl⟩⟩; refine ⟨_, rfl, ?_⟩) | ((with_reducible refine gate_callee (f := 11) rfl ?_); refine goesM_ (some 21) rfl rfl Tryd.func11 (by kernel_rfl) rfl #[.slice A0 l0.length c0, .int .i64 a1, .int .i64 a2] rfl ?_; (with_reducible refine (impl_GetBcd.calls k _ _ l0 a1 a2 t188 t189 true _ ?side1 ?side2 A6.out).mono ?_); (case side1 => repeat (first | exact HR0.out | (with_reducible refine Kd.C_alloc ?_ _) | (with_reducible refine Kd.C_drewN ?_ _) | (with_reducible refine Kd.C_drew ?_))); (case side2 => exact HC0.out); rintro e w9 ⟨rfl, hb⟩; refine ⟨_, rfl, ?_⟩; have n0_ := Aside0.mk (below_step bB hb); clear HB; have HB := n0_; clear n0_; (try clear hb); (try clear hb2); (try clear hk); (try clear hi)) | ((with_reducible refine gate_callee (f := 48) rfl ?_); refine goesM_ (some 29) rfl rfl Tryd.func48 (by kernel_rfl) rfl #[.string t188] rfl ?_; (with_reducible refine (impl_Narrow.calls t188 t191 t192 _ ?side1 A8.out).mono ?_); (case side1 => exact GLW_below HG.out bB); rintro e w10 ⟨rfl, hb⟩; refine ⟨_, rfl, ?_⟩; have n0_ := Aside0.mk (below_step bB hb); clear HB; have HB := n0_; clear n0_; (try clear hb); (try clear hb2); (try clear hk); (try clear hi)))
   go_ret3
   exact ⟨by first | rfl | (simp [errW_none, errW_some] <;> rfl) | (simp [*, errW_none, errW_some] <;> rfl), bB⟩
  ·replace c7 := Bool.eq_false_iff.mpr c7
   subst c7
   have H1 : (some (0, 0, false)) = some (r1, r2, r3) := by rw [if_neg (show ¬ (false = true) by decide)] at H; exact H
   clear H
   have H := H1
   clear H1
   simp only [Option.some.injEq, Prod.mk.injEq] at H
   obtain ⟨rfl, rfl, rfl⟩ := H
   go_enter Tryd.func14, Tryd.ntmps14
   go_wp2_with (first | ((with_reducible refine gate_callee (f := 45) rfl ?_); refine goesM_ (some 15) rfl rfl Tryd.func45 (by kernel_rfl) rfl #[.int .i64 a2, .int .i64 2, .int .i64 3] rfl ?_; (with_reducible refine (impl_within.calls a2 2 3 true _ A4.out).mono ?_); rintro e w' ⟨rfl, ⟨nd, rfl⟩⟩; refine ⟨_, rfl, ?_⟩) | ((with_reducible refine gate_callee (f := 11) rfl ?_); refine goesM_ (some 21) rfl rfl Tryd.func11 (by kernel_rfl) rfl #[.slice A0 l0.length c0, .int .i64 a1, .int .i64 a2] rfl ?_; (with_reducible refine (impl_GetBcd.calls k _ _ l0 a1 a2 t188 t189 false _ ?side1 ?side2 A6.out).mono ?_); (case side1 => repeat (first | exact HR0.out | (with_reducible refine Kd.C_alloc ?_ _) | (with_reducible refine Kd.C_drewN ?_ _) | (with_reducible refine Kd.C_drew ?_))); (case side2 => exact HC0.out); rintro e w11 ⟨rfl, hb⟩; refine ⟨_, rfl, ?_⟩; have n0_ := Aside0.mk (below_step bB hb); clear HB; have HB := n0_; clear n0_; (try clear hb); (try clear hb2); (try clear hk); (try clear hi)))
   go_ret3
   exact ⟨by first | rfl | (simp [errW_none, errW_some] <;> rfl) | (simp [*, errW_none, errW_some] <;> rfl), bB⟩
 ·replace c5 := Bool.eq_false_iff.mpr c5
  subst c5
  have H1 : (some (0, 0, false)) = some (r1, r2, r3) := by rw [if_neg (show ¬ (false = true) by decide)] at H; exact H
  clear H
  have H := H1
  clear H1
  simp only [Option.some.injEq, Prod.mk.injEq] at H
  obtain ⟨rfl, rfl, rfl⟩ := H
  go_enter Tryd.func14, Tryd.ntmps14
  go_wp2_with (first | ((with_reducible refine gate_callee (f := 45) rfl ?_); refine goesM_ (some 15) rfl rfl Tryd.func45 (by kernel_rfl) rfl #[.int .i64 a2, .int .i64 2, .int .i64 3] rfl ?_; (with_reducible refine (impl_within.calls a2 2 3 false _ A4.out).mono ?_); rintro e w' ⟨rfl, ⟨nd, rfl⟩⟩; refine ⟨_, rfl, ?_⟩))
  go_ret3
  exact ⟨by first | rfl | (simp [errW_none, errW_some] <;> rfl) | (simp [*, errW_none, errW_some] <;> rfl), bB⟩
attribute [local go_sem] max2_int min2_int max_two min_two max_three min_three max_four min_four
set_option linter.unusedVariables false
set_option linter.unusedSimpArgs false
def impl_FieldKind.f (k : Nat) (a0 : Int) : Option (Int) := (impl_rowOf.f k a0).bind fun bt314 => (some bt314.2.1)
set_option maxHeartbeats 8000000 in
set_option maxRecDepth 100000 in
theorem impl_FieldKind.calls (k : Nat) (a0 : Int) (r : Int) (w : World) (h : impl_FieldKind.f k a0 = some r) :
  Calls Tryd.prog 55 #[.int .i64 a0] w fun e w' => e = .returned (.int .i64 r) ∧ Below w.heap.size w w' := by
 have hfd85_1 : ∀ (x0_ x1_ x2_ : Value) (W : World), (Instr.field 85 (.agg #[x0_, x1_, x2_]) 1).run Tryd.prog W = .ok (x1_) W := fun _ _ _ _ => by kernel_rfl
 have HB := Aside0.mk (Below.refl w.heap.size w)
 have H : ((impl_rowOf.f k a0).bind fun bt314 => (some bt314.2.1)) = some r := h
 clear h
 replace H := Option.bind_eq_some_iff.mp H
 obtain ⟨⟨t314, t315, t316⟩, A20, H⟩ := H
 replace H : (some t315) = some r := H
 have A2 := Aside0.mk A20
 clear A20
 obtain rfl := Option.some.inj H
 go_enter Tryd.func55, Tryd.ntmps55
 go_wp2_with (first | ((with_reducible refine gate_callee (f := 66) rfl ?_); refine goesM_ (some 4) rfl rfl Tryd.func66 (by kernel_rfl) rfl #[.int .i64 a0] rfl ?_; (with_reducible refine (impl_rowOf.calls k a0 t314 t315 t316 _ A2.out).mono ?_); rintro e w3 ⟨rfl, hb⟩; refine ⟨_, rfl, ?_⟩; have n0_ := Aside0.mk (below_step bB hb); clear HB; have HB := n0_; clear n0_; (try clear hb); (try clear hb2); (try clear hk); (try clear hi)))
 go_ret
 exact ⟨by first | rfl | (simp [errW_none, errW_some] <;> rfl) | (simp [*, errW_none, errW_some] <;> rfl), bB⟩
def impl_lenDigits.f (k : Nat) (a0 : Int) : Option (Int) := (impl_FieldKind.f k a0).bind fun t317 => (if t317 = 5 then (some 3) else (some 2))
set_option maxHeartbeats 8000000 in
set_option maxRecDepth 100000 in
theorem impl_lenDigits.calls (k : Nat) (a0 : Int) (r : Int) (w : World) (h : impl_lenDigits.f k a0 = some r) :
  Calls Tryd.prog 56 #[.int .i64 a0] w fun e w' => e = .returned (.int .i64 r) ∧ Below w.heap.size w w' := by
 have HB := Aside0.mk (Below.refl w.heap.size w)
 have H : ((impl_FieldKind.f k a0).bind fun t317 => (if t317 = 5 then (some 3) else (some 2))) = some r := h
 clear h
 replace H := Option.bind_eq_some_iff.mp H
 obtain ⟨t317, A20, H⟩ := H
 replace H : (if t317 = 5 then (some 3) else (some 2)) = some r := H
 have A2 := Aside0.mk A20
 clear A20
 by_cases c3 : t317 = 5
 ·rw [if_pos c3] at H
  have c3b0 : (t317 == 5) = true := beq_iff_eq.mpr c3
  have c3b1 : (t317 != 5) = false := bne_eq_false_iff_eq.mpr c3
  clear c3
  obtain rfl := Option.some.inj H
  go_enter Tryd.func56, Tryd.ntmps56
  go_wp2_with (first | ((with_reducible refine gate_callee (f := 55) rfl ?_); refine goesM_ (some 4) rfl rfl Tryd.func55 (by kernel_rfl) rfl #[.int .i64 a0] rfl ?_; (with_reducible refine (impl_FieldKind.calls k a0 t317 _ A2.out).mono ?_); rintro e w4 ⟨rfl, hb⟩; refine ⟨_, rfl, ?_⟩; have n0_ := Aside0.mk (below_step bB hb); clear HB; have HB := n0_; clear n0_; (try clear hb); (try clear hb2); (try clear hk); (try clear hi)))
  go_ret
  exact ⟨by first | rfl | (simp [errW_none, errW_some] <;> rfl) | (simp [*, errW_none, errW_some] <;> rfl), bB⟩
 ·rw [if_neg c3] at H
  have c3b0 : (t317 == 5) = false := beq_eq_false_iff_ne.mpr c3
  have c3b1 : (t317 != 5) = true := bne_iff_ne.mpr c3
  obtain rfl := Option.some.inj H
  go_enter Tryd.func56, Tryd.ntmps56
  go_wp2_with (first | ((with_reducible refine gate_callee (f := 55) rfl ?_); refine goesM_ (some 4) rfl rfl Tryd.func55 (by kernel_rfl) rfl #[.int .i64 a0] rfl ?_; (with_reducible refine (impl_FieldKind.calls k a0 t317 _ A2.out).mono ?_); rintro e w5 ⟨rfl, hb⟩; refine ⟨_, rfl, ?_⟩; have n0_ := Aside0.mk (below_step bB hb); clear HB; have HB := n0_; clear n0_; (try clear hb); (try clear hb2); (try clear hk); (try clear hi)))
  go_ret
  exact ⟨by first | rfl | (simp [errW_none, errW_some] <;> rfl) | (simp [*, errW_none, errW_some] <;> rfl), bB⟩
attribute [local go_sem] max2_int min2_int max_two min_two max_three min_three max_four min_four
set_option linter.unusedVariables false
set_option linter.unusedSimpArgs false
mutual
def impl_GetField.j0 : Nat → List Int → Int → Int → Int → Int → Bool → Bool → Option (ByteArray × Int × Bool)
 | 0, _, _, _, _, _, _, _ => none
 | k + 1, x0, x1, x2, x9, x11, x12, x27 => if x27 = true then ((impl_lenDigits.f k x2).bind fun t586 => ((impl_GetLen.f k x0 x1 t586).bind fun bt587 => (impl_GetField.j1 k x0 bt587.2.1 x2 bt587.1 x11 bt587.2.2))) else (impl_GetField.j1 k x0 x1 x2 x9 x11 x12)
def impl_GetField.j1 : Nat → List Int → Int → Int → Int → Int → Bool → Option (ByteArray × Int × Bool)
 | 0, _, _, _, _, _, _ => none
 | k + 1, x0, x1, x2, x9, x11, x12 => if x12 = true then (if x11 = 1 then (impl_GetField.j2 k x0 x1 x2 x9 true) else (impl_GetField.j2 k x0 x1 x2 x9 (x11 == 3))) else (some ((⟨#[]⟩ : ByteArray), 0, false))
def impl_GetField.j2 : Nat → List Int → Int → Int → Int → Bool → Option (ByteArray × Int × Bool)
 | 0, _, _, _, _, _ => none
 | k + 1, x0, x1, x2, x9, x44 => if x44 = true then ((impl_GetBcd.f k x0 x1 x9).bind fun bt590 => (if bt590.2.2 = true then ((impl_FieldOk.f k x2 bt590.1).bind fun t593 => (if t593 = true then (some (bt590.1, bt590.2.1, true)) else (some ((⟨#[]⟩ : ByteArray), 0, false)))) else (some ((⟨#[]⟩ : ByteArray), 0, false)))) else ((impl_piece.f x0 x1 x9).bind fun bt594 => (if bt594.2 = true then ((impl_FieldOk.f k x2 (strOfNums bt594.1)).bind fun t598 => (if t598 = true then (some (strOfNums bt594.1, wrap64 (x1 + x9), true)) else (some ((⟨#[]⟩ : ByteArray), 0, false)))) else (some ((⟨#[]⟩ : ByteArray), 0, false))))
end
def impl_GetField.f (k : Nat) (l0 : List Int) (a1 : Int) (a2 : Int) : Option (ByteArray × Int × Bool) := (impl_FieldSize.f k a2).bind fun t584 => ((impl_FieldKind.f k a2).bind fun t585 => (if t585 = 3 then (impl_GetField.j0 k l0 a1 a2 t584 t585 true true) else (if t585 = 4 then (impl_GetField.j0 k l0 a1 a2 t584 t585 true true) else (impl_GetField.j0 k l0 a1 a2 t584 t585 true (t585 == 5)))))
set_option maxHeartbeats 8000000 in
set_option maxRecDepth 100000 in
theorem impl_GetField.calls (k : Nat) (A0 : Option Addr) (c0 : Nat) (l0 : List Int) (a1 : Int) (a2 : Int) (r1 : ByteArray) (r2 : Int) (r3 : Bool) (w : World) (hr0 : Kd.C (Kd.int .u8) w A0 l0.length l0) (hc0 : l0.length ≤ c0) (hG : GLW w) (h : impl_GetField.f k l0 a1 a2 = some (r1, r2, r3)) :
  Calls Tryd.prog 33 #[.slice A0 l0.length c0, .int .i64 a1, .int .i64 a2] w fun e w' => e = .returned (.tuple #[.string r1, .int .i64 r2, .bool r3]) ∧ Below w.heap.size w w' := by
 have HR0 := Aside0.mk hr0
 have HC0 := Aside0.mk hc0
 clear hr0 hc0
 have HB := Aside0.mk (Below.refl w.heap.size w)
 have HG := Aside0.mk hG
 clear hG
 have H : ((impl_FieldSize.f k a2).bind fun t584 => ((impl_FieldKind.f k a2).bind fun t585 => (if t585 = 3 then (impl_GetField.j0 k l0 a1 a2 t584 t585 true true) else (if t585 = 4 then (impl_GetField.j0 k l0 a1 a2 t584 t585 true true) else (impl_GetField.j0 k l0 a1 a2 t584 t585 true (t585 == 5)))))) = some (r1, r2, r3) := h
 clear h
 replace H := Option.bind_eq_some_iff.mp H
 obtain ⟨t584, A40, H⟩ := H
 replace H : ((impl_FieldKind.f k a2).bind fun t585 => (if t585 = 3 then (impl_GetField.j0 k l0 a1 a2 t584 t585 true true) else (if t585 = 4 then (impl_GetField.j0 k l0 a1 a2 t584 t585 true true) else (impl_GetField.j0 k l0 a1 a2 t584 t585 true (t585 == 5))))) = some (r1, r2, r3) := H
 have A4 := Aside0.mk A40
 clear A40
 replace H := Option.bind_eq_some_iff.mp H
 obtain ⟨t585, A50, H⟩ := H
 replace H : (if t585 = 3 then (impl_GetField.j0 k l0 a1 a2 t584 t585 true true) else (if t585 = 4 then (impl_GetField.j0 k l0 a1 a2 t584 t585 true true) else (impl_GetField.j0 k l0 a1 a2 t584 t585 true (t585 == 5)))) = some (r1, r2, r3) := H
 have A5 := Aside0.mk A50
 clear A50
 have HC6 := Aside0.mk H
 clear H
 go_enter Tryd.func33, Tryd.ntmps33
 go_upto_region 2 with (first | ((with_reducible refine gate_callee (f := 65) rfl ?_); refine goesM_ (some 15) rfl rfl Tryd.func65 (by kernel_rfl) rfl #[.int .i64 a2] rfl ?_; (with_reducible refine (impl_FieldSize.calls k a2 t584 _ A4.out).mono ?_); rintro e w7 ⟨rfl, hb⟩; refine ⟨_, rfl, ?_⟩; have n0_ := Aside0.mk (below_step bB hb); clear HB; have HB := n0_; clear n0_; (try clear hb); (try clear hb2); (try clear hk); (try clear hi)) | ((with_reducible refine gate_callee (f := 55) rfl ?_); refine goesM_ (some 17) rfl rfl Tryd.func55 (by kernel_rfl) rfl #[.int .i64 a2] rfl ?_; (with_reducible refine (impl_FieldKind.calls k a2 t585 _ A5.out).mono ?_); rintro e w8 ⟨rfl, hb⟩; refine ⟨_, rfl, ?_⟩; have n0_ := Aside0.mk (below_step bB hb); clear HB; have HB := n0_; clear n0_; (try clear hb); (try clear hb2); (try clear hk); (try clear hi)))
 (try simp only [Act.put, List.setIfInBounds_toArray, List.set_cons_zero, List.set_cons_succ])
 go_cut [27] (fun v27 wc => ∃ (kq : Nat) (x27_5 : Bool), v27 = .bool x27_5 ∧ Aside0 (impl_GetField.j0 kq l0 a1 a2 t584 t585 true x27_5 = some (r1, r2, r3)) ∧ Aside0 (kq ≤ k) ∧ Aside0 (Below w.heap.size w wc))
 case first =>
  have H := HC6.out
  clear HC6
  by_cases c9 : t585 = 3
  ·rw [if_pos c9] at H
   have c9b0 : (t585 == 3) = true := beq_iff_eq.mpr c9
   have c9b1 : (t585 != 3) = false := bne_eq_false_iff_eq.mpr c9
   clear c9
   (first | rw [c9b0] | (simp only [i64_w, i32_w]; rw [c9b0]) | rw [c9b1] | (simp only [c9b1]) | skip)
   have H' := Aside0.mk H
   clear H
   go_wp2
   go_meet
   case rel => exact ⟨_, (true), (by first | rfl | (simp; done) | (simp [*]; done) | (simp [i64_w, IntKind.wrap_u8, e256_]; done) | (simp; generalize ByteArray.toList _ = zz_; cases zz_ <;> rfl)), H', ⟨by first | omega | exact Nat.le_refl _⟩, ⟨bB⟩⟩
  ·rw [if_neg c9] at H
   have c9b0 : (t585 == 3) = false := beq_eq_false_iff_ne.mpr c9
   have c9b1 : (t585 != 3) = true := bne_iff_ne.mpr c9
   (first | rw [c9b0] | (simp only [i64_w, i32_w]; rw [c9b0]) | rw [c9b1] | (simp only [c9b1]) | skip)
   by_cases c10 : t585 = 4
   ·rw [if_pos c10] at H
    have c10b0 : (t585 == 4) = true := beq_iff_eq.mpr c10
    have c10b1 : (t585 != 4) = false := bne_eq_false_iff_eq.mpr c10
    clear c10
    have H' := Aside0.mk H
    clear H
    go_wp2
    go_meet
    case rel => exact ⟨_, (true), (by first | rfl | (simp; done) | (simp [*]; done) | (simp [i64_w, IntKind.wrap_u8, e256_]; done) | (simp; generalize ByteArray.toList _ = zz_; cases zz_ <;> rfl)), H', ⟨by first | omega | exact Nat.le_refl _⟩, ⟨bB⟩⟩
   ·rw [if_neg c10] at H
    have c10b0 : (t585 == 4) = false := beq_eq_false_iff_ne.mpr c10
    have c10b1 : (t585 != 4) = true := bne_iff_ne.mpr c10
    have H' := Aside0.mk H
    clear H
    go_wp2
    go_meet
    case rel => exact ⟨_, ((t585 == 5)), (by first | rfl | (simp; done) | (simp [*]; done) | (simp [i64_w, IntKind.wrap_u8, e256_]; done) | (simp; generalize ByteArray.toList _ = zz_; cases zz_ <;> rfl)), H', ⟨by first | omega | exact Nat.le_refl _⟩, ⟨bB⟩⟩
 case rest =>
  clear HC6
  try clear c1
  try clear p2
  try clear c3
  try clear c5
  try clear c6
  try clear p6
  try clear c9
  try clear c9b0
  try clear c9b1
  try clear c10
  try clear c10b0
  try clear c10b1
  obtain ⟨kq, x27_5, rfl, HA, HJ5, HB⟩ := hcut
  cases kq with
  | zero => exact absurd HA.out (by simp [impl_GetField.j0])
  | succ kj5 =>
   have H := HA.out
   clear HA
   simp only [impl_GetField.j0] at H
   have HC11 := Aside0.mk H
   clear H
   go_upto_if 27 with (fail)
   go_cut [1, 9, 12] (fun v1 v9 v12 wc => ∃ (kq : Nat) (x1_10 : Int) (x9_10 : Int) (x12_10 : Bool), v1 = .int .i64 x1_10 ∧ v9 = .int .i64 x9_10 ∧ v12 = .bool x12_10 ∧ Aside0 (impl_GetField.j1 kq l0 x1_10 a2 x9_10 t585 x12_10 = some (r1, r2, r3)) ∧ Aside0 (kq ≤ kj5) ∧ Aside0 (Below w.heap.size w wc))
   case first =>
    have H := HC11.out
    clear HC11
    by_cases c12 : x27_5 = true
    ·subst c12
     have H1 : ((impl_lenDigits.f kj5 a2).bind fun t586 => ((impl_GetLen.f kj5 l0 a1 t586).bind fun bt587 => (impl_GetField.j1 kj5 l0 bt587.2.1 a2 bt587.1 t585 bt587.2.2))) = some (r1, r2, r3) := by rw [if_pos rfl] at H; exact H
     clear H
     have H := H1
     clear H1
     replace H := Option.bind_eq_some_iff.mp H
     obtain ⟨t586, A130, H⟩ := H
     replace H : ((impl_GetLen.f kj5 l0 a1 t586).bind fun bt587 => (impl_GetField.j1 kj5 l0 bt587.2.1 a2 bt587.1 t585 bt587.2.2)) = some (r1, r2, r3) := H
     have A13 := Aside0.mk A130
     clear A130
     replace H := Option.bind_eq_some_iff.mp H
     obtain ⟨⟨t587, t588, t589⟩, A140, H⟩ := H
     replace H : (impl_GetField.j1 kj5 l0 t588 a2 t587 t585 t589) = some (r1, r2, r3) := H
     have A14 := Aside0.mk A140
     clear A140
     have H' := Aside0.mk H
     clear H
     go_wp2_with (first | ((with_reducible refine gate_callee (f := 56) rfl ?_); refine goesM_ (some 32) rfl rfl Tryd.func56 (by kernel_rfl) rfl #[.int .i64 a2] rfl ?_; (with_reducible refine (impl_lenDigits.calls kj5 a2 t586 _ A13.out).mono ?_); rintro e w15 ⟨rfl, hb⟩; refine ⟨_, rfl, ?_⟩; have n0_ := Aside0.mk (below_step bB hb); clear HB; have HB := n0_; clear n0_; (try clear hb); (try clear hb2); (try clear hk); (try clear hi)) | ((with_reducible refine gate_callee (f := 14) rfl ?_); refine goesM_ (some 33) rfl rfl Tryd.func14 (by kernel_rfl) rfl #[.slice A0 l0.length c0, .int .i64 a1, .int .i64 t586] rfl ?_; (with_reducible refine (impl_GetLen.calls kj5 _ _ l0 a1 t586 t587 t588 t589 _ ?side1 ?side2 ?side3 A14.out).mono ?_); (case side1 => repeat (first | exact (Kd.C_below HR0.out HB.out) | (with_reducible refine Kd.C_alloc ?_ _) | (with_reducible refine Kd.C_drewN ?_ _) | (with_reducible refine Kd.C_drew ?_))); (case side2 => exact HC0.out); (case side3 => exact GLW_below HG.out bB); rintro e w16 ⟨rfl, hb⟩; refine ⟨_, rfl, ?_⟩; have n0_ := Aside0.mk (below_step bB hb); clear HB; have HB := n0_; clear n0_; (try clear hb); (try clear hb2); (try clear hk); (try clear hi)))
     go_meet
     case rel => exact ⟨_, (t588), (t587), (t589), (by first | rfl | (simp; done) | (simp [*]; done) | (simp [i64_w, IntKind.wrap_u8, e256_]; done) | (simp; generalize ByteArray.toList _ = zz_; cases zz_ <;> rfl)), (by first | rfl | (simp; done) | (simp [*]; done) | (simp [i64_w, IntKind.wrap_u8, e256_]; done) | (simp; generalize ByteArray.toList _ = zz_; cases zz_ <;> rfl)), (by first | rfl | (simp; done) | (simp [*]; done) | (simp [i64_w, IntKind.wrap_u8, e256_]; done) | (simp; generalize ByteArray.toList _ = zz_; cases zz_ <;> rfl)), H', ⟨by have := HJ5.out; first | omega | exact Nat.le_refl _⟩, ⟨bB⟩⟩
    ·replace c12 := Bool.eq_false_iff.mpr c12
     subst c12
     have H1 : (impl_GetField.j1 kj5 l0 a1 a2 t584 t585 true) = some (r1, r2, r3) := by rw [if_neg (show ¬ (false = true) by decide)] at H; exact H
     clear H
     have H := H1
     clear H1
     have H' := Aside0.mk H
     clear H
     go_wp2
     go_meet
     case rel => exact ⟨_, (a1), (t584), (true), (by first | rfl | (simp; done) | (simp [*]; done) | (simp [i64_w, IntKind.wrap_u8, e256_]; done) | (simp; generalize ByteArray.toList _ = zz_; cases zz_ <;> rfl)), (by first | rfl | (simp; done) | (simp [*]; done) | (simp [i64_w, IntKind.wrap_u8, e256_]; done) | (simp; generalize ByteArray.toList _ = zz_; cases zz_ <;> rfl)), (by first | rfl | (simp; done) | (simp [*]; done) | (simp [i64_w, IntKind.wrap_u8, e256_]; done) | (simp; generalize ByteArray.toList _ = zz_; cases zz_ <;> rfl)), H', ⟨by have := HJ5.out; first | omega | exact Nat.le_refl _⟩, ⟨bB⟩⟩
   case rest =>
    clear HC11
    try clear c1
    try clear p2
    try clear c3
    try clear c5
    try clear c6
    try clear p6
    try clear c9
    try clear c9b0
    try clear c9b1
    try clear c10
    try clear c10b0
    try clear c10b1
    try clear c12
    try clear c14
    try clear p2
    try clear p6
    obtain ⟨kq, x1_10, x9_10, x12_10, rfl, rfl, rfl, HA, HJ10, HB⟩ := hcut
    cases kq with
    | zero => exact absurd HA.out (by simp [impl_GetField.j1])
    | succ kj10 =>
     have H := HA.out
     clear HA
     simp only [impl_GetField.j1] at H
     by_cases c17 : x12_10 = true
     ·subst c17
      have H1 : (if t585 = 1 then (impl_GetField.j2 kj10 l0 x1_10 a2 x9_10 true) else (impl_GetField.j2 kj10 l0 x1_10 a2 x9_10 (t585 == 3))) = some (r1, r2, r3) := by rw [if_pos rfl] at H; exact H
      clear H
      have H := H1
      clear H1
      have HC18 := Aside0.mk H
      clear H
      go_upto_region 6 with (fail)
      go_cut [44] (fun v44 wc => ∃ (kq : Nat) (x44_17 : Bool), v44 = .bool x44_17 ∧ Aside0 (impl_GetField.j2 kq l0 x1_10 a2 x9_10 x44_17 = some (r1, r2, r3)) ∧ Aside0 (kq ≤ kj10) ∧ Aside0 (Below w.heap.size w wc))
      case first =>
       have H := HC18.out
       clear HC18
       by_cases c19 : t585 = 1
       ·rw [if_pos c19] at H
        have c19b0 : (t585 == 1) = true := beq_iff_eq.mpr c19
        have c19b1 : (t585 != 1) = false := bne_eq_false_iff_eq.mpr c19
        clear c19
        (first | rw [c19b0] | (simp only [i64_w, i32_w]; rw [c19b0]) | rw [c19b1] | (simp only [c19b1]) | skip)
        have H' := Aside0.mk H
        clear H
        go_wp2
        go_meet
        case rel => exact ⟨_, (true), (by first | rfl | (simp; done) | (simp [*]; done) | (simp [i64_w, IntKind.wrap_u8, e256_]; done) | (simp; generalize ByteArray.toList _ = zz_; cases zz_ <;> rfl)), H', ⟨by have := HJ5.out; have := HJ10.out; first | omega | exact Nat.le_refl _⟩, ⟨bB⟩⟩
       ·rw [if_neg c19] at H
        have c19b0 : (t585 == 1) = false := beq_eq_false_iff_ne.mpr c19
        have c19b1 : (t585 != 1) = true := bne_iff_ne.mpr c19
        (first | rw [c19b0] | (simp only [i64_w, i32_w]; rw [c19b0]) | rw [c19b1] | (simp only [c19b1]) | skip)
        have H' := Aside0.mk H
        clear H
        go_wp2
        go_meet
        case rel => exact ⟨_, ((t585 == 3)), (by first | rfl | (simp; done) | (simp [*]; done) | (simp [i64_w, IntKind.wrap_u8, e256_]; done) | (simp; generalize ByteArray.toList _ = zz_; cases zz_ <;> rfl)), H', ⟨by have := HJ5.out; have := HJ10.out; first | omega | exact Nat.le_refl _⟩, ⟨bB⟩⟩
      case rest =>
       clear HC18
       try clear c1
       try clear p2
       try clear c3
       try clear c5
       try clear c6
       try clear p6
       try clear c9
       try clear c9b0
       try clear c9b1
       try clear c10
       try clear c10b0
       try clear c10b1
       try clear c12
       try clear c14
       try clear c17
       try clear c19
       try clear c19b0
       try clear c19b1
       try clear p2
       try clear p6
       obtain ⟨kq, x44_17, rfl, HA, HJ17, HB⟩ := hcut
       cases kq with
       | zero => exact absurd HA.out (by simp [impl_GetField.j2])
       | succ kj17 =>
        have H := HA.out
        clear HA
        simp only [impl_GetField.j2] at H
        by_cases c20 : x44_17 = true
        ·subst c20
         have H1 : ((impl_GetBcd.f kj17 l0 x1_10 x9_10).bind fun bt590 => (if bt590.2.2 = true then ((impl_FieldOk.f kj17 a2 bt590.1).bind fun t593 => (if t593 = true then (some (bt590.1, bt590.2.1, true)) else (some ((⟨#[]⟩ : ByteArray), 0, false)))) else (some ((⟨#[]⟩ : ByteArray), 0, false)))) = some (r1, r2, r3) := by rw [if_pos rfl] at H; exact H
         clear H
         have H := H1
         clear H1
         replace H := Option.bind_eq_some_iff.mp H
         obtain ⟨⟨t590, t591, t592⟩, A210, H⟩ := H
         replace H : (if t592 = true then ((impl_FieldOk.f kj17 a2 t590).bind fun t593 => (if t593 = true then (some (t590, t591, true)) else (some ((⟨#[]⟩ : ByteArray), 0, false)))) else (some ((⟨#[]⟩ : ByteArray), 0, false))) = some (r1, r2, r3) := H
         have A21 := Aside0.mk A210
         clear A210
         by_cases c22 : t592 = true
         ·subst c22
          have H1 : ((impl_FieldOk.f kj17 a2 t590).bind fun t593 => (if t593 = true then (some (t590, t591, true)) else (some ((⟨#[]⟩ : ByteArray), 0, false)))) = some (r1, r2, r3) := by rw [if_pos rfl] at H; exact H
          clear H
          have H := H1
          clear H1
          replace H := Option.bind_eq_some_iff.mp H
          obtain ⟨t593, A230, H⟩ := H
          replace H : (if t593 = true then (some (t590, t591, true)) else (some ((⟨#[]⟩ : ByteArray), 0, false))) = some (r1, r2, r3) := H
          have A23 := Aside0.mk A230
          clear A230
          by_cases c24 : t593 = true
          ·subst c24
           have H1 : (some (t590, t591, true)) = some (r1, r2, r3) := by rw [if_pos rfl] at H; exact H
           clear H
           have H := H1
           clear H1
           simp only [Option.some.injEq, Prod.mk.injEq] at H
           obtain ⟨rfl, rfl, rfl⟩ := H
           go_wp2_with (first | ((with_reducible refine gate_callee (f := 11) rfl ?_); refine goesM_ (some 49) rfl rfl Tryd.func11 (by kernel_rfl) rfl #[.slice A0 l0.length c0, .int .i64 x1_10, .int .i64 x9_10] rfl ?_; (with_reducible refine (impl_GetBcd.calls kj17 _ _ l0 x1_10 x9_10 t590 t591 true _ ?side1 ?side2 A21.out).mono ?_); (case side1 => repeat (first | exact (Kd.C_below HR0.out HB.out) | (with_reducible refine Kd.C_alloc ?_ _) | (with_reducible refine Kd.C_drewN ?_ _) | (with_reducible refine Kd.C_drew ?_))); (case side2 => exact HC0.out); rintro e w25 ⟨rfl, hb⟩; refine ⟨_, rfl, ?_⟩; have n0_ := Aside0.mk (below_step bB hb); clear HB; have HB := n0_; clear n0_; (try clear hb); (try clear hb2); (try clear hk); (try clear hi)) | (go_at_call 34; (with_reducible refine (impl_FieldOk.calls kj17 a2 t590 true _ A23.out).mono ?_); rintro e w26 ⟨rfl, hb⟩; have n0_ := Aside0.mk (below_step bB hb); clear HB; have HB := n0_; clear n0_; (try clear hb); (try clear hb2); (try clear hk); (try clear hi)))
           go_ret3
           exact ⟨by first | rfl | (simp [errW_none, errW_some] <;> rfl) | (simp [*, errW_none, errW_some] <;> rfl), bB⟩
          ·replace c24 := Bool.eq_false_iff.mpr c24
           subst c24
           have H1 : (some ((⟨#[]⟩ : ByteArray), 0, false)) = some (r1, r2, r3) := by rw [if_neg (show ¬ (false = true) by decide)] at H; exact H
           clear H
           have H := H1
           clear H1
           simp only [Option.some.injEq, Prod.mk.injEq] at H
           obtain ⟨rfl, rfl, rfl⟩ := H
           go_wp2_with (first | ((with_reducible refine gate_callee (f := 11) rfl ?_); refine goesM_ (some 49) rfl rfl Tryd.func11 (by kernel_rfl) rfl #[.slice A0 l0.length c0, .int .i64 x1_10, .int .i64 x9_10] rfl ?_; (with_reducible refine (impl_GetBcd.calls kj17 _ _ l0 x1_10 x9_10 t590 t591 true _ ?side1 ?side2 A21.out).mono ?_); (case side1 => repeat (first | exact (Kd.C_below HR0.out HB.out) | (with_reducible refine Kd.C_alloc ?_ _) | (with_reducible refine Kd.C_drewN ?_ _) | (with_reducible refine Kd.C_drew ?_))); (case side2 => exact HC0.out); rintro e w27 ⟨rfl, hb⟩; refine ⟨_, rfl, ?_⟩; have n0_ := Aside0.mk (below_step bB hb); clear HB; have HB := n0_; clear n0_; (try clear hb); (try clear hb2); (try clear hk); (try clear hi)) | (go_at_call 34; (with_reducible refine (impl_FieldOk.calls kj17 a2 t590 false _ A23.out).mono ?_); rintro e w28 ⟨rfl, hb⟩; have n0_ := Aside0.mk (below_step bB hb); clear HB; have HB := n0_; clear n0_; (try clear hb); (try clear hb2); (try clear hk); (try clear hi)))
           go_ret3
           exact ⟨by first | rfl | (simp [errW_none, errW_some] <;> rfl) | (simp [*, errW_none, errW_some] <;> rfl), bB⟩
         ·replace c22 := Bool.eq_false_iff.mpr c22
          subst c22
          have H1 : (some ((⟨#[]⟩ : ByteArray), 0, false)) = some (r1, r2, r3) := by rw [if_neg (show ¬ (false = true) by decide)] at H; exact H
          clear H
          have H := H1
          clear H1
          simp only [Option.some.injEq, Prod.mk.injEq] at H
          obtain ⟨rfl, rfl, rfl⟩ := H
          go_wp2_with (first | ((with_reducible refine gate_callee (f := 11) rfl ?_); refine goesM_ (some 49) rfl rfl Tryd.func11 (by kernel_rfl) rfl #[.slice A0 l0.length c0, .int .i64 x1_10, .int .i64 x9_10] rfl ?_; (with_reducible refine (impl_GetBcd.calls kj17 _ _ l0 x1_10 x9_10 t590 t591 false _ ?side1 ?side2 A21.out).mono ?_); (case side1 => repeat (first | exact (Kd.C_below HR0.out HB.out) | (with_reducible refine Kd.C_alloc ?_ _) | (with_reducible refine Kd.C_drewN ?_ _) | (with_reducible refine Kd.C_drew ?_))); (case side2 => exact HC0.out); rintro e w29 ⟨rfl, hb⟩; refine ⟨_, rfl, ?_⟩; have n0_ := Aside0.mk (below_step bB hb); clear HB; have HB := n0_; clear n0_; (try clear hb); (try clear hb2); (try clear hk); (try clear hi)))
          go_ret3
          exact ⟨by first | rfl | (simp [errW_none, errW_some] <;> rfl) | (simp [*, errW_none, errW_some] <;> rfl), bB⟩
        ·replace c20 := Bool.eq_false_iff.mpr c20
         subst c20
         have H1 : ((impl_piece.f l0 x1_10 x9_10).bind fun bt594 => (if bt594.2 = true then ((impl_FieldOk.f kj17 a2 (strOfNums bt594.1)).bind fun t598 => (if t598 = true then (some (strOfNums bt594.1, wrap64 (x1_10 + x9_10), true)) else (some ((⟨#[]⟩ : ByteArray), 0, false)))) else (some ((⟨#[]⟩ : ByteArray), 0, false)))) = some (r1, r2, r3) := by rw [if_neg (show ¬ (false = true) by decide)] at H; exact H
         clear H
         have H := H1
         clear H1
         replace H := Option.bind_eq_some_iff.mp H
         obtain ⟨⟨t594, t595⟩, A300, H⟩ := H
         replace H : (if t595 = true then ((impl_FieldOk.f kj17 a2 (strOfNums t594)).bind fun t598 => (if t598 = true then (some (strOfNums t594, wrap64 (x1_10 + x9_10), true)) else (some ((⟨#[]⟩ : ByteArray), 0, false)))) else (some ((⟨#[]⟩ : ByteArray), 0, false))) = some (r1, r2, r3) := H
         have A30 := Aside0.mk A300
         clear A300
         by_cases c31 : t595 = true
         ·subst c31
          have H1 : ((impl_FieldOk.f kj17 a2 (strOfNums t594)).bind fun t598 => (if t598 = true then (some (strOfNums t594, wrap64 (x1_10 + x9_10), true)) else (some ((⟨#[]⟩ : ByteArray), 0, false)))) = some (r1, r2, r3) := by rw [if_pos rfl] at H; exact H
          clear H
          have H := H1
          clear H1
          replace H := Option.bind_eq_some_iff.mp H
          obtain ⟨t598, A320, H⟩ := H
          replace H : (if t598 = true then (some (strOfNums t594, wrap64 (x1_10 + x9_10), true)) else (some ((⟨#[]⟩ : ByteArray), 0, false))) = some (r1, r2, r3) := H
          have A32 := Aside0.mk A320
          clear A320
          by_cases c33 : t598 = true
          ·subst c33
           have H1 : (some (strOfNums t594, wrap64 (x1_10 + x9_10), true)) = some (r1, r2, r3) := by rw [if_pos rfl] at H; exact H
           clear H
           have H := H1
           clear H1
           simp only [Option.some.injEq, Prod.mk.injEq] at H
           obtain ⟨rfl, rfl, rfl⟩ := H
           go_wp2_with (first | ((with_reducible refine gate_callee (f := 46) rfl ?_); refine goesM_ (some 57) rfl rfl Tryd.func46 (by kernel_rfl) rfl #[.slice A0 l0.length c0, .int .i64 x1_10, .int .i64 x9_10] rfl ?_; (with_reducible refine (impl_piece.calls _ _ l0 x1_10 x9_10 t594 true _ ?side1 ?side2 A30.out).mono ?_); (case side1 => repeat (first | exact (Kd.C_below HR0.out HB.out) | (with_reducible refine Kd.C_alloc ?_ _) | (with_reducible refine Kd.C_drewN ?_ _) | (with_reducible refine Kd.C_drew ?_))); (case side2 => exact HC0.out); rintro e w' ⟨A90594, c90594, rfl, hr90594_, hc90594_, ⟨nd, rfl⟩⟩; refine ⟨_, rfl, ?_⟩; have HR90594 := Aside0.mk (hr90594_ _ HR0.out); have HC90594 := Aside0.mk hc90594_; clear hr90594_ hc90594_; have hcv34 := Kd.C_string (P := Tryd.prog) (A := A90594) (c := c90594) Tryd.underlying22 Tryd.underlying5 Tryd.underlying9 (Kd.C_below HR90594.out HB.out); (try (have hcvd35 := fun (nq_ : Nat) => Kd.C_string (P := Tryd.prog) (A := A90594) (c := c90594) Tryd.underlying22 Tryd.underlying5 Tryd.underlying9 (Kd.C_drewN (Kd.C_below HR90594.out HB.out) nq_)))) | (go_at_call 34; (with_reducible refine (impl_FieldOk.calls kj17 a2 (strOfNums t594) true _ A32.out).mono ?_); rintro e w36 ⟨rfl, hb⟩; have n0_ := Aside0.mk (below_step bB hb); clear HB; have HB := n0_; clear n0_; (try clear hb); (try clear hb2); (try clear hk); (try clear hi)))
           go_ret3
           exact ⟨by first | rfl | (simp [errW_none, errW_some] <;> rfl) | (simp [*, errW_none, errW_some] <;> rfl), bB⟩
          ·replace c33 := Bool.eq_false_iff.mpr c33
           subst c33
           have H1 : (some ((⟨#[]⟩ : ByteArray), 0, false)) = some (r1, r2, r3) := by rw [if_neg (show ¬ (false = true) by decide)] at H; exact H
           clear H
           have H := H1
           clear H1
           simp only [Option.some.injEq, Prod.mk.injEq] at H
           obtain ⟨rfl, rfl, rfl⟩ := H
           go_wp2_with (first | ((with_reducible refine gate_callee (f := 46) rfl ?_); refine goesM_ (some 57) rfl rfl Tryd.func46 (by kernel_rfl) rfl #[.slice A0 l0.length c0, .int .i64 x1_10, .int .i64 x9_10] rfl ?_; (with_reducible refine (impl_piece.calls _ _ l0 x1_10 x9_10 t594 true _ ?side1 ?side2 A30.out).mono ?_); (case side1 => repeat (first | exact (Kd.C_below HR0.out HB.out) | (with_reducible refine Kd.C_alloc ?_ _) | (with_reducible refine Kd.C_drewN ?_ _) | (with_reducible refine Kd.C_drew ?_))); (case side2 => exact HC0.out); rintro e w' ⟨A90594, c90594, rfl, hr90594_, hc90594_, ⟨nd, rfl⟩⟩; refine ⟨_, rfl, ?_⟩; have HR90594 := Aside0.mk (hr90594_ _ HR0.out); have HC90594 := Aside0.mk hc90594_; clear hr90594_ hc90594_; have hcv37 := Kd.C_string (P := Tryd.prog) (A := A90594) (c := c90594) Tryd.underlying22 Tryd.underlying5 Tryd.underlying9 (Kd.C_below HR90594.out HB.out); (try (have hcvd38 := fun (nq_ : Nat) => Kd.C_string (P := Tryd.prog) (A := A90594) (c := c90594) Tryd.underlying22 Tryd.underlying5 Tryd.underlying9 (Kd.C_drewN (Kd.C_below HR90594.out HB.out) nq_)))) | (go_at_call 34; (with_reducible refine (impl_FieldOk.calls kj17 a2 (strOfNums t594) false _ A32.out).mono ?_); rintro e w39 ⟨rfl, hb⟩; have n0_ := Aside0.mk (below_step bB hb); clear HB; have HB := n0_; clear n0_; (try clear hb); (try clear hb2); (try clear hk); (try clear hi)))
           go_ret3
           exact ⟨by first | rfl | (simp [errW_none, errW_some] <;> rfl) | (simp [*, errW_none, errW_some] <;> rfl), bB⟩
         ·replace c31 := Bool.eq_false_iff.mpr c31
          subst c31
          have H1 : (some ((⟨#[]⟩ : ByteArray), 0, false)) = some (r1, r2, r3) := by rw [if_neg (show ¬ (false = true) by decide)] at H; exact H
          clear H
          have H := H1
          clear H1
          simp only [Option.some.injEq, Prod.mk.injEq] at H
          obtain ⟨rfl, rfl, rfl⟩ := H
          go_wp2_with (first | ((with_reducible refine gate_callee (f := 46) rfl ?_); refine goesM_ (some 57) rfl rfl Tryd.func46 (by kernel_rfl) rfl #[.slice A0 l0.length c0, .int .i64 x1_10, .int .i64 x9_10] rfl ?_; (with_reducible refine (impl_piece.calls _ _ l0 x1_10 x9_10 t594 false _ ?side1 ?side2 A30.out).mono ?_); (case side1 => repeat (first | exact (Kd.C_below HR0.out HB.out) | (with_reducible refine Kd.C_alloc ?_ _) | (with_reducible refine Kd.C_drewN ?_ _) | (with_reducible refine Kd.C_drew ?_))); (case side2 => exact HC0.out); rintro e w' ⟨A90594, c90594, rfl, hr90594_, hc90594_, ⟨nd, rfl⟩⟩; refine ⟨_, rfl, ?_⟩; have HR90594 := Aside0.mk (hr90594_ _ HR0.out); have HC90594 := Aside0.mk hc90594_; clear hr90594_ hc90594_; have hcv40 := Kd.C_string (P := Tryd.prog) (A := A90594) (c := c90594) Tryd.underlying22 Tryd.underlying5 Tryd.underlying9 (Kd.C_below HR90594.out HB.out); (try (have hcvd41 := fun (nq_ : Nat) => Kd.C_string (P := Tryd.prog) (A := A90594) (c := c90594) Tryd.underlying22 Tryd.underlying5 Tryd.underlying9 (Kd.C_drewN (Kd.C_below HR90594.out HB.out) nq_)))))
          go_ret3
          exact ⟨by first | rfl | (simp [errW_none, errW_some] <;> rfl) | (simp [*, errW_none, errW_some] <;> rfl), bB⟩
     ·replace c17 := Bool.eq_false_iff.mpr c17
      subst c17
      have H1 : (some ((⟨#[]⟩ : ByteArray), 0, false)) = some (r1, r2, r3) := by rw [if_neg (show ¬ (false = true) by decide)] at H; exact H
      clear H
      have H := H1
      clear H1
      simp only [Option.some.injEq, Prod.mk.injEq] at H
      obtain ⟨rfl, rfl, rfl⟩ := H
      go_wp2
      go_ret3
      exact ⟨by first | rfl | (simp [errW_none, errW_some] <;> rfl) | (simp [*, errW_none, errW_some] <;> rfl), bB⟩
def strings_Repeat.f (a0 : ByteArray) (a1 : Int) : Option ByteArray := if 0 ≤ a1 ∧ a1 ≤ 9223372036854775807 ∧ a0.size * a1.toNat ≤ 140737488355328 then some ⟨(Lib.repeatL a0.data.toList a1.toNat).toArray⟩ else none
theorem strings_Repeat.calls (a0 : ByteArray) (a1 : Int) (r : ByteArray) (w : World) (h : strings_Repeat.f a0 a1 = some r) :
    Calls Tryd.prog 68 #[.string a0, .int .i64 a1] w fun e w' => e = .returned (.string r) ∧ Below w.heap.size w w' := by
  unfold strings_Repeat.f at h
  by_cases q : 0 ≤ a1 ∧ a1 ≤ 9223372036854775807 ∧ a0.size * a1.toNat ≤ 140737488355328
  · rw [if_pos q] at h
    obtain rfl := Option.some.inj h
    have e : ((a1.toNat : Nat) : Int) = a1 := by omega
    have hc := Tryd.strings_Repeat a0 a1.toNat w (by omega) q.2.2
    rw [e] at hc
    exact hc
  · rw [if_neg q] at h
    exact absurd h (by simp)
attribute [local go_sem] max2_int min2_int max_two min_two max_three min_three max_four min_four
set_option linter.unusedVariables false
set_option linter.unusedSimpArgs false
def impl_FieldFit.f (k : Nat) (a0 : Int) (a1 : ByteArray) : Option (ByteArray) := (impl_FieldSize.f k a0).bind fun t599 => ((impl_FieldKind.f k a0).bind fun t600 => (if t600 = 1 then ((strings_Repeat.f (⟨#[48]⟩ : ByteArray) (mx (wrap64 (t599 - (a1.size : Int))) 0)).bind fun t601 => (if t601.size + a1.size ≤ 9223372036854775807 then ((impl_FieldOk.f k a0 (t601 ++ a1)).bind fun t602 => (if t602 = true then (some (t601 ++ a1)) else (some (⟨#[]⟩ : ByteArray)))) else (none))) else (if t600 = 2 then ((strings_Repeat.f (⟨#[32]⟩ : ByteArray) (mx (wrap64 (t599 - (a1.size : Int))) 0)).bind fun t603 => (if a1.size + t603.size ≤ 9223372036854775807 then ((impl_FieldOk.f k a0 (a1 ++ t603)).bind fun t604 => (if t604 = true then (some (a1 ++ t603)) else (some (⟨#[]⟩ : ByteArray)))) else (none))) else ((impl_FieldOk.f k a0 a1).bind fun t605 => (if t605 = true then (some a1) else (some (⟨#[]⟩ : ByteArray)))))))
set_option maxHeartbeats 8000000 in
set_option maxRecDepth 100000 in
theorem impl_FieldFit.calls (k : Nat) (a0 : Int) (a1 : ByteArray) (r : ByteArray) (w : World) (h : impl_FieldFit.f k a0 a1 = some r) :
  Calls Tryd.prog 35 #[.int .i64 a0, .string a1] w fun e w' => e = .returned (.string r) ∧ Below w.heap.size w w' := by
 have HB := Aside0.mk (Below.refl w.heap.size w)
 have H : ((impl_FieldSize.f k a0).bind fun t599 => ((impl_FieldKind.f k a0).bind fun t600 => (if t600 = 1 then ((strings_Repeat.f (⟨#[48]⟩ : ByteArray) (mx (wrap64 (t599 - (a1.size : Int))) 0)).bind fun t601 => (if t601.size + a1.size ≤ 9223372036854775807 then ((impl_FieldOk.f k a0 (t601 ++ a1)).bind fun t602 => (if t602 = true then (some (t601 ++ a1)) else (some (⟨#[]⟩ : ByteArray)))) else (none))) else (if t600 = 2 then ((strings_Repeat.f (⟨#[32]⟩ : ByteArray) (mx (wrap64 (t599 - (a1.size : Int))) 0)).bind fun t603 => (if a1.size + t603.size ≤ 9223372036854775807 then ((impl_FieldOk.f k a0 (a1 ++ t603)).bind fun t604 => (if t604 = true then (some (a1 ++ t603)) else (some (⟨#[]⟩ : ByteArray)))) else (none))) else ((impl_FieldOk.f k a0 a1).bind fun t605 => (if t605 = true then (some a1) else (some (⟨#[]⟩ : ByteArray)))))))) = some r := h
 clear h
 replace H := Option.bind_eq_some_iff.mp H
 obtain ⟨t599, A30, H⟩ := H
 replace H : ((impl_FieldKind.f k a0).bind fun t600 => (if t600 = 1 then ((strings_Repeat.f (⟨#[48]⟩ : ByteArray) (mx (wrap64 (t599 - (a1.size : Int))) 0)).bind fun t601 => (if t601.size + a1.size ≤ 9223372036854775807 then ((impl_FieldOk.f k a0 (t601 ++ a1)).bind fun t602 => (if t602 = true then (some (t601 ++ a1)) else (some (⟨#[]⟩ : ByteArray)))) else (none))) else (if t600 = 2 then ((strings_Repeat.f (⟨#[32]⟩ : ByteArray) (mx (wrap64 (t599 - (a1.size : Int))) 0)).bind fun t603 => (if a1.size + t603.size ≤ 9223372036854775807 then ((impl_FieldOk.f k a0 (a1 ++ t603)).bind fun t604 => (if t604 = true then (some (a1 ++ t603)) else (some (⟨#[]⟩ : ByteArray)))) else (none))) else ((impl_FieldOk.f k a0 a1).bind fun t605 => (if t605 = true then (some a1) else (some (⟨#[]⟩ : ByteArray))))))) = some r := H
 have A3 := Aside0.mk A30
 clear A30
 obtain ⟨ji4, hji4⟩ : ∃ j_ : Int, (mx (wrap64 (t599 - (a1.size : Int))) 0) = j_ := ⟨_, rfl⟩
 replace H : ((impl_FieldKind.f k a0).bind fun t600 => (if t600 = 1 then ((strings_Repeat.f (⟨#[48]⟩ : ByteArray) (ji4)).bind fun t601 => (if t601.size + a1.size ≤ 9223372036854775807 then ((impl_FieldOk.f k a0 (t601 ++ a1)).bind fun t602 => (if t602 = true then (some (t601 ++ a1)) else (some (⟨#[]⟩ : ByteArray)))) else (none))) else (if t600 = 2 then ((strings_Repeat.f (⟨#[32]⟩ : ByteArray) (ji4)).bind fun t603 => (if a1.size + t603.size ≤ 9223372036854775807 then ((impl_FieldOk.f k a0 (a1 ++ t603)).bind fun t604 => (if t604 = true then (some (a1 ++ t603)) else (some (⟨#[]⟩ : ByteArray)))) else (none))) else ((impl_FieldOk.f k a0 a1).bind fun t605 => (if t605 = true then (some a1) else (some (⟨#[]⟩ : ByteArray))))))) = some r := by first | (rw [hji4] at H; exact H) | (simp only [hji4] at H ⊢; exact H)
 (try rw [hji4] at A3)
 (try (have hji4l : 0 ≤ ji4 := by (rw [← hji4]; unfold mx; (repeat' split) <;> omega)))
 (try (have hji4m : 0 ≤ ji4 := by omega))
 have hji4_ : (if (wrap64 (t599 - (a1.size : Int))) < 0 then 0 else (wrap64 (t599 - (a1.size : Int)))) = ji4 := hji4
 replace H := Option.bind_eq_some_iff.mp H
 obtain ⟨t600, A50, H⟩ := H
 replace H : (if t600 = 1 then ((strings_Repeat.f (⟨#[48]⟩ : ByteArray) (ji4)).bind fun t601 => (if t601.size + a1.size ≤ 9223372036854775807 then ((impl_FieldOk.f k a0 (t601 ++ a1)).bind fun t602 => (if t602 = true then (some (t601 ++ a1)) else (some (⟨#[]⟩ : ByteArray)))) else (none))) else (if t600 = 2 then ((strings_Repeat.f (⟨#[32]⟩ : ByteArray) (ji4)).bind fun t603 => (if a1.size + t603.size ≤ 9223372036854775807 then ((impl_FieldOk.f k a0 (a1 ++ t603)).bind fun t604 => (if t604 = true then (some (a1 ++ t603)) else (some (⟨#[]⟩ : ByteArray)))) else (none))) else ((impl_FieldOk.f k a0 a1).bind fun t605 => (if t605 = true then (some a1) else (some (⟨#[]⟩ : ByteArray)))))) = some r := H
 have A5 := Aside0.mk A50
 clear A50
 by_cases c6 : t600 = 1
 ·rw [if_pos c6] at H
  have c6b0 : (t600 == 1) = true := beq_iff_eq.mpr c6
  have c6b1 : (t600 != 1) = false := bne_eq_false_iff_eq.mpr c6
  clear c6
  replace H := Option.bind_eq_some_iff.mp H
  obtain ⟨t601, A70, H⟩ := H
  replace H : (if t601.size + a1.size ≤ 9223372036854775807 then ((impl_FieldOk.f k a0 (t601 ++ a1)).bind fun t602 => (if t602 = true then (some (t601 ++ a1)) else (some (⟨#[]⟩ : ByteArray)))) else (none)) = some r := H
  have A7 := Aside0.mk A70
  clear A70
  by_cases c8 : t601.size + a1.size ≤ 9223372036854775807
  ·rw [if_pos c8] at H
   have c8b0 := eq_true c8
   have c8b1 : decide (t601.size + a1.size ≤ 9223372036854775807) = true := decide_eq_true c8
   try have c8b2 : (9223372036854775807 < t601.size + a1.size) = False := eq_false (Nat.not_lt.2 c8)
   try (have c8b3 := c8b2; simp only [ByteArray.size_append, ByteArray.size_extract, Nat.sub_zero, Nat.min_self] at c8b3)
   replace H := Option.bind_eq_some_iff.mp H
   obtain ⟨t602, A90, H⟩ := H
   replace H : (if t602 = true then (some (t601 ++ a1)) else (some (⟨#[]⟩ : ByteArray))) = some r := H
   have A9 := Aside0.mk A90
   clear A90
   by_cases c10 : t602 = true
   ·subst c10
    have H1 : (some (t601 ++ a1)) = some r := by rw [if_pos rfl] at H; exact H
    clear H
    have H := H1
    clear H1
    obtain rfl := Option.some.inj H
    go_enter Tryd.func35, Tryd.ntmps35
    go_wp2_with (first | ((with_reducible refine gate_callee (f := 65) rfl ?_); refine goesM_ (some 7) rfl rfl Tryd.func65 (by kernel_rfl) rfl #[.int .i64 a0] rfl ?_; (with_reducible refine (impl_FieldSize.calls k a0 t599 _ A3.out).mono ?_); rintro e w11 ⟨rfl, hb⟩; refine ⟨_, rfl, ?_⟩; have n0_ := Aside0.mk (below_step bB hb); clear HB; have HB := n0_; clear n0_; (try clear hb); (try clear hb2); (try clear hk); (try clear hi)) | ((with_reducible refine gate_callee (f := 55) rfl ?_); refine goesM_ (some 13) rfl rfl Tryd.func55 (by kernel_rfl) rfl #[.int .i64 a0] rfl ?_; (with_reducible refine (impl_FieldKind.calls k a0 t600 _ A5.out).mono ?_); rintro e w12 ⟨rfl, hb⟩; refine ⟨_, rfl, ?_⟩; have n0_ := Aside0.mk (below_step bB hb); clear HB; have HB := n0_; clear n0_; (try clear hb); (try clear hb2); (try clear hk); (try clear hi)) | ((with_reducible refine gate_callee (f := 68) rfl ?_); refine goesL_ (some 17) rfl rfl Tryd.func68 (by kernel_rfl) rfl #[.string (⟨#[48]⟩ : ByteArray), .int .i64 ji4] rfl (by (try simp only [List.map_toArray, List.map_cons, List.map_nil]); first | done | (simp only [hji4]; rfl) | rfl | (simp only [List.length_drop, List.length_take]; rfl)) ?_; (with_reducible refine (strings_Repeat.calls (⟨#[48]⟩ : ByteArray) ji4 t601 _ A7.out).mono ?_); rintro e w13 ⟨rfl, hb⟩; refine ⟨_, rfl, ?_⟩; have n0_ := Aside0.mk (below_step bB hb); clear HB; have HB := n0_; clear n0_; (try clear hb); (try clear hb2); (try clear hk); (try clear hi)) | ((with_reducible refine gate_callee (f := 34) rfl ?_); refine goesM_ (some 28) rfl rfl Tryd.func34 (by kernel_rfl) rfl #[.int .i64 a0, .string (t601 ++ a1)] rfl ?_; (with_reducible refine (impl_FieldOk.calls k a0 (t601 ++ a1) true _ A9.out).mono ?_); rintro e w14 ⟨rfl, hb⟩; refine ⟨_, rfl, ?_⟩; have n0_ := Aside0.mk (below_step bB hb); clear HB; have HB := n0_; clear n0_; (try clear hb); (try clear hb2); (try clear hk); (try clear hi)))
    go_ret
    exact ⟨by first | rfl | (simp [errW_none, errW_some] <;> rfl) | (simp only [← hji4]; first | rfl | (simp [errW_none, errW_some] <;> rfl) | (simp [i64_w, IntKind.wrap_u8] <;> rfl)) | (simp [*, errW_none, errW_some] <;> rfl), bB⟩
   ·replace c10 := Bool.eq_false_iff.mpr c10
    subst c10
    have H1 : (some (⟨#[]⟩ : ByteArray)) = some r := by rw [if_neg (show ¬ (false = true) by decide)] at H; exact H
    clear H
    have H := H1
    clear H1
    obtain rfl := Option.some.inj H
    go_enter Tryd.func35, Tryd.ntmps35
    go_wp2_with (first | ((with_reducible refine gate_callee (f := 65) rfl ?_); refine goesM_ (some 7) rfl rfl Tryd.func65 (by kernel_rfl) rfl #[.int .i64 a0] rfl ?_; (with_reducible refine (impl_FieldSize.calls k a0 t599 _ A3.out).mono ?_); rintro e w15 ⟨rfl, hb⟩; refine ⟨_, rfl, ?_⟩; have n0_ := Aside0.mk (below_step bB hb); clear HB; have HB := n0_; clear n0_; (try clear hb); (try clear hb2); (try clear hk); (try clear hi)) | ((with_reducible refine gate_callee (f := 55) rfl ?_); refine goesM_ (some 13) rfl rfl Tryd.func55 (by kernel_rfl) rfl #[.int .i64 a0] rfl ?_; (with_reducible refine (impl_FieldKind.calls k a0 t600 _ A5.out).mono ?_); rintro e w16 ⟨rfl, hb⟩; refine ⟨_, rfl, ?_⟩; have n0_ := Aside0.mk (below_step bB hb); clear HB; have HB := n0_; clear n0_; (try clear hb); (try clear hb2); (try clear hk); (try clear hi)) | ((with_reducible refine gate_callee (f := 68) rfl ?_); refine goesL_ (some 17) rfl rfl Tryd.func68 (by kernel_rfl) rfl #[.string (⟨#[48]⟩ : ByteArray), .int .i64 ji4] rfl (by (try simp only [List.map_toArray, List.map_cons, List.map_nil]); first | done | (simp only [hji4]; rfl) | rfl | (simp only [List.length_drop, List.length_take]; rfl)) ?_; (with_reducible refine (strings_Repeat.calls (⟨#[48]⟩ : ByteArray) ji4 t601 _ A7.out).mono ?_); rintro e w17 ⟨rfl, hb⟩; refine ⟨_, rfl, ?_⟩; have n0_ := Aside0.mk (below_step bB hb); clear HB; have HB := n0_; clear n0_; (try clear hb); (try clear hb2); (try clear hk); (try clear hi)) | ((with_reducible refine gate_callee (f := 34) rfl ?_); refine goesM_ (some 28) rfl rfl Tryd.func34 (by kernel_rfl) rfl #[.int .i64 a0, .string (t601 ++ a1)] rfl ?_; (with_reducible refine (impl_FieldOk.calls k a0 (t601 ++ a1) false _ A9.out).mono ?_); rintro e w18 ⟨rfl, hb⟩; refine ⟨_, rfl, ?_⟩; have n0_ := Aside0.mk (below_step bB hb); clear HB; have HB := n0_; clear n0_; (try clear hb); (try clear hb2); (try clear hk); (try clear hi)))
    go_ret
    exact ⟨by first | rfl | (simp [errW_none, errW_some] <;> rfl) | (simp only [← hji4]; first | rfl | (simp [errW_none, errW_some] <;> rfl) | (simp [i64_w, IntKind.wrap_u8] <;> rfl)) | (simp [*, errW_none, errW_some] <;> rfl), bB⟩
  ·rw [if_neg c8] at H
   exact absurd H (by simp)
 ·rw [if_neg c6] at H
  have c6b0 : (t600 == 1) = false := beq_eq_false_iff_ne.mpr c6
  have c6b1 : (t600 != 1) = true := bne_iff_ne.mpr c6
  by_cases c19 : t600 = 2
  ·rw [if_pos c19] at H
   have c19b0 : (t600 == 2) = true := beq_iff_eq.mpr c19
   have c19b1 : (t600 != 2) = false := bne_eq_false_iff_eq.mpr c19
   clear c19
   replace H := Option.bind_eq_some_iff.mp H
   obtain ⟨t603, A200, H⟩ := H
   replace H : (if a1.size + t603.size ≤ 9223372036854775807 then ((impl_FieldOk.f k a0 (a1 ++ t603)).bind fun t604 => (if t604 = true then (some (a1 ++ t603)) else (some (⟨#[]⟩ : ByteArray)))) else (none)) = some r := H
   have A20 := Aside0.mk A200
   clear A200
   by_cases c21 : a1.size + t603.size ≤ 9223372036854775807
   ·rw [if_pos c21] at H
    have c21b0 := eq_true c21
    have c21b1 : decide (a1.size + t603.size ≤ 9223372036854775807) = true := decide_eq_true c21
    try have c21b2 : (9223372036854775807 < a1.size + t603.size) = False := eq_false (Nat.not_lt.2 c21)
    try (have c21b3 := c21b2; simp only [ByteArray.size_append, ByteArray.size_extract, Nat.sub_zero, Nat.min_self] at c21b3)
    replace H := Option.bind_eq_some_iff.mp H
    obtain ⟨t604, A220, H⟩ := H
    replace H : (if t604 = true then (some (a1 ++ t603)) else (some (⟨#[]⟩ : ByteArray))) = some r := H
    have A22 := Aside0.mk A220
    clear A220
    by_cases c23 : t604 = true
    ·subst c23
     have H1 : (some (a1 ++ t603)) = some r := by rw [if_pos rfl] at H; exact H
     clear H
     have H := H1
     clear H1
     obtain rfl := Option.some.inj H
     go_enter Tryd.func35, Tryd.ntmps35
     go_wp2_with (first | ((with_reducible refine gate_callee (f := 65) rfl ?_); refine goesM_ (some 7) rfl rfl Tryd.func65 (by kernel_rfl) rfl #[.int .i64 a0] rfl ?_; (with_reducible refine (impl_FieldSize.calls k a0 t599 _ A3.out).mono ?_); rintro e w24 ⟨rfl, hb⟩; refine ⟨_, rfl, ?_⟩; have n0_ := Aside0.mk (below_step bB hb); clear HB; have HB := n0_; clear n0_; (try clear hb); (try clear hb2); (try clear hk); (try clear hi)) | ((with_reducible refine gate_callee (f := 55) rfl ?_); refine goesM_ (some 13) rfl rfl Tryd.func55 (by kernel_rfl) rfl #[.int .i64 a0] rfl ?_; (with_reducible refine (impl_FieldKind.calls k a0 t600 _ A5.out).mono ?_); rintro e w25 ⟨rfl, hb⟩; refine ⟨_, rfl, ?_⟩; have n0_ := Aside0.mk (below_step bB hb); clear HB; have HB := n0_; clear n0_; (try clear hb); (try clear hb2); (try clear hk); (try clear hi)) | ((with_reducible refine gate_callee (f := 68) rfl ?_); refine goesL_ (some 24) rfl rfl Tryd.func68 (by kernel_rfl) rfl #[.string (⟨#[32]⟩ : ByteArray), .int .i64 ji4] rfl (by (try simp only [List.map_toArray, List.map_cons, List.map_nil]); first | done | (simp only [hji4]; rfl) | rfl | (simp only [List.length_drop, List.length_take]; rfl)) ?_; (with_reducible refine (strings_Repeat.calls (⟨#[32]⟩ : ByteArray) ji4 t603 _ A20.out).mono ?_); rintro e w26 ⟨rfl, hb⟩; refine ⟨_, rfl, ?_⟩; have n0_ := Aside0.mk (below_step bB hb); clear HB; have HB := n0_; clear n0_; (try clear hb); (try clear hb2); (try clear hk); (try clear hi)) | ((with_reducible refine gate_callee (f := 34) rfl ?_); refine goesM_ (some 28) rfl rfl Tryd.func34 (by kernel_rfl) rfl #[.int .i64 a0, .string (a1 ++ t603)] rfl ?_; (with_reducible refine (impl_FieldOk.calls k a0 (a1 ++ t603) true _ A22.out).mono ?_); rintro e w27 ⟨rfl, hb⟩; refine ⟨_, rfl, ?_⟩; have n0_ := Aside0.mk (below_step bB hb); clear HB; have HB := n0_; clear n0_; (try clear hb); (try clear hb2); (try clear hk); (try clear hi)))
     go_ret
     exact ⟨by first | rfl | (simp [errW_none, errW_some] <;> rfl) | (simp only [← hji4]; first | rfl | (simp [errW_none, errW_some] <;> rfl) | (simp [i64_w, IntKind.wrap_u8] <;> rfl)) | (simp [*, errW_none, errW_some] <;> rfl), bB⟩
    ·replace c23 := Bool.eq_false_iff.mpr c23
     subst c23
     have H1 : (some (⟨#[]⟩ : ByteArray)) = some r := by rw [if_neg (show ¬ (false = true) by decide)] at H; exact H
     clear H
     have H := H1
     clear H1
     obtain rfl := Option.some.inj H
     go_enter Tryd.func35, Tryd.ntmps35
     go_wp2_with (first | ((with_reducible refine gate_callee (f := 65) rfl ?_); refine goesM_ (some 7) rfl rfl Tryd.func65 (by kernel_rfl) rfl #[.int .i64 a0] rfl ?_; (with_reducible refine (impl_FieldSize.calls k a0 t599 _ A3.out).mono ?_); rintro e w28 ⟨rfl, hb⟩; refine ⟨_, rfl, ?_⟩; have n0_ := Aside0.mk (below_step bB hb); clear HB; have HB := n0_; clear n0_; (try clear hb); (try clear hb2); (try clear hk); (try clear hi)) | ((with_reducible refine gate_callee (f := 55) rfl ?_); refine goesM_ (some 13) rfl rfl Tryd.func55 (by kernel_rfl) rfl #[.int .i64 a0] rfl ?_; (with_reducible refine (impl_FieldKind.calls k a0 t600 _ A5.out).mono ?_); rintro e w29 ⟨rfl, hb⟩; refine ⟨_, rfl, ?_⟩; have n0_ := Aside0.mk (below_step bB hb); clear HB; have HB := n0_; clear n0_; (try clear hb); (try clear hb2); (try clear hk); (try clear hi)) | ((with_reducible refine gate_callee (f := 68) rfl ?_); refine goesL_ (some 24) rfl rfl Tryd.func68 (by kernel_rfl) rfl #[.string (⟨#[32]⟩ : ByteArray), .int .i64 ji4] rfl (by (try simp only [List.map_toArray, List.map_cons, List.map_nil]); first | done | (simp only [hji4]; rfl) | rfl | (simp only [List.length_drop, List.length_take]; rfl)) ?_; (with_reducible refine (strings_Repeat.calls (⟨#[32]⟩ : ByteArray) ji4 t603 _ A20.out).mono ?_); rintro e w30 ⟨rfl, hb⟩; refine ⟨_, rfl, ?_⟩; have n0_ := Aside0.mk (below_step bB hb); clear HB; have HB := n0_; clear n0_; (try clear hb); (try clear hb2); (try clear hk); (try clear hi)) | ((with_reducible refine gate_callee (f := 34) rfl ?_); refine goesM_ (some 28) rfl rfl Tryd.func34 (by kernel_rfl) rfl #[.int .i64 a0, .string (a1 ++ t603)] rfl ?_; (with_reducible refine (impl_FieldOk.calls k a0 (a1 ++ t603) false _ A22.out).mono ?_); rintro e w31 ⟨rfl, hb⟩; refine ⟨_, rfl, ?_⟩; have n0_ := Aside0.mk (below_step bB hb); clear HB; have HB := n0_; clear n0_; (try clear hb); (try clear hb2); (try clear hk); (try clear hi)))
     go_ret
     exact ⟨by first | rfl | (simp [errW_none, errW_some] <;> rfl) | (simp only [← hji4]; first | rfl | (simp [errW_none, errW_some] <;> rfl) | (simp [i64_w, IntKind.wrap_u8] <;> rfl)) | (simp [*, errW_none, errW_some] <;> rfl), bB⟩
   ·rw [if_neg c21] at H
    exact absurd H (by simp)
  ·rw [if_neg c19] at H
   have c19b0 : (t600 == 2) = false := beq_eq_false_iff_ne.mpr c19
   have c19b1 : (t600 != 2) = true := bne_iff_ne.mpr c19
   replace H := Option.bind_eq_some_iff.mp H
   obtain ⟨t605, A320, H⟩ := H
   replace H : (if t605 = true then (some a1) else (some (⟨#[]⟩ : ByteArray))) = some r := H
   have A32 := Aside0.mk A320
   clear A320
   by_cases c33 : t605 = true
   ·subst c33
    have H1 : (some a1) = some r := by rw [if_pos rfl] at H; exact H
    clear H
    have H := H1
    clear H1
    obtain rfl := Option.some.inj H
    go_enter Tryd.func35, Tryd.ntmps35
    go_wp2_with (first | ((with_reducible refine gate_callee (f := 65) rfl ?_); refine goesM_ (some 7) rfl rfl Tryd.func65 (by kernel_rfl) rfl #[.int .i64 a0] rfl ?_; (with_reducible refine (impl_FieldSize.calls k a0 t599 _ A3.out).mono ?_); rintro e w34 ⟨rfl, hb⟩; refine ⟨_, rfl, ?_⟩; have n0_ := Aside0.mk (below_step bB hb); clear HB; have HB := n0_; clear n0_; (try clear hb); (try clear hb2); (try clear hk); (try clear hi)) | ((with_reducible refine gate_callee (f := 55) rfl ?_); refine goesM_ (some 13) rfl rfl Tryd.func55 (by kernel_rfl) rfl #[.int .i64 a0] rfl ?_; (with_reducible refine (impl_FieldKind.calls k a0 t600 _ A5.out).mono ?_); rintro e w35 ⟨rfl, hb⟩; refine ⟨_, rfl, ?_⟩; have n0_ := Aside0.mk (below_step bB hb); clear HB; have HB := n0_; clear n0_; (try clear hb); (try clear hb2); (try clear hk); (try clear hi)) | ((with_reducible refine gate_callee (f := 34) rfl ?_); refine goesM_ (some 28) rfl rfl Tryd.func34 (by kernel_rfl) rfl #[.int .i64 a0, .string a1] rfl ?_; (with_reducible refine (impl_FieldOk.calls k a0 a1 true _ A32.out).mono ?_); rintro e w36 ⟨rfl, hb⟩; refine ⟨_, rfl, ?_⟩; have n0_ := Aside0.mk (below_step bB hb); clear HB; have HB := n0_; clear n0_; (try clear hb); (try clear hb2); (try clear hk); (try clear hi)))
    go_ret
    exact ⟨by first | rfl | (simp [errW_none, errW_some] <;> rfl) | (simp only [← hji4]; first | rfl | (simp [errW_none, errW_some] <;> rfl) | (simp [i64_w, IntKind.wrap_u8] <;> rfl)) | (simp [*, errW_none, errW_some] <;> rfl), bB⟩
   ·replace c33 := Bool.eq_false_iff.mpr c33
    subst c33
    have H1 : (some (⟨#[]⟩ : ByteArray)) = some r := by rw [if_neg (show ¬ (false = true) by decide)] at H; exact H
    clear H
    have H := H1
    clear H1
    obtain rfl := Option.some.inj H
    go_enter Tryd.func35, Tryd.ntmps35
    go_wp2_with (first | ((with_reducible refine gate_callee (f := 65) rfl ?_); refine goesM_ (some 7) rfl rfl Tryd.func65 (by kernel_rfl) rfl #[.int .i64 a0] rfl ?_; (with_reducible refine (impl_FieldSize.calls k a0 t599 _ A3.out).mono ?_); rintro e w37 ⟨rfl, hb⟩; refine ⟨_, rfl, ?_⟩; have n0_ := Aside0.mk (below_step bB hb); clear HB; have HB := n0_; clear n0_; (try clear hb); (try clear hb2); (try clear hk); (try clear hi)) | ((with_reducible refine gate_callee (f := 55) rfl ?_); refine goesM_ (some 13) rfl rfl Tryd.func55 (by kernel_rfl) rfl #[.int .i64 a0] rfl ?_; (with_reducible refine (impl_FieldKind.calls k a0 t600 _ A5.out).mono ?_); rintro e w38 ⟨rfl, hb⟩; refine ⟨_, rfl, ?_⟩; have n0_ := Aside0.mk (below_step bB hb); clear HB; have HB := n0_; clear n0_; (try clear hb); (try clear hb2); (try clear hk); (try clear hi)) | ((with_reducible refine gate_callee (f := 34) rfl ?_); refine goesM_ (some 28) rfl rfl Tryd.func34 (by kernel_rfl) rfl #[.int .i64 a0, .string a1] rfl ?_; (with_reducible refine (impl_FieldOk.calls k a0 a1 false _ A32.out).mono ?_); rintro e w39 ⟨rfl, hb⟩; refine ⟨_, rfl, ?_⟩; have n0_ := Aside0.mk (below_step bB hb); clear HB; have HB := n0_; clear n0_; (try clear hb); (try clear hb2); (try clear hk); (try clear hi)))
    go_ret
    exact ⟨by first | rfl | (simp [errW_none, errW_some] <;> rfl) | (simp only [← hji4]; first | rfl | (simp [errW_none, errW_some] <;> rfl) | (simp [i64_w, IntKind.wrap_u8] <;> rfl)) | (simp [*, errW_none, errW_some] <;> rfl), bB⟩
attribute [local go_sem] max2_int min2_int max_two min_two max_three min_three max_four min_four
set_option linter.unusedVariables false
set_option linter.unusedSimpArgs false
def impl_FieldNos.l0 : Nat → List Int → List (S85) → Int → Int → Option (List Int)
 | 0, _, _, _, _ => none
 | k + 1, x1, x5, x6, x7 => if x7 < x6 then (if 0 ≤ x7 then (if x7 < (x5.length : Int) then (if x1.length < 17592186044416 then (impl_FieldNos.l0 k (x1 ++ [(rd_T85 x5 x7).f0]) x5 x6 (wrap64 (x7 + 1))) else (none)) else (none)) else (none)) else (some x1)
def impl_FieldNos.f (k : Nat)  : Option (List Int) := (impl_fieldRows.f).bind fun t609 => (impl_FieldNos.l0 k (([] : List Int)) t609 (t609.length : Int) 0)
theorem impl_FieldNos.mono_l : ∀ k, (∀ y0 y1 y2 y3, LeO (impl_FieldNos.l0 k y0 y1 y2 y3) (impl_FieldNos.l0 (k + 1) y0 y1 y2 y3))
 | 0 => fun _ _ _ _ r h => by simp [impl_FieldNos.l0] at h
 | k + 1 => by
  have ih0 := impl_FieldNos.mono_l k
  ·intro y0 y1 y2 y3
   unfold impl_FieldNos.l0
   repeat' first
   | (with_reducible exact ih0 _ _ _ _)
   | (with_reducible exact LeO.refl _)
   | (with_reducible exact LeO.none _)
   | (with_reducible refine LeO.ite ?_ ?_)
   | (with_reducible refine LeO.bind ?_ (fun _ => ?_))
   | exact ih0 _ _ _ _
   | exact LeO.none _
   | refine LeO.ite ?_ ?_
   | refine LeO.bind ?_ (fun _ => ?_)
theorem impl_FieldNos.mono : ∀ k, LeO (impl_FieldNos.f k ) (impl_FieldNos.f (k + 1) ) := by
 intro  k
 have ih0 := impl_FieldNos.mono_l k
 unfold impl_FieldNos.f
 repeat' first
   | (with_reducible exact ih0 _ _ _ _)
   | (with_reducible exact LeO.refl _)
   | (with_reducible exact LeO.none _)
   | (with_reducible refine LeO.ite ?_ ?_)
   | (with_reducible refine LeO.bind ?_ (fun _ => ?_))
   | exact ih0 _ _ _ _
   | exact LeO.none _
   | refine LeO.ite ?_ ?_
   | refine LeO.bind ?_ (fun _ => ?_)
set_option maxHeartbeats 8000000 in
set_option maxRecDepth 100000 in
theorem impl_FieldNos.calls (k : Nat)  (r : List Int) (w : World) (h : impl_FieldNos.f k  = some r) :
  Calls Tryd.prog 36 #[] w fun e w' => ∃ v0_ : Value, e = .returned (v0_) ∧ Kd.R (Kd.int .i64) 3 w' w.heap.size (fun _ => True) v0_ r ∧ Below w.heap.size w w' := by
 have hu85 := Tryd.underlying85
 have HB := Aside0.mk (Below.refl w.heap.size w)
 have H : ((impl_fieldRows.f).bind fun t609 => (impl_FieldNos.l0 k (([] : List Int)) t609 (t609.length : Int) 0)) = some r := h
 clear h
 obtain ⟨y606, hy606⟩ : ∃ y_ : List Int, y_ = (([] : List Int)) := ⟨_, rfl⟩
 replace H : ((impl_fieldRows.f).bind fun t609 => (impl_FieldNos.l0 k y606 t609 (t609.length : Int) 0)) = some r := by first | (rw [hy606]; with_reducible exact H) | (have H2_ := (Option.bind_some _ _).symm.trans H; rw [hy606]; with_reducible exact H2_) | (have H2_ := (Option.bind_some _ _).symm.trans H; with_reducible exact H2_) | with_reducible exact H | (rw [hy606]; exact H) | exact H
 have Ny606 := Aside0.mk hy606
 clear hy606
 replace H := Option.bind_eq_some_iff.mp H
 obtain ⟨t609, A10, H⟩ := H
 replace H : (impl_FieldNos.l0 k y606 t609 (t609.length : Int) 0) = some r := H
 have A1 := Aside0.mk A10
 clear A10
 have H' := Aside0.mk H
 clear H
 go_enter Tryd.func36, Tryd.ntmps36
 go_wp2_with (first | ((with_reducible refine gate_dst (N := 4) rfl ?_); refine Kd.R_lit (Kd.int .i64) _ 3 ?hg (N := 4) ?hd (xs := ([] : List Int)) (inner := []) (ok := fun _ => True) (okp := fun _ => True) ?hr ?hp (fun _ hk => hk) trivial (Below.refl _ _) (Nat.le_refl _) (by simp) ?_; (case hd => rfl); (case hg => rfl); (case hr => first | (go_simp; done) | (go_simp; rfl)); (case hp => exact (Reps.none _ _)); intro v607 w2 ho3 hb hg_ hnew_; clear hg_ hnew_; (first | rw [← Ny606.out] at ho3 | (simp only [Int.reduceToNat] at ho3; rw [← Ny606.out] at ho3)); have n0_ := Aside0.mk (Kd.R_lower ho3 (below_size bB)); have n1_ := Aside0.mk (below_step bB hb); clear HB; have HO608 := n0_; have HB := n1_; clear n0_ n1_; clear hb ho3) | ((with_reducible refine gate_callee (f := 69) rfl ?_); refine goesM_ (some 5) rfl rfl Tryd.func69 (by kernel_rfl) rfl #[] rfl ?_; (with_reducible refine (impl_fieldRows.calls  t609 _ A1.out).mono ?_); rintro e w4 ⟨v610, rfl, ho0, hb⟩; refine ⟨_, rfl, ?_⟩; have n0_ := Aside0.mk (Kd.R_below (rA HO608.out) hb); have n1_ := Aside0.mk (Kd.R_lower ho0 (below_size bB)); have n2_ := Aside0.mk (below_step bB hb); clear HO608; clear HB; have HO608 := n0_; have HO611 := n1_; have HB := n2_; clear n0_ n1_ n2_; (try clear hb); (try clear hb2); (try clear hk); (try clear hi); (try clear ho0); obtain ⟨Ao5, co5, eo5⟩ := Kd.R_slice HO611.out; subst eo5))
 go_loopg [1, 7] k (fun kq v1 v7 w' => ∃ (x1_1 : List Int) (x7_1 : Int), v7 = .int .i64 x7_1 ∧ Aside0 (impl_FieldNos.l0 kq x1_1 t609 (t609.length : Int) x7_1 = some r) ∧ Aside0 (kq ≤ k) ∧ Aside0 (Kd.R (Kd.int .i64) 3 w' w.heap.size (fun _ => True) v1 x1_1) ∧ Aside0 (Kd.R k85 85 w' w.heap.size (fun _ => True) (.slice Ao5 t609.length co5) t609) ∧ Aside0 (Below w.heap.size w w'))
 case atStart => exact ⟨(y606), (0), (by first | rfl | (simp; done) | (simp [*]; done) | (simp [i64_w, IntKind.wrap_u8, e256_]; done) | (simp; generalize ByteArray.toList _ = zz_; cases zz_ <;> rfl)), H', ⟨Nat.le_refl _⟩, ⟨rA HO608.out⟩, ⟨rA HO611.out⟩, ⟨bB⟩⟩
 case round =>
  clear H'
  try clear p2
  try clear c3
  obtain ⟨x1_1, x7_1, rfl, HA, HK1, HO_1, HO_5, HB⟩ := hrel
  cases gk with
  | zero => exact absurd HA.out (by simp [impl_FieldNos.l0])
  | succ k1 =>
   have H := HA.out
   clear HA
   simp only [impl_FieldNos.l0] at H
   by_cases c6 : x7_1 < (t609.length : Int)
   ·rw [if_pos c6] at H
    have c6b0 : decide (x7_1 < (t609.length : Int)) = true := decide_eq_true c6
    clear c6
    by_cases c7 : 0 ≤ x7_1
    ·rw [if_pos c7] at H
     have c7b0 : decide (0 ≤ x7_1) = true := decide_eq_true c7
     clear c7
     by_cases c8 : x7_1 < (t609.length : Int)
     ·rw [if_pos c8] at H
      have c8b0 : decide (x7_1 < (t609.length : Int)) = true := decide_eq_true c8
      clear c8
      by_cases c9 : x1_1.length < 17592186044416
      ·rw [if_pos c9] at H
       have LMc9 := Aside0.mk c9
       clear c9
       obtain ⟨y614, hy614⟩ : ∃ y_ : List Int, y_ = (x1_1 ++ [(rd_T85 t609 x7_1).f0]) := ⟨_, rfl⟩
       replace H : (impl_FieldNos.l0 k1 y614 t609 (t609.length : Int) (wrap64 (x7_1 + 1))) = some r := by first | (rw [hy614]; with_reducible exact H) | (have H2_ := (Option.bind_some _ _).symm.trans H; rw [hy614]; with_reducible exact H2_) | (have H2_ := (Option.bind_some _ _).symm.trans H; with_reducible exact H2_) | with_reducible exact H | (rw [hy614]; exact H) | exact H
       have Ny614 := Aside0.mk hy614
       clear hy614
       have H' := Aside0.mk H
       clear H
       have p612 : 0 ≤ (x7_1 : Int) := of_decide_eq_true (by first | (with_reducible assumption) | assumption)
       have q612 : x7_1 < (t609.length : Int) := of_decide_eq_true (by first | (with_reducible assumption) | assumption)
       obtain ⟨ad612, e612, hx612_0, hx612_1, hx612_2⟩ := at_T85 (Kd.R_reads' HO_5.out).2.2 x7_1 p612 q612
       cases e612
       replace p612 := eq_true p612
       replace q612 := eq_true q612
       go_wp2_with (first | ((with_reducible refine gate_dst (N := 3) rfl ?_); refine box_event ?hg (N := 3) ?hd (cs := #[.int .i64 0, .int .i64 0, .int .i64 0]) (t := 85) ?hr ?_; (case hd => rfl); (case hg => rfl); (case hr => first | (go_simp; done) | (go_simp; rfl)); intro gb613 hg w10 hbox hb; have n0_ := Aside0.mk (Kd.R_below (rA HO_1.out) hb); have n1_ := Aside0.mk (Kd.R_below (Kd.R_elderB (rA HO_5.out) gb613 (Nat.le_of_eq hg.symm)) hb); have n2_ := Aside0.mk (below_step bB hb); have n3_ := Aside0.mk (hbox); have n4_ := Aside0.mk ((by rw [hg]; exact (below_size bB) : w.heap.size ≤ gb613)); have n5_ := Aside0.mk ((by rw [hg]; exact (below_size bB) : w.heap.size ≤ gb613)); clear HO_1; clear HO_5; clear HB; have HO_1 := n0_; have HO_5 := n1_; have HB := n2_; have BK613 := n3_; have GW613 := n4_; have GE613 := n5_; clear n0_ n1_ n2_ n3_ n4_ n5_; clear hb hbox hg; have hcz11_0 : w10.cell? ⟨gb613, 0, none⟩ = some (.int .i64 0) := (blk_cell BK613.out 0).trans rfl; have hcz11_1 : w10.cell? ⟨gb613, 1, none⟩ = some (.int .i64 0) := (blk_cell BK613.out 1).trans rfl; have hcz11_2 : w10.cell? ⟨gb613, 2, none⟩ = some (.int .i64 0) := (blk_cell BK613.out 2).trans rfl; have hfz11_0 := blk_frozen BK613.out 0; have hfz11_1 := blk_frozen BK613.out 1; have hfz11_2 := blk_frozen BK613.out 2) | ((with_reducible refine gate_builtin (b := .append) (xs := #[.tmp 11, .tmp 14]) rfl ?_); at_builtin; refine Kd.R_append (Kd.int .i64) (w0 := w) w.heap.size rfl (.tmp 11) (.tmp 14) 32 3 (.int .i64 0) 8 rfl Tryd.underlying32 info3 rfl (by decide) (by omega) u1 x1_1 ((rd_T85 t609 x7_1).f0) [.int .i64 ((rd_T85 t609 x7_1).f0)] (fun _ => True) (fun _ => False) rfl (by first | (go_simp; done) | (go_simp; rfl)) ?aP (fun _ hk => hk.elim) ?aF ?aO ?aB ?aS ?aL ?_; (case aP => exact rfl); (case aB => exact bG); (case aF => exact (fun _ _ => trivial)); (case aO => exact (by (with_reducible repeat (first | apply Kd.R_alloc | apply Kd.R_drewN | apply Kd.R_drew)); exact Kd.R_mono (Kd.R_far (p := ⟨gb613, 2, none⟩) (Kd.R_far (p := ⟨gb613, 1, none⟩) (Kd.R_far (p := ⟨gb613, 0, none⟩) (Kd.R_types HO_1.out BK613.out (by decide)) (fun _ hk => hk.2) (.int .i64 ((rd_T85 t609 x7_1).f0))) (fun _ hk => hk.2) (.int .i64 ((rd_T85 t609 x7_1).f1))) (fun _ hk => hk.2) (.int .i64 ((rd_T85 t609 x7_1).f2))) (fun _ hk => trivial))); (case aS => exact (below_size bG)); (case aL => have := LMc9.out; omega); intro v615 w12 ho hb hg hat; rw [← Ny614.out] at ho; have n0_ := Aside0.mk (Kd.R_over' (by (with_reducible repeat (first | apply Kd.R_alloc | apply Kd.R_drewN | apply Kd.R_drew)); exact (Kd.R_mono (Kd.R_far (p := ⟨gb613, 2, none⟩) (Kd.R_far (p := ⟨gb613, 1, none⟩) (Kd.R_far (p := ⟨gb613, 0, none⟩) (Kd.R_mono HO_5.out (fun k_ hk => (⟨hk, hk.2⟩ : _ ∧ k_ ≠ gb613))) (fun _ hk => hk.2) (.int .i64 ((rd_T85 t609 x7_1).f0))) (fun _ hk => hk.2) (.int .i64 ((rd_T85 t609 x7_1).f1))) (fun _ hk => hk.2) (.int .i64 ((rd_T85 t609 x7_1).f2))) (fun _ h_ => h_.1))) (Kd.R_typed (by (with_reducible repeat (first | apply Kd.R_alloc | apply Kd.R_drewN | apply Kd.R_drew)); exact (Kd.R_mono (Kd.R_far (p := ⟨gb613, 2, none⟩) (Kd.R_far (p := ⟨gb613, 1, none⟩) (Kd.R_far (p := ⟨gb613, 0, none⟩) (Kd.R_types HO_1.out BK613.out (by decide)) (fun _ hk => hk.2) (.int .i64 ((rd_T85 t609 x7_1).f0))) (fun _ hk => hk.2) (.int .i64 ((rd_T85 t609 x7_1).f1))) (fun _ hk => hk.2) (.int .i64 ((rd_T85 t609 x7_1).f2))) (fun _ h_ => h_.1)))) (by decide) hg); have n1_ := Aside0.mk (blk_grown (g := gb613) (o := .cells #[.int .i64 ((rd_T85 t609 x7_1).f0), .int .i64 ((rd_T85 t609 x7_1).f1), .int .i64 ((rd_T85 t609 x7_1).f2)] 85 (0, 0)) (by (with_reducible repeat (first | refine blk_drewN ?_ _ | refine blk_drew ?_ | refine blk_alloc ?_ _)); refine blk_put (cs := #[.int .i64 ((rd_T85 t609 x7_1).f0), .int .i64 ((rd_T85 t609 x7_1).f1), .int .i64 0]) ?_ 2 _ rfl; (with_reducible repeat (first | refine blk_drewN ?_ _ | refine blk_drew ?_ | refine blk_alloc ?_ _)); refine blk_put (cs := #[.int .i64 ((rd_T85 t609 x7_1).f0), .int .i64 0, .int .i64 0]) ?_ 1 _ rfl; (with_reducible repeat (first | refine blk_drewN ?_ _ | refine blk_drew ?_ | refine blk_alloc ?_ _)); refine blk_put (cs := #[.int .i64 0, .int .i64 0, .int .i64 0]) ?_ 0 _ rfl; (with_reducible repeat (first | refine blk_drewN ?_ _ | refine blk_drew ?_ | refine blk_alloc ?_ _)); exact BK613.out) hg (Kd.R_ne HO_1.out BK613.out (by decide))); have n2_ := Aside0.mk (hb); have n3_ := Aside0.mk (ho); clear HO_5; clear BK613; clear HB; clear HO_1; have HO_5 := n0_; have BK613 := n1_; have HB := n2_; have HO616 := n3_; clear n0_ n1_ n2_ n3_; clear ho hb hg hat))
       go_roundg k1
       case measure => have := HK1.out; omega
       case rel => exact ⟨(y614), (wrap64 (x7_1 + 1)), (by first | rfl | (simp; done) | (simp [*]; done) | (simp [i64_w, IntKind.wrap_u8, e256_]; done) | (simp; generalize ByteArray.toList _ = zz_; cases zz_ <;> rfl)), H', ⟨by have := HK1.out; omega⟩, ⟨rA HO616.out⟩, ⟨by (with_reducible repeat (first | apply Kd.R_alloc | apply Kd.R_drewN | apply Kd.R_drew)); exact Kd.R_mono HO_5.out (fun _ hk => trivial)⟩, ⟨bG⟩⟩
      ·rw [if_neg c9] at H
       exact absurd H (by simp)
     ·rw [if_neg c8] at H
      exact absurd H (by simp)
    ·rw [if_neg c7] at H
     exact absurd H (by simp)
   ·rw [if_neg c6] at H
    have c6b0 : decide (x7_1 < (t609.length : Int)) = false := decide_eq_false c6
    clear c6
    obtain rfl := Option.some.inj H
    go_wp2
    go_ret
    exact ⟨_, by first | rfl | (simp [errW_none, errW_some] <;> rfl) | (simp [*, errW_none, errW_some] <;> rfl), rA HO_1.out, bB⟩
end Go.Proofs.YtfiieppnpmodoaaDoor.Q
end
section
namespace Go.Proofs.YtfiieppnpmodoaaDoor.Q
open Go.RowKit Go.Proofs.YtfiieppnpmodoaaDoorW.PrintWords Go.Proofs.YtfiieppnpmodoaaDoorW.PrintLast Go.Proofs.YtfiieppnpmodoaaDoorW.PrintMore
set_option linter.unusedVariables false
set_option linter.unusedSimpArgs false
def RB (e : TypeId) (w : World) (g c : Nat) (xs : List Int) : Prop :=
  ∃ cur fr, w.heap[g]? = some (.cells cur e fr) ∧ (fr = (0, 0) ∨ fr = (cur.size, cur.size + 1)) ∧ xs.length ≤ c ∧ c ≤ maxLen ∧ cur.size = c ∧ ∀ j, j < xs.length → cur[j]? = some (.int .u8 (xs.getD j 0))
def RowB (e : TypeId) (w : World) (base : Nat) (v : Value) (xs : List Int) : Prop :=
  (v = .slice none 0 0 ∧ xs = []) ∨ ∃ g c, v = .slice (some ⟨g, 0, none⟩) xs.length c ∧ base ≤ g ∧ RB e w g c xs
theorem RB_lt {e : TypeId} {w : World} {g c : Nat} {xs : List Int} (h : RB e w g c xs) : g < w.heap.size := by
  obtain ⟨cur, fr, hh, _⟩ := h
  exact (Array.getElem?_eq_some_iff.1 hh).1
theorem RB_step {e : TypeId} {w w1 : World} {g c : Nat} {xs : List Int} (h : RB e w g c xs) (hb : w1.heap[g]? = w.heap[g]?) : RB e w1 g c xs := by
  obtain ⟨cur, fr, hh, r⟩ := h
  exact ⟨cur, fr, hb.trans hh, r⟩
theorem RB_below {e : TypeId} {w w1 : World} {g c : Nat} {xs : List Int} (h : RB e w g c xs) (hb : Below w.heap.size w w1) : RB e w1 g c xs := RB_step h (hb.block g (RB_lt h))
theorem RB_cell {e : TypeId} {w : World} {g c : Nat} {xs : List Int} (h : RB e w g c xs) (j : Nat) (hj : j < xs.length) : w.cell? ⟨g, j, none⟩ = some (.int .u8 (xs.getD j 0)) := by
  obtain ⟨cur, fr, hh, _, _, _, _, hc⟩ := h
  rw [cell_of_row w g j cur e fr hh]
  exact hc j hj
theorem RB_C {e : TypeId} {w : World} {g c : Nat} {xs : List Int} (h : RB e w g c xs) : Kd.C (Kd.int .u8) w (some ⟨g, 0, none⟩) xs.length xs := by
  refine Kd.C_of_reads (d := (0 : Int)) (h1 := fun _ => rfl) ⟨rfl, ?_, fun _ => ⟨_, rfl, fun j hj => ?_⟩⟩
  · obtain ⟨_, _, _, _, hl, hm, _⟩ := h
    unfold maxLen at hm
    omega
  · rw [add_plain]
    exact RB_cell h j hj
theorem RB_le {e : TypeId} {w : World} {g c : Nat} {xs : List Int} (h : RB e w g c xs) : xs.length ≤ c := by
  obtain ⟨_, _, _, _, hl, _⟩ := h
  exact hl
theorem RowB_lower {e : TypeId} {w : World} {base base' : Nat} {v : Value} {xs : List Int} (h : RowB e w base v xs) (hb : base' ≤ base) : RowB e w base' v xs := by
  rcases h with h | ⟨g, c, rfl, hg, hr⟩
  · exact .inl h
  · exact .inr ⟨g, c, rfl, Nat.le_trans hb hg, hr⟩
theorem RowB_V {e : TypeId} {w : World} {base base' : Nat} {v : Value} {xs : List Int} (h : RowB e w base v xs) : Kd.V (Kd.int .u8) e w base' (fun k_ => base ≤ k_) v xs := by
  rcases h with ⟨rfl, rfl⟩ | ⟨g, c, rfl, hg, hr⟩
  · exact Kd.V_nil _ _ _ _ _
  · exact Kd.V_mk (RB_le hr) (fun W' hW => RB_C (RB_step hr (hW g hg (RB_lt hr))))
theorem RowB_of_R {e : TypeId} {w : World} {base : Nat} {ok : Nat → Prop} {v : Value} {xs : List Int} (h : Kd.R (Kd.int .u8) e w base ok v xs) : RowB e w base v xs := by
  obtain ⟨hlen, h2⟩ := Kd.own_of_R h
  rcases h2 with ⟨rfl, h0⟩ | ⟨g, cap, cur, rfl, hg, hh, hn, hm, hs, ht⟩
  · exact .inl ⟨rfl, List.length_eq_zero_iff.1 h0⟩
  · refine .inr ⟨g, cap, rfl, hg, cur, (0, 0), hh, .inl rfl, hn, hm, by omega, fun j hj => ?_⟩
    have h3 : (cur.toList.take (xs.length * 1))[j]? = (encs (Value.int .u8) xs)[j]? := by rw [ht]
    rw [List.getElem?_take_of_lt (by omega)] at h3
    rw [← Array.getElem?_toList, h3]
    unfold encs
    simp [List.getElem?_map, List.getElem?_eq_getElem hj, List.getD]
theorem conv_event {P : Program} {ops : Array Oper} {rest : List Oper} {o : Oper} {a : Act} {Q : Exit → Act → World → Prop} {W : World} (hgd : o.guard = none) {src dst e : TypeId} {x : Operand} {s : ByteArray} {u : TypeDesc}
    (ho : o.op = .convert src dst x) (hx : a.eval x = .string s) (hs : P.underlying src = some u) (hd : P.underlying dst = some (.slice e)) (he : P.underlying e = some (.int .u8)) (hmax : s.size ≤ maxLen)
    (h : ∀ g c w1, g = W.heap.size → RB e w1 g c (bytesOf s) → Below W.heap.size W w1 → wpList P ops Q rest (a.put o.dst (.slice (some ⟨g, 0, none⟩) s.size c)) w1) : wpList P ops Q (o :: rest) a W := by
  have hc1 := grownCap_ge W s.size 0 e
  have hc2 := grownCap_le_maxLen W s.size 0 e hmax
  have hcs : (Lib.bytesCells W e s).size = grownCap W s.size 0 e := by
    unfold Lib.bytesCells
    have : s.data.size = s.size := rfl
    simp
    omega
  refine Kd.event_run hgd (v := .slice (some ⟨W.heap.size, 0, none⟩) s.size (grownCap W s.size 0 e)) (w1 := Lib.bytesWorld W e s) ?_ (h W.heap.size _ _ rfl ⟨_, _, Lib.bytesWorld_at_new W e s, .inr rfl, by rw [bytesOf_length]; exact hc1, hc2, hcs, fun j hj => ?_⟩ (bytes_below (Below.refl _ _) (Nat.le_refl _) e s))
  · unfold execOp
    rw [ho]
    simp only [hx]
    have hr := print_bytes (P := P) src dst e hs hd he s W
    simp [hr, Result.andThen]
  · rw [bytesOf_length] at hj
    have h1 := Lib.bytesWorld_cell W e s j hj
    rw [cell_of_row _ _ _ _ _ _ (Lib.bytesWorld_at_new W e s)] at h1
    rw [h1]
    congr 2
    have h' : j < s.data.toList.length := by rw [data_length]; exact hj
    simp [bytesOf, List.getD_eq_getElem?_getD, List.getElem?_eq_getElem h']
def isByte (c : Int) : Prop := 0 ≤ c ∧ c ≤ 255
theorem bytesOf_range (s : ByteArray) : ∀ c ∈ bytesOf s, isByte c := by
  intro c hc
  unfold bytesOf at hc
  obtain ⟨b, _, rfl⟩ := List.mem_map.1 hc
  have := b.toNat_lt
  exact ⟨by omega, by omega⟩
theorem bytesOf_inj {s t : ByteArray} (h : bytesOf s = bytesOf t) : s = t := by
  have e : s.data.toList = t.data.toList := by
    unfold bytesOf at h
    have := congrArg (List.map fun n : Int => UInt8.ofNat n.toNat) h
    simpa [List.map_map, Function.comp_def] using this
  cases s; cases t
  congr 1
  exact Array.toList_inj.1 e
theorem bytesOf_append (s t : ByteArray) : bytesOf (s ++ t) = bytesOf s ++ bytesOf t := by
  unfold bytesOf
  simp
theorem bytesOf_strOfNums (l : List Int) (h : ∀ c ∈ l, isByte c) : bytesOf (strOfNums l) = l := by
  unfold bytesOf
  rw [strOfNums_data, List.map_map]
  have : ∀ c ∈ l, ((fun b : UInt8 => (b.toNat : Int)) ∘ fun n : Int => UInt8.ofNat n.toNat) c = c := by
    intro c hc
    obtain ⟨h0, h1⟩ := h c hc
    have e : (UInt8.ofNat c.toNat).toNat = c.toNat := by simp [UInt8.toNat_ofNat']; omega
    simp only [Function.comp, e]
    omega
  rw [List.map_congr_left this]
  simp
theorem strOfNums_bytesOf (s : ByteArray) : strOfNums (bytesOf s) = s := bytesOf_inj (bytesOf_strOfNums _ (bytesOf_range s))
theorem size_eq (s : ByteArray) : s.size = (bytesOf s).length := (bytesOf_length s).symm
theorem bt_eq (s : ByteArray) (i : Int) : bt s i = rd (bytesOf s) i := (rd_bytesOf s i).symm
end Go.Proofs.YtfiieppnpmodoaaDoor.Q
end
section
namespace Go.Proofs.YtfiieppnpmodoaaDoor.Q
open Go.RowKit Go.Proofs.YtfiieppnpmodoaaDoorW.PrintWords Go.Proofs.YtfiieppnpmodoaaDoorW.PrintLast Go.Proofs.YtfiieppnpmodoaaDoorW.PrintMore
def strconv_Itoa.f (a0 : Int) : Option ByteArray := if -9223372036854775808 ≤ a0 ∧ a0 ≤ 9223372036854775807 then some ⟨(Lib.itoa a0).toArray⟩ else none
theorem strconv_Itoa.calls (a0 : Int) (r : ByteArray) (w : World) (hG : GLW w) (h : strconv_Itoa.f a0 = some r) :
    Calls Tryd.prog 77 #[.int .i64 a0] w fun e w' => e = .returned (.string r) ∧ Below w.heap.size w w' := by
  unfold strconv_Itoa.f at h
  by_cases q : -9223372036854775808 ≤ a0 ∧ a0 ≤ 9223372036854775807
  · rw [if_pos q] at h
    obtain rfl := Option.some.inj h
    refine (Tryd.strconv_Itoa a0 q.1 q.2 w hG).mono ?_
    rintro e w' ⟨rfl, k, os, rfl⟩
    exact ⟨rfl, Lib.below_grow _ _ (Nat.le_refl _) _ _⟩
  · rw [if_neg q] at h
    exact absurd h (by simp)
end Go.Proofs.YtfiieppnpmodoaaDoor.Q
end
section
namespace Go.Proofs.YtfiieppnpmodoaaDoor.Q
open Go.RowKit Go.Proofs.YtfiieppnpmodoaaDoorW.PrintWords Go.Proofs.YtfiieppnpmodoaaDoorW.PrintLast Go.Proofs.YtfiieppnpmodoaaDoorW.PrintMore
set_option linter.unusedVariables false
set_option linter.unusedSimpArgs false
def decL (n : Nat) : List Int := (Lib.decDigits n).map fun b => (b.toNat : Int)
def decS (n : Nat) : ByteArray := ⟨(Lib.decDigits n).toArray⟩
theorem bytesOf_decS (n : Nat) : bytesOf (decS n) = decL n := by
  unfold bytesOf decS decL
  simp
theorem decL_small (n : Nat) (h : n < 10) : decL n = [48 + (n : Int)] := by
  unfold decL
  rw [Lib.decDigits, dif_pos h]
  simp only [List.map_cons, List.map_nil]
  congr 1
  rw [UInt8.toNat_ofNat']
  omega
theorem decL_step (n : Nat) (h : ¬ n < 10) : decL n = decL (n / 10) ++ [48 + ((n % 10 : Nat) : Int)] := by
  unfold decL
  rw [Lib.decDigits, dif_neg h, List.map_append]
  congr 1
  simp only [List.map_cons, List.map_nil]
  congr 1
  rw [UInt8.toNat_ofNat']
  omega
theorem itoa_at (n : Int) (h0 : 0 ≤ n) (h1 : n ≤ 9223372036854775807) : strconv_Itoa.f n = some (decS n.toNat) := by
  unfold strconv_Itoa.f
  rw [if_pos ⟨by omega, h1⟩]
  unfold decS Lib.itoa
  rw [if_neg (by omega)]
def rep (b : UInt8) (n : Nat) : ByteArray := ⟨(List.replicate n b).toArray⟩
theorem bytesOf_rep (b : UInt8) (n : Nat) : bytesOf (rep b n) = List.replicate n (b.toNat : Int) := by
  unfold bytesOf rep
  simp
theorem rep_size (b : UInt8) (n : Nat) : (rep b n).size = n := by rw [size_eq, bytesOf_rep, List.length_replicate]
theorem rep_zero (b : UInt8) : rep b 0 = ⟨#[]⟩ := rfl
theorem app_nil (a : ByteArray) : a ++ (⟨#[]⟩ : ByteArray) = a := by
  apply bytesOf_inj
  rw [bytesOf_append]
  exact List.append_nil _
theorem nil_app (a : ByteArray) : (⟨#[]⟩ : ByteArray) ++ a = a := by
  apply bytesOf_inj
  rw [bytesOf_append]
  rfl
theorem repeat_one (b : UInt8) (n : Nat) : (⟨(Lib.repeatL [b] n).toArray⟩ : ByteArray) = rep b n := by
  unfold rep
  congr 2
  induction n with
  | zero => rfl
  | succ n ih => rw [Lib.repeatL, ih, List.replicate_succ]; rfl
theorem repeat_at (b : UInt8) (n : Int) (h0 : 0 ≤ n) (h1 : n ≤ 1000000) : strings_Repeat.f (⟨#[b]⟩ : ByteArray) n = some (rep b n.toNat) := by
  unfold strings_Repeat.f
  have hs : (⟨#[b]⟩ : ByteArray).size = 1 := rfl
  rw [if_pos ⟨h0, by omega, by rw [hs]; omega⟩]
  congr 1
  exact repeat_one b n.toNat
end Go.Proofs.YtfiieppnpmodoaaDoor.Q
end
section
namespace Go.Proofs.YtfiieppnpmodoaaDoor.Q
open Go.RowKit Go.Proofs.YtfiieppnpmodoaaDoorW.PrintWords Go.Proofs.YtfiieppnpmodoaaDoorW.PrintLast Go.Proofs.YtfiieppnpmodoaaDoorW.PrintMore
attribute [local go_sem] max2_int min2_int max_two min_two max_three min_three max_four min_four
set_option linter.unusedVariables false
set_option linter.unusedSimpArgs false
mutual
def impl_PutBcd.j0 : Nat → ByteArray → Bool → Option (List Int × Bool)
 | 0, _, _ => none
 | k + 1, x0, x13 => if x13 = true then (some (([] : List Int), false)) else (if ((x0.size : Int) % 2) = 1 then (if 1 + x0.size ≤ 9223372036854775807 then (impl_PutBcd.j1 k ((⟨#[48]⟩ : ByteArray) ++ x0)) else (none)) else (impl_PutBcd.j1 k x0))
def impl_PutBcd.j1 : Nat → ByteArray → Option (List Int × Bool)
 | 0, _ => none
 | k + 1, x0 => impl_PutBcd.l0 k x0 (([] : List Int)) 0
def impl_PutBcd.l0 : Nat → ByteArray → List Int → Int → Option (List Int × Bool)
 | 0, _, _, _ => none
 | k + 1, x0, x4, x5 => if x5 < (x0.size : Int) then (if 0 ≤ x5 then (if 0 ≤ (wrap64 (x5 + 1)) then (if (wrap64 (x5 + 1)) < (x0.size : Int) then (if x4.length < 140737488355328 then (impl_PutBcd.l0 k x0 (x4 ++ [Go.bits .or .u8 (((((bt x0 x5) - 48) % 256) * 16) % 256) (((bt x0 (wrap64 (x5 + 1))) - 48) % 256)]) (wrap64 (x5 + 2))) else (none)) else (none)) else (none)) else (none)) else (some (x4, true))
end
def impl_PutBcd.f (k : Nat) (a0 : ByteArray) : Option (List Int × Bool) := (impl_Digits.f k a0).bind fun t139 => (if t139 = true then (impl_PutBcd.j0 k a0 (decide ((a0.size : Int) > 38))) else (impl_PutBcd.j0 k a0 true))
def impl_PutBcd.T9 : Bool × List (List Nat × List Nat) := (true, [([], []), ([], []), ([], []), ([1, 2], [1, 2]), ([3], [3]), ([4], [4]), ([], []), ([], []), ([7], [7]), ([6, 8], [6, 8]), ([9], [9]), ([5, 10], [5, 10]), ([11], [11]), ([0, 12], [0, 12]), ([13, 13, 0, 1, 2, 3, 4, 5, 6, 7, 8, 9, 10, 11, 12, 13], [0, 13])])
def impl_PutBcd.B9 : List Nat := [0, 0, 0, 6, 14, 30, 0, 0, 128, 448, 960, 2046, 4094, 8191, 16383]
theorem impl_PutBcd.tab9 : rtab .any (opsOf Tryd.f10 9) = impl_PutBcd.T9 := by kernel_rfl
theorem impl_PutBcd.bits9 : waitsOk impl_PutBcd.T9.2 impl_PutBcd.B9 = true := by kernel_rfl
set_option maxHeartbeats 8000000 in
set_option maxRecDepth 100000 in
theorem impl_PutBcd.calls (k : Nat) (a0 : ByteArray) (r1 : List Int) (r2 : Bool) (w : World) (h : impl_PutBcd.f k a0 = some (r1, r2)) :
  Calls Tryd.prog 10 #[.string a0] w fun e w' => ∃ v0_ : Value, e = .returned (.tuple #[v0_, .bool r2]) ∧ Kd.R (Kd.int .u8) 5 w' w.heap.size (fun _ => True) v0_ r1 ∧ Below w.heap.size w w' := by
 have HB := Aside0.mk (Below.refl w.heap.size w)
 have H : ((impl_Digits.f k a0).bind fun t139 => (if t139 = true then (impl_PutBcd.j0 k a0 (decide ((a0.size : Int) > 38))) else (impl_PutBcd.j0 k a0 true))) = some (r1, r2) := h
 clear h
 have HC2 := Aside0.mk H
 clear H
 go_enter Tryd.func10, Tryd.ntmps10
 go_upto_region 1 with (fail)
 go_cut [13] (fun v13 wc => ∃ (kq : Nat) (x13_1 : Bool), v13 = .bool x13_1 ∧ Aside0 (impl_PutBcd.j0 kq a0 x13_1 = some (r1, r2)) ∧ Aside0 (kq ≤ k) ∧ Aside0 (Below w.heap.size w wc))
 case first =>
  have H := HC2.out
  clear HC2
  replace H := Option.bind_eq_some_iff.mp H
  obtain ⟨t139, A30, H⟩ := H
  replace H : (if t139 = true then (impl_PutBcd.j0 k a0 (decide ((a0.size : Int) > 38))) else (impl_PutBcd.j0 k a0 true)) = some (r1, r2) := H
  have A3 := Aside0.mk A30
  clear A30
  by_cases c4 : t139 = true
  ·subst c4
   have H1 : (impl_PutBcd.j0 k a0 (decide ((a0.size : Int) > 38))) = some (r1, r2) := by rw [if_pos rfl] at H; exact H
   clear H
   have H := H1
   clear H1
   have H' := Aside0.mk H
   clear H
   go_wp2_with (first | ((with_reducible refine gate_callee (f := 44) rfl ?_); refine goesM_ (some 7) rfl rfl Tryd.func44 (by kernel_rfl) rfl #[.string a0] rfl ?_; (with_reducible refine (impl_Digits.calls k a0 true _ A3.out).mono ?_); rintro e w' ⟨rfl, ⟨nd, rfl⟩⟩; refine ⟨_, rfl, ?_⟩))
   go_meet
   case rel => exact ⟨_, (decide ((a0.size : Int) > 38)), (by first | rfl | (simp; done) | (simp [*]; done) | (simp [i64_w, IntKind.wrap_u8, e256_]; done) | (simp; generalize ByteArray.toList _ = zz_; cases zz_ <;> rfl)), H', ⟨by first | omega | exact Nat.le_refl _⟩, ⟨bB⟩⟩
  ·replace c4 := Bool.eq_false_iff.mpr c4
   subst c4
   have H1 : (impl_PutBcd.j0 k a0 true) = some (r1, r2) := by rw [if_neg (show ¬ (false = true) by decide)] at H; exact H
   clear H
   have H := H1
   clear H1
   have H' := Aside0.mk H
   clear H
   go_wp2_with (first | ((with_reducible refine gate_callee (f := 44) rfl ?_); refine goesM_ (some 7) rfl rfl Tryd.func44 (by kernel_rfl) rfl #[.string a0] rfl ?_; (with_reducible refine (impl_Digits.calls k a0 false _ A3.out).mono ?_); rintro e w' ⟨rfl, ⟨nd, rfl⟩⟩; refine ⟨_, rfl, ?_⟩))
   go_meet
   case rel => exact ⟨_, (true), (by first | rfl | (simp; done) | (simp [*]; done) | (simp [i64_w, IntKind.wrap_u8, e256_]; done) | (simp; generalize ByteArray.toList _ = zz_; cases zz_ <;> rfl)), H', ⟨by first | omega | exact Nat.le_refl _⟩, ⟨bB⟩⟩
 case rest =>
  clear HC2
  try clear c1
  try clear p2
  try clear c4
  obtain ⟨kq, x13_1, rfl, HA, HJ1, HB⟩ := hcut
  cases kq with
  | zero => exact absurd HA.out (by simp [impl_PutBcd.j0])
  | succ kj1 =>
   have H := HA.out
   clear HA
   simp only [impl_PutBcd.j0] at H
   by_cases c5 : x13_1 = true
   ·subst c5
    have H1 : (some (([] : List Int), false)) = some (r1, r2) := by rw [if_pos rfl] at H; exact H
    clear H
    have H := H1
    clear H1
    simp only [Option.some.injEq, Prod.mk.injEq] at H
    obtain ⟨rfl, rfl⟩ := H
    go_wp2
    go_ret2
    exact ⟨_, by first | rfl | (simp [errW_none, errW_some] <;> rfl) | (simp [*, errW_none, errW_some] <;> rfl), by first | exact Kd.R_nil _ _ _ _ _ | exact Kd.N_nil _ _ _ _ _ | exact Kd.V_nil _ _ _ _ _ | exact Kd.Q_nil _ _ _ _ _ | exact Kd.S_nil _ _ _ _ _, bB⟩
   ·replace c5 := Bool.eq_false_iff.mpr c5
    subst c5
    have H1 : (if ((a0.size : Int) % 2) = 1 then (if 1 + a0.size ≤ 9223372036854775807 then (impl_PutBcd.j1 kj1 ((⟨#[48]⟩ : ByteArray) ++ a0)) else (none)) else (impl_PutBcd.j1 kj1 a0)) = some (r1, r2) := by rw [if_neg (show ¬ (false = true) by decide)] at H; exact H
    clear H
    have H := H1
    clear H1
    have HC6 := Aside0.mk H
    clear H
    go_upto_if 17 with (fail)
    go_cut [0] (fun v0 wc => ∃ (kq : Nat) (x0_5 : ByteArray), v0 = .string x0_5 ∧ Aside0 (impl_PutBcd.j1 kq x0_5 = some (r1, r2)) ∧ Aside0 (kq ≤ kj1) ∧ Aside0 (Below w.heap.size w wc))
    case first =>
     have H := HC6.out
     clear HC6
     by_cases c7 : ((a0.size : Int) % 2) = 1
     ·rw [if_pos c7] at H
      have c7b0 : (((a0.size : Int) % 2) == 1) = true := beq_iff_eq.mpr c7
      have c7b1 : (((a0.size : Int) % 2) != 1) = false := bne_eq_false_iff_eq.mpr c7
      clear c7
      (first | rw [c7b0] | (simp only [i64_w, i32_w]; rw [c7b0]) | rw [c7b1] | (simp only [c7b1]) | skip)
      by_cases c8 : 1 + a0.size ≤ 9223372036854775807
      ·rw [if_pos c8] at H
       have c8b0 := eq_true c8
       have c8b1 : decide (1 + a0.size ≤ 9223372036854775807) = true := decide_eq_true c8
       try have c8b2 : (9223372036854775807 < 1 + a0.size) = False := eq_false (Nat.not_lt.2 c8)
       try (have c8b3 := c8b2; simp only [ByteArray.size_append, ByteArray.size_extract, Nat.sub_zero, Nat.min_self] at c8b3)
       have H' := Aside0.mk H
       clear H
       go_wp2
       go_meet
       case rel => exact ⟨_, ((⟨#[48]⟩ : ByteArray) ++ a0), (by first | rfl | (simp; done) | (simp [*]; done) | (simp [i64_w, IntKind.wrap_u8, e256_]; done) | (simp; generalize ByteArray.toList _ = zz_; cases zz_ <;> rfl)), H', ⟨by have := HJ1.out; first | omega | exact Nat.le_refl _⟩, ⟨bB⟩⟩
      ·rw [if_neg c8] at H
       exact absurd H (by simp)
     ·rw [if_neg c7] at H
      have c7b0 : (((a0.size : Int) % 2) == 1) = false := beq_eq_false_iff_ne.mpr c7
      have c7b1 : (((a0.size : Int) % 2) != 1) = true := bne_iff_ne.mpr c7
      (first | rw [c7b0] | (simp only [i64_w, i32_w]; rw [c7b0]) | rw [c7b1] | (simp only [c7b1]) | skip)
      have H' := Aside0.mk H
      clear H
      go_wp2
      go_meet
      case rel => exact ⟨_, (a0), (by first | rfl | (simp; done) | (simp [*]; done) | (simp [i64_w, IntKind.wrap_u8, e256_]; done) | (simp; generalize ByteArray.toList _ = zz_; cases zz_ <;> rfl)), H', ⟨by have := HJ1.out; first | omega | exact Nat.le_refl _⟩, ⟨bB⟩⟩
    case rest =>
     clear HC6
     try clear c1
     try clear p2
     try clear c4
     try clear c5
     try clear p6
     try clear c7
     try clear c7b0
     try clear c7b1
     try clear c8
     try clear c8b0
     try clear c8b1
     try clear c8b2
     try clear p2
     obtain ⟨kq, x0_5, rfl, HA, HJ5, HB⟩ := hcut
     cases kq with
     | zero => exact absurd HA.out (by simp [impl_PutBcd.j1])
     | succ kj5 =>
      have H := HA.out
      clear HA
      simp only [impl_PutBcd.j1] at H
      obtain ⟨y140, hy140⟩ : ∃ y_ : List Int, y_ = (([] : List Int)) := ⟨_, rfl⟩
      replace H : (impl_PutBcd.l0 kj5 x0_5 y140 0) = some (r1, r2) := by first | (rw [hy140]; with_reducible exact H) | (have H2_ := (Option.bind_some _ _).symm.trans H; rw [hy140]; with_reducible exact H2_) | (have H2_ := (Option.bind_some _ _).symm.trans H; with_reducible exact H2_) | with_reducible exact H | (rw [hy140]; exact H) | exact H
      have Ny140 := Aside0.mk hy140
      clear hy140
      have H' := Aside0.mk H
      clear H
      go_wp2_with (first | ((with_reducible refine gate_dst (N := 20) rfl ?_); (try (refine gate_guard (by rfl) ?_; dsimp only)); refine Kd.R_lit (Kd.int .u8) _ 5 ?hg (N := 20) ?hd (xs := ([] : List Int)) (inner := []) (ok := fun _ => True) (okp := fun _ => True) ?hr ?hp (fun _ hk => hk) trivial (Below.refl _ _) (Nat.le_refl _) (by simp) ?_; (case hd => rfl); (case hg => rfl); (case hr => first | (go_simp; done) | (go_simp; rfl)); (case hp => exact (Reps.none _ _)); intro v141 w9 ho10 hb hg_ hnew_; clear hg_ hnew_; (first | rw [← Ny140.out] at ho10 | (simp only [Int.reduceToNat] at ho10; rw [← Ny140.out] at ho10)); have n0_ := Aside0.mk (Kd.R_lower ho10 (below_size bB)); have n1_ := Aside0.mk (below_step bB hb); clear HB; have HO142 := n0_; have HB := n1_; clear n0_ n1_; clear hb ho10))
      go_loopg [4, 5] kj5 (fun kq v4 v5 w' => ∃ (x4_3 : List Int) (x5_3 : Int), v5 = .int .i64 x5_3 ∧ Aside0 (impl_PutBcd.l0 kq x0_5 x4_3 x5_3 = some (r1, r2)) ∧ Aside0 (kq ≤ kj5) ∧ Aside0 (Kd.R (Kd.int .u8) 5 w' w.heap.size (fun _ => True) v4 x4_3) ∧ Aside0 (Below w.heap.size w w'))
      case atStart => exact ⟨(y140), (0), (by first | rfl | (simp; done) | (simp [*]; done) | (simp [i64_w, IntKind.wrap_u8, e256_]; done) | (simp; generalize ByteArray.toList _ = zz_; cases zz_ <;> rfl)), H', ⟨Nat.le_refl _⟩, ⟨rA HO142.out⟩, ⟨bB⟩⟩
      case round =>
       clear H'
       try clear c1
       try clear p2
       try clear c4
       try clear c5
       try clear p6
       try clear c7
       try clear c7b0
       try clear c7b1
       try clear c8
       try clear c8b0
       try clear c8b1
       try clear c8b2
       try clear c10
       try clear p2
       try clear p6
       obtain ⟨x4_3, x5_3, rfl, HA, HK3, HO_4, HB⟩ := hrel
       cases gk with
       | zero => exact absurd HA.out (by simp [impl_PutBcd.l0])
       | succ k3 =>
        have H := HA.out
        clear HA
        simp only [impl_PutBcd.l0] at H
        by_cases c11 : x5_3 < (x0_5.size : Int)
        ·rw [if_pos c11] at H
         have c11b0 : decide (x5_3 < (x0_5.size : Int)) = true := decide_eq_true c11
         clear c11
         by_cases c12 : 0 ≤ x5_3
         ·rw [if_pos c12] at H
          have c12b0 : decide (0 ≤ x5_3) = true := decide_eq_true c12
          clear c12
          obtain ⟨ji14, hji14⟩ : ∃ j_ : Int, (wrap64 (x5_3 + 1)) = j_ := ⟨_, rfl⟩
          replace H : (if 0 ≤ (ji14) then (if (ji14) < (x0_5.size : Int) then (if x4_3.length < 140737488355328 then (impl_PutBcd.l0 k3 x0_5 (x4_3 ++ [Go.bits .or .u8 (((((bt x0_5 x5_3) - 48) % 256) * 16) % 256) (((bt x0_5 (ji14)) - 48) % 256)]) (wrap64 (x5_3 + 2))) else (none)) else (none)) else (none)) = some (r1, r2) := by first | (rw [hji14] at H; exact H) | (simp only [hji14] at H ⊢; exact H)
          have hji14w : (IntKind.i64.wrap (x5_3 + 1)) = ji14 := (i64_w _).trans hji14
          by_cases c15 : 0 ≤ (ji14)
          ·rw [if_pos c15] at H
           have c15b0 : decide (0 ≤ (ji14)) = true := decide_eq_true c15
           clear c15
           by_cases c16 : (ji14) < (x0_5.size : Int)
           ·rw [if_pos c16] at H
            have c16b0 : decide ((ji14) < (x0_5.size : Int)) = true := decide_eq_true c16
            clear c16
            by_cases c18 : x4_3.length < 140737488355328
            ·rw [if_pos c18] at H
             have LMc18 := Aside0.mk c18
             clear c18
             obtain ⟨y143, hy143⟩ : ∃ y_ : List Int, y_ = (x4_3 ++ [Go.bits .or .u8 (((((bt x0_5 x5_3) - 48) % 256) * 16) % 256) (((bt x0_5 (ji14)) - 48) % 256)]) := ⟨_, rfl⟩
             replace H : (impl_PutBcd.l0 k3 x0_5 y143 (wrap64 (x5_3 + 2))) = some (r1, r2) := by first | (rw [hy143]; with_reducible exact H) | (have H2_ := (Option.bind_some _ _).symm.trans H; rw [hy143]; with_reducible exact H2_) | (have H2_ := (Option.bind_some _ _).symm.trans H; with_reducible exact H2_) | with_reducible exact H | (rw [hy143]; exact H) | exact H
             have Ny143 := Aside0.mk hy143
             clear hy143
             have H' := Aside0.mk H
             clear H
             try go_wp2
             have n0_ := Aside0.mk (Kd.R_drew HO_4.out)
             have n1_ := Aside0.mk (below_drew1 HB.out)
             clear HO_4
             clear HB
             have HO_4 := n0_
             have HB := n1_
             clear n0_ n1_
             have p13 : 0 ≤ (x5_3 : Int) := of_decide_eq_true (by first | (with_reducible assumption) | assumption)
             have q13 : x5_3 < (x0_5.size : Int) := of_decide_eq_true (by first | (with_reducible assumption) | assumption)
             have hx13 := bt_at x0_5 x5_3
             replace p13 := eq_true p13
             replace q13 := eq_true q13
             have p17 : 0 ≤ ((ji14) : Int) := of_decide_eq_true (by first | (with_reducible assumption) | assumption)
             have q17 : (ji14) < (x0_5.size : Int) := of_decide_eq_true (by first | (with_reducible assumption) | assumption)
             have hx17 := bt_at x0_5 (ji14)
             replace p17 := eq_true p17
             replace q17 := eq_true q17
             refine start_ (n := 15) (S := fun w' => True) (ds := []) #[false, false, false, false, false, false, false, false, false, false, false, false, false, false, false] (by kernel_rfl) rfl rfl trivial (fun hHeld => ?_); refine with_tabW impl_PutBcd.tab9 impl_PutBcd.bits9 (fun HT_ HW_ => ?_)
             generalize wr.drew = w19 at HO_4 HB hHeld ⊢
             refine pure_ (i := 0) (N := some 27) (v := ?_) (a' := ?_) #[true, false, false, false, false, false, false, false, false, false, false, false, false, false, false] rfl rfl (any_of HT_.out (by kernel_rfl)) (fun _ _ _ h => h) (Or.inl ⟨by rfl, ?_⟩) ?_ ?_
             rotate_left
             ·intro w'
              go_simp
              with_reducible rfl
             rotate_left
             ·simp only [Act.put, List.setIfInBounds_toArray, List.set_cons_zero, List.set_cons_succ, i64_w, i32_w]
              rfl
             refine pure_ (i := 1) (N := some 28) (v := ?_) (a' := ?_) #[true, true, false, false, false, false, false, false, false, false, false, false, false, false, false] rfl rfl (any_of HT_.out (by kernel_rfl)) (fun _ _ _ h => h) (Or.inl ⟨by rfl, ?_⟩) ?_ ?_
             rotate_left
             ·intro w'
              go_simp
              with_reducible rfl
             rotate_left
             ·simp only [Act.put, List.setIfInBounds_toArray, List.set_cons_zero, List.set_cons_succ, i64_w, i32_w]
              rfl
             refine pure_ (i := 2) (N := some 29) (v := ?_) (a' := ?_) #[true, true, true, false, false, false, false, false, false, false, false, false, false, false, false] rfl rfl (any_of HT_.out (by kernel_rfl)) (fun _ _ _ h => h) (Or.inl ⟨by rfl, ?_⟩) ?_ ?_
             rotate_left
             ·intro w'
              go_simp
              with_reducible rfl
             rotate_left
             ·simp only [Act.put, List.setIfInBounds_toArray, List.set_cons_zero, List.set_cons_succ, i64_w, i32_w]
              rfl
             refine pure_ (i := 6) (N := some 33) (v := ?_) (a' := ?_) #[true, true, true, false, false, false, true, false, false, false, false, false, false, false, false] rfl rfl (any_of HT_.out (by kernel_rfl)) (fun _ _ _ h => h) (Or.inl ⟨by rfl, ?_⟩) ?_ ?_
             rotate_left
             ·intro w'
              go_simp
              with_reducible rfl
             rotate_left
             ·simp only [Act.put, List.setIfInBounds_toArray, List.set_cons_zero, List.set_cons_succ, i64_w, i32_w]
              rfl
             refine pure_ (i := 7) (N := some 34) (v := ?_) (a' := ?_) #[true, true, true, false, false, false, true, true, false, false, false, false, false, false, false] rfl rfl (any_of HT_.out (by kernel_rfl)) (fun _ _ _ h => h) (Or.inl ⟨by rfl, ?_⟩) ?_ ?_
             rotate_left
             ·intro w'
              go_simp
              with_reducible rfl
             rotate_left
             ·simp only [Act.put, List.setIfInBounds_toArray, List.set_cons_zero, List.set_cons_succ, i64_w, i32_w]
              rfl
             refine pure_ (i := 8) (N := some 35) (v := ?_) (a' := ?_) #[true, true, true, false, false, false, true, true, true, false, false, false, false, false, false] rfl rfl (any_of HT_.out (by kernel_rfl)) (fun _ _ _ h => h) (Or.inl ⟨by rfl, ?_⟩) ?_ ?_
             rotate_left
             ·intro w'
              go_simp
              with_reducible rfl
             rotate_left
             ·simp only [Act.put, List.setIfInBounds_toArray, List.set_cons_zero, List.set_cons_succ, i64_w, i32_w]
              rfl
             refine take_ (i := 3) (N := some 30) (v := ?_) (a' := ?_) #[true, true, true, true, false, false, true, true, true, false, false, false, false, false, false] rfl rfl (take_ofW HT_.out HW_.out (by kernel_rfl)) (fun _ _ _ h => h) (Or.inl ⟨by rfl, ?_⟩) hHeld ?_ ?_
             rotate_left
             ·intro w' _
              go_simp
              with_reducible rfl
             rotate_left
             ·simp only [Act.put, List.setIfInBounds_toArray, List.set_cons_zero, List.set_cons_succ, i64_w, i32_w]
              rfl
             refine pure_ (i := 4) (N := some 31) (v := ?_) (a' := ?_) #[true, true, true, true, true, false, true, true, true, false, false, false, false, false, false] rfl rfl (any_of HT_.out (by kernel_rfl)) (fun _ _ _ h => h) (Or.inl ⟨by rfl, ?_⟩) ?_ ?_
             rotate_left
             ·intro w'
              go_simp
              with_reducible rfl
             rotate_left
             ·simp only [Act.put, List.setIfInBounds_toArray, List.set_cons_zero, List.set_cons_succ, i64_w, i32_w]
              rfl
             refine pure_ (i := 5) (N := some 32) (v := ?_) (a' := ?_) #[true, true, true, true, true, true, true, true, true, false, false, false, false, false, false] rfl rfl (any_of HT_.out (by kernel_rfl)) (fun _ _ _ h => h) (Or.inl ⟨by rfl, ?_⟩) ?_ ?_
             rotate_left
             ·intro w'
              go_simp
              with_reducible rfl
             rotate_left
             ·simp only [Act.put, List.setIfInBounds_toArray, List.set_cons_zero, List.set_cons_succ, i64_w, i32_w]
              rfl
             refine take_ (i := 9) (N := some 36) (v := ?_) (a' := ?_) #[true, true, true, true, true, true, true, true, true, true, false, false, false, false, false] rfl rfl (take_ofW HT_.out HW_.out (by kernel_rfl)) (fun _ _ _ h => h) (Or.inl ⟨by rfl, ?_⟩) hHeld ?_ ?_
             rotate_left
             ·intro w' _
              go_simp
              with_reducible rfl
             rotate_left
             ·simp only [Act.put, List.setIfInBounds_toArray, List.set_cons_zero, List.set_cons_succ, i64_w, i32_w]
              rfl
             refine pure_ (i := 10) (N := some 37) (v := ?_) (a' := ?_) #[true, true, true, true, true, true, true, true, true, true, true, false, false, false, false] rfl rfl (any_of HT_.out (by kernel_rfl)) (fun _ _ _ h => h) (Or.inl ⟨by rfl, ?_⟩) ?_ ?_
             rotate_left
             ·intro w'
              go_simp
              with_reducible rfl
             rotate_left
             ·simp only [Act.put, List.setIfInBounds_toArray, List.set_cons_zero, List.set_cons_succ, i64_w, i32_w]
              rfl
             refine pure_ (i := 11) (N := some 38) (v := ?_) (a' := ?_) #[true, true, true, true, true, true, true, true, true, true, true, true, false, false, false] rfl rfl (any_of HT_.out (by kernel_rfl)) (fun _ _ _ h => h) (Or.inl ⟨by rfl, ?_⟩) ?_ ?_
             rotate_left
             ·intro w'
              go_simp
              with_reducible rfl
             rotate_left
             ·simp only [Act.put, List.setIfInBounds_toArray, List.set_cons_zero, List.set_cons_succ, i64_w, i32_w]
              rfl
             refine one_ (i := 12) (N := some 39) #[true, true, true, true, true, true, true, true, true, true, true, true, true, false, false] rfl rfl (one_of HT_.out (by kernel_rfl)) (by decide) (fun K hK => ?_)
             refine value_ (w1 := ?_) (v := ?_) (by rfl) rfl ?_ ?_
             rotate_left 2
             ·go_simp
              constructor
              ·rfl
              ·rfl
             refine hK.out _ _ trivial (fun hHeld => ?_)
             clear hK K
             refine norm_ (a' := ?_) ?_ ?_
             rotate_left
             ·show Act.put _ (some 39) _ = _
              simp only [Act.put, List.setIfInBounds_toArray, List.set_cons_zero, List.set_cons_succ, i64_w, i32_w]
              rfl
             refine one_ (i := 13) (N := some 40) #[true, true, true, true, true, true, true, true, true, true, true, true, true, true, false] rfl rfl (one_of HT_.out (by kernel_rfl)) (by decide) (fun K hK => ?_)
             refine Kd.R_append_step (Kd.int .u8) (w0 := w) w.heap.size (by rfl) (.tmp 27) (.tmp 39) 22 5 (.int .u8 0) 1 rfl Tryd.underlying22 info5 rfl (by decide) (by omega) u4 x4_3 (Go.bits .or .u8 (((((bt x0_5 x5_3) - 48) % 256) * 16) % 256) (((bt x0_5 (ji14)) - 48) % 256)) [.int .u8 (Go.bits .or .u8 (((((bt x0_5 x5_3) - 48) % 256) * 16) % 256) (((bt x0_5 (ji14)) - 48) % 256))] (fun _ => True) (fun _ => False) rfl rfl ?aP (fun _ hk => hk.elim) ?aF ?aO ?aB ?aS ?aL ?_
             (case aP => exact rfl)
             (case aB => exact bB)
             (case aF => exact (fun _ _ => trivial))
             (case aO => exact (rA HO_4.out))
             (case aS => exact (below_size bB))
             (case aL => have := LMc18.out; omega)
             intro v144 w20 ho hb hg hat
             rw [← Ny143.out] at ho
             have n0_ := Aside0.mk (hb)
             have n1_ := Aside0.mk (ho)
             clear HB
             clear HO_4
             have HB := n0_
             have HO145 := n1_
             clear n0_ n1_
             clear ho hb hg hat
             refine hK.out _ _ trivial (fun hHeld => ?_)
             clear hK K
             refine norm_ (a' := ?_) ?_ ?_
             rotate_left
             ·show Act.put _ (some 40) _ = _
              simp only [Act.put, List.setIfInBounds_toArray, List.set_cons_zero, List.set_cons_succ, i64_w, i32_w]
              rfl
             refine pure_ (i := 14) (N := some 4) (v := ?_) (a' := ?_) #[true, true, true, true, true, true, true, true, true, true, true, true, true, true, true] rfl rfl (any_of HT_.out (by kernel_rfl)) (fun _ _ _ h => h) (Or.inl ⟨by rfl, ?_⟩) ?_ ?_
             rotate_left
             ·intro w'
              go_simp
              with_reducible rfl
             rotate_left
             ·simp only [Act.put, List.setIfInBounds_toArray, List.set_cons_zero, List.set_cons_succ, i64_w, i32_w]
              rfl
             refine done_ (done_of HT_.out (by kernel_rfl)) ?_
             try go_wp2
             go_roundg k3
             case measure => have := HJ1.out; have := HJ5.out; have := HK3.out; omega
             case rel => exact ⟨(y143), (wrap64 (x5_3 + 2)), (by first | rfl | (simp; done) | (simp [*]; done) | (simp [i64_w, IntKind.wrap_u8, e256_]; done) | (simp; generalize ByteArray.toList _ = zz_; cases zz_ <;> rfl)), H', ⟨by have := HJ1.out; have := HJ5.out; have := HK3.out; omega⟩, ⟨rA HO145.out⟩, ⟨bB⟩⟩
            ·rw [if_neg c18] at H
             exact absurd H (by simp)
           ·rw [if_neg c16] at H
            exact absurd H (by simp)
          ·rw [if_neg c15] at H
           exact absurd H (by simp)
         ·rw [if_neg c12] at H
          exact absurd H (by simp)
        ·rw [if_neg c11] at H
         have c11b0 : decide (x5_3 < (x0_5.size : Int)) = false := decide_eq_false c11
         clear c11
         simp only [Option.some.injEq, Prod.mk.injEq] at H
         obtain ⟨rfl, rfl⟩ := H
         go_wp2
         go_ret2
         exact ⟨_, by first | rfl | (simp [errW_none, errW_some] <;> rfl) | (simp [*, errW_none, errW_some] <;> rfl), rA HO_4.out, bB⟩
attribute [local go_sem] max2_int min2_int max_two min_two max_three min_three max_four min_four
set_option linter.unusedVariables false
set_option linter.unusedSimpArgs false
def impl_Wide.f (a0 : Int) (a1 : Int) : Option (ByteArray) := (strconv_Itoa.f a0).bind fun t178 => (if a0 < 0 then (some (⟨#[]⟩ : ByteArray)) else ((impl_within.f a1 1 18).bind fun t179 => (if t179 = true then (if (t178.size : Int) > a1 then (some (⟨#[]⟩ : ByteArray)) else ((strings_Repeat.f (⟨#[48]⟩ : ByteArray) (wrap64 (a1 - (t178.size : Int)))).bind fun t180 => (if t180.size + t178.size ≤ 9223372036854775807 then (some (t180 ++ t178)) else (none)))) else (some (⟨#[]⟩ : ByteArray)))))
set_option maxHeartbeats 8000000 in
set_option maxRecDepth 100000 in
theorem impl_Wide.calls (a0 : Int) (a1 : Int) (r : ByteArray) (w : World) (hG : GLW w) (h : impl_Wide.f a0 a1 = some r) :
  Calls Tryd.prog 47 #[.int .i64 a0, .int .i64 a1] w fun e w' => e = .returned (.string r) ∧ Below w.heap.size w w' := by
 have HB := Aside0.mk (Below.refl w.heap.size w)
 have HG := Aside0.mk hG
 clear hG
 have H : ((strconv_Itoa.f a0).bind fun t178 => (if a0 < 0 then (some (⟨#[]⟩ : ByteArray)) else ((impl_within.f a1 1 18).bind fun t179 => (if t179 = true then (if (t178.size : Int) > a1 then (some (⟨#[]⟩ : ByteArray)) else ((strings_Repeat.f (⟨#[48]⟩ : ByteArray) (wrap64 (a1 - (t178.size : Int)))).bind fun t180 => (if t180.size + t178.size ≤ 9223372036854775807 then (some (t180 ++ t178)) else (none)))) else (some (⟨#[]⟩ : ByteArray)))))) = some r := h
 clear h
 replace H := Option.bind_eq_some_iff.mp H
 obtain ⟨t178, A30, H⟩ := H
 replace H : (if a0 < 0 then (some (⟨#[]⟩ : ByteArray)) else ((impl_within.f a1 1 18).bind fun t179 => (if t179 = true then (if (t178.size : Int) > a1 then (some (⟨#[]⟩ : ByteArray)) else ((strings_Repeat.f (⟨#[48]⟩ : ByteArray) (wrap64 (a1 - (t178.size : Int)))).bind fun t180 => (if t180.size + t178.size ≤ 9223372036854775807 then (some (t180 ++ t178)) else (none)))) else (some (⟨#[]⟩ : ByteArray))))) = some r := H
 have A3 := Aside0.mk A30
 clear A30
 by_cases c4 : a0 < 0
 ·rw [if_pos c4] at H
  have c4b0 : decide (a0 < 0) = true := decide_eq_true c4
  clear c4
  obtain rfl := Option.some.inj H
  go_enter Tryd.func47, Tryd.ntmps47
  go_wp2_with (first | ((with_reducible refine gate_callee (f := 77) rfl ?_); refine goesM_ (some 7) rfl rfl Tryd.func77 (by kernel_rfl) rfl #[.int .i64 a0] rfl ?_; (with_reducible refine (strconv_Itoa.calls a0 t178 _ ?side1 A3.out).mono ?_); (case side1 => exact GLW_below HG.out bB); rintro e w5 ⟨rfl, hb⟩; refine ⟨_, rfl, ?_⟩; have n0_ := Aside0.mk (below_step bB hb); clear HB; have HB := n0_; clear n0_; (try clear hb); (try clear hb2); (try clear hk); (try clear hi)))
  go_ret
  exact ⟨by first | rfl | (simp [errW_none, errW_some] <;> rfl) | (simp [*, errW_none, errW_some] <;> rfl), bB⟩
 ·rw [if_neg c4] at H
  have c4b0 : decide (a0 < 0) = false := decide_eq_false c4
  clear c4
  replace H := Option.bind_eq_some_iff.mp H
  obtain ⟨t179, A60, H⟩ := H
  replace H : (if t179 = true then (if (t178.size : Int) > a1 then (some (⟨#[]⟩ : ByteArray)) else ((strings_Repeat.f (⟨#[48]⟩ : ByteArray) (wrap64 (a1 - (t178.size : Int)))).bind fun t180 => (if t180.size + t178.size ≤ 9223372036854775807 then (some (t180 ++ t178)) else (none)))) else (some (⟨#[]⟩ : ByteArray))) = some r := H
  have A6 := Aside0.mk A60
  clear A60
  by_cases c7 : t179 = true
  ·subst c7
   have H1 : (if (t178.size : Int) > a1 then (some (⟨#[]⟩ : ByteArray)) else ((strings_Repeat.f (⟨#[48]⟩ : ByteArray) (wrap64 (a1 - (t178.size : Int)))).bind fun t180 => (if t180.size + t178.size ≤ 9223372036854775807 then (some (t180 ++ t178)) else (none)))) = some r := by rw [if_pos rfl] at H; exact H
   clear H
   have H := H1
   clear H1
   by_cases c8 : (t178.size : Int) > a1
   ·rw [if_pos c8] at H
    have c8b0 : decide (a1 < (t178.size : Int)) = true := decide_eq_true c8
    clear c8
    obtain rfl := Option.some.inj H
    go_enter Tryd.func47, Tryd.ntmps47
    go_wp2_with (first | ((with_reducible refine gate_callee (f := 77) rfl ?_); refine goesM_ (some 7) rfl rfl Tryd.func77 (by kernel_rfl) rfl #[.int .i64 a0] rfl ?_; (with_reducible refine (strconv_Itoa.calls a0 t178 _ ?side1 A3.out).mono ?_); (case side1 => exact GLW_below HG.out bB); rintro e w9 ⟨rfl, hb⟩; refine ⟨_, rfl, ?_⟩; have n0_ := Aside0.mk (below_step bB hb); clear HB; have HB := n0_; clear n0_; (try clear hb); (try clear hb2); (try clear hk); (try clear hi)) | (go_at_call 45; (with_reducible refine (impl_within.calls a1 1 18 true _ A6.out).mono ?_); rintro e w' ⟨rfl, ⟨nd, rfl⟩⟩))
    go_ret
    exact ⟨by first | rfl | (simp [errW_none, errW_some] <;> rfl) | (simp [*, errW_none, errW_some] <;> rfl), bB⟩
   ·rw [if_neg c8] at H
    have c8b0 : decide (a1 < (t178.size : Int)) = false := decide_eq_false c8
    clear c8
    replace H := Option.bind_eq_some_iff.mp H
    obtain ⟨t180, A100, H⟩ := H
    replace H : (if t180.size + t178.size ≤ 9223372036854775807 then (some (t180 ++ t178)) else (none)) = some r := H
    have A10 := Aside0.mk A100
    clear A100
    by_cases c11 : t180.size + t178.size ≤ 9223372036854775807
    ·rw [if_pos c11] at H
     have c11b0 := eq_true c11
     have c11b1 : decide (t180.size + t178.size ≤ 9223372036854775807) = true := decide_eq_true c11
     try have c11b2 : (9223372036854775807 < t180.size + t178.size) = False := eq_false (Nat.not_lt.2 c11)
     try (have c11b3 := c11b2; simp only [ByteArray.size_append, ByteArray.size_extract, Nat.sub_zero, Nat.min_self] at c11b3)
     obtain rfl := Option.some.inj H
     go_enter Tryd.func47, Tryd.ntmps47
     go_wp2_with (first | ((with_reducible refine gate_callee (f := 77) rfl ?_); refine goesM_ (some 7) rfl rfl Tryd.func77 (by kernel_rfl) rfl #[.int .i64 a0] rfl ?_; (with_reducible refine (strconv_Itoa.calls a0 t178 _ ?side1 A3.out).mono ?_); (case side1 => exact GLW_below HG.out bB); rintro e w12 ⟨rfl, hb⟩; refine ⟨_, rfl, ?_⟩; have n0_ := Aside0.mk (below_step bB hb); clear HB; have HB := n0_; clear n0_; (try clear hb); (try clear hb2); (try clear hk); (try clear hi)) | (go_at_call 45; (with_reducible refine (impl_within.calls a1 1 18 true _ A6.out).mono ?_); rintro e w' ⟨rfl, ⟨nd, rfl⟩⟩) | ((with_reducible refine gate_callee (f := 68) rfl ?_); refine goesM_ (some 25) rfl rfl Tryd.func68 (by kernel_rfl) rfl #[.string (⟨#[48]⟩ : ByteArray), .int .i64 (wrap64 (a1 - (t178.size : Int)))] rfl ?_; (with_reducible refine (strings_Repeat.calls (⟨#[48]⟩ : ByteArray) (wrap64 (a1 - (t178.size : Int))) t180 _ A10.out).mono ?_); rintro e w13 ⟨rfl, hb⟩; refine ⟨_, rfl, ?_⟩; have n0_ := Aside0.mk (below_step bB hb); clear HB; have HB := n0_; clear n0_; (try clear hb); (try clear hb2); (try clear hk); (try clear hi)))
     go_ret
     exact ⟨by first | rfl | (simp [errW_none, errW_some] <;> rfl) | (simp [*, errW_none, errW_some] <;> rfl), bB⟩
    ·rw [if_neg c11] at H
     exact absurd H (by simp)
  ·replace c7 := Bool.eq_false_iff.mpr c7
   subst c7
   have H1 : (some (⟨#[]⟩ : ByteArray)) = some r := by rw [if_neg (show ¬ (false = true) by decide)] at H; exact H
   clear H
   have H := H1
   clear H1
   obtain rfl := Option.some.inj H
   go_enter Tryd.func47, Tryd.ntmps47
   go_wp2_with (first | ((with_reducible refine gate_callee (f := 77) rfl ?_); refine goesM_ (some 7) rfl rfl Tryd.func77 (by kernel_rfl) rfl #[.int .i64 a0] rfl ?_; (with_reducible refine (strconv_Itoa.calls a0 t178 _ ?side1 A3.out).mono ?_); (case side1 => exact GLW_below HG.out bB); rintro e w14 ⟨rfl, hb⟩; refine ⟨_, rfl, ?_⟩; have n0_ := Aside0.mk (below_step bB hb); clear HB; have HB := n0_; clear n0_; (try clear hb); (try clear hb2); (try clear hk); (try clear hi)) | (go_at_call 45; (with_reducible refine (impl_within.calls a1 1 18 false _ A6.out).mono ?_); rintro e w' ⟨rfl, ⟨nd, rfl⟩⟩))
   go_ret
   exact ⟨by first | rfl | (simp [errW_none, errW_some] <;> rfl) | (simp [*, errW_none, errW_some] <;> rfl), bB⟩
def impl_PutLen.f (k : Nat) (a0 : Int) (a1 : Int) : Option (List Int × Bool) := (impl_within.f a1 2 3).bind fun t181 => (if t181 = true then ((impl_Wide.f a0 a1).bind fun t182 => ((impl_PutBcd.f k t182).bind fun bt183 => (some (bt183.1, bt183.2)))) else (some (([] : List Int), false)))
set_option maxHeartbeats 8000000 in
set_option maxRecDepth 100000 in
theorem impl_PutLen.calls (k : Nat) (a0 : Int) (a1 : Int) (r1 : List Int) (r2 : Bool) (w : World) (hG : GLW w) (h : impl_PutLen.f k a0 a1 = some (r1, r2)) :
  Calls Tryd.prog 13 #[.int .i64 a0, .int .i64 a1] w fun e w' => ∃ v0_ : Value, e = .returned (.tuple #[v0_, .bool r2]) ∧ Kd.R (Kd.int .u8) 5 w' w.heap.size (fun _ => True) v0_ r1 ∧ Below w.heap.size w w' := by
 have HB := Aside0.mk (Below.refl w.heap.size w)
 have HG := Aside0.mk hG
 clear hG
 have H : ((impl_within.f a1 2 3).bind fun t181 => (if t181 = true then ((impl_Wide.f a0 a1).bind fun t182 => ((impl_PutBcd.f k t182).bind fun bt183 => (some (bt183.1, bt183.2)))) else (some (([] : List Int), false)))) = some (r1, r2) := h
 clear h
 replace H := Option.bind_eq_some_iff.mp H
 obtain ⟨t181, A30, H⟩ := H
 replace H : (if t181 = true then ((impl_Wide.f a0 a1).bind fun t182 => ((impl_PutBcd.f k t182).bind fun bt183 => (some (bt183.1, bt183.2)))) else (some (([] : List Int), false))) = some (r1, r2) := H
 have A3 := Aside0.mk A30
 clear A30
 by_cases c4 : t181 = true
 ·subst c4
  have H1 : ((impl_Wide.f a0 a1).bind fun t182 => ((impl_PutBcd.f k t182).bind fun bt183 => (some (bt183.1, bt183.2)))) = some (r1, r2) := by rw [if_pos rfl] at H; exact H
  clear H
  have H := H1
  clear H1
  replace H := Option.bind_eq_some_iff.mp H
  obtain ⟨t182, A50, H⟩ := H
  replace H : ((impl_PutBcd.f k t182).bind fun bt183 => (some (bt183.1, bt183.2))) = some (r1, r2) := H
  have A5 := Aside0.mk A50
  clear A50
  replace H := Option.bind_eq_some_iff.mp H
  obtain ⟨⟨t183, t184⟩, A60, H⟩ := H
  replace H : (some (t183, t184)) = some (r1, r2) := H
  have A6 := Aside0.mk A60
  clear A60
  simp only [Option.some.injEq, Prod.mk.injEq] at H
  obtain ⟨rfl, rfl⟩ := H
  go_enter Tryd.func13, Tryd.ntmps13
  go_wp2_with (first | ((with_reducible refine gate_callee (f := 45) rfl ?_); refine goesM_ (some 7) rfl rfl Tryd.func45 (by kernel_rfl) rfl #[.int .i64 a1, .int .i64 2, .int .i64 3] rfl ?_; (with_reducible refine (impl_within.calls a1 2 3 true _ A3.out).mono ?_); rintro e w' ⟨rfl, ⟨nd, rfl⟩⟩; refine ⟨_, rfl, ?_⟩) | ((with_reducible refine gate_callee (f := 47) rfl ?_); refine goesM_ (some 11) rfl rfl Tryd.func47 (by kernel_rfl) rfl #[.int .i64 a0, .int .i64 a1] rfl ?_; (with_reducible refine (impl_Wide.calls a0 a1 t182 _ ?side1 A5.out).mono ?_); (case side1 => exact GLW_below HG.out bB); rintro e w7 ⟨rfl, hb⟩; refine ⟨_, rfl, ?_⟩; have n0_ := Aside0.mk (below_step bB hb); clear HB; have HB := n0_; clear n0_; (try clear hb); (try clear hb2); (try clear hk); (try clear hi)) | ((with_reducible refine gate_callee (f := 10) rfl ?_); refine goesM_ (some 12) rfl rfl Tryd.func10 (by kernel_rfl) rfl #[.string t182] rfl ?_; (with_reducible refine (impl_PutBcd.calls k t182 t183 t184 _ A6.out).mono ?_); rintro e w8 ⟨v185, rfl, ho0, hb⟩; refine ⟨_, rfl, ?_⟩; have n0_ := Aside0.mk (Kd.R_lower ho0 (below_size bB)); have n1_ := Aside0.mk (below_step bB hb); clear HB; have HO186 := n0_; have HB := n1_; clear n0_ n1_; (try clear hb); (try clear hb2); (try clear hk); (try clear hi); (try clear ho0)))
  go_ret2
  exact ⟨_, by first | rfl | (simp [errW_none, errW_some] <;> rfl) | (simp [*, errW_none, errW_some] <;> rfl), rA HO186.out, bB⟩
 ·replace c4 := Bool.eq_false_iff.mpr c4
  subst c4
  have H1 : (some (([] : List Int), false)) = some (r1, r2) := by rw [if_neg (show ¬ (false = true) by decide)] at H; exact H
  clear H
  have H := H1
  clear H1
  simp only [Option.some.injEq, Prod.mk.injEq] at H
  obtain ⟨rfl, rfl⟩ := H
  go_enter Tryd.func13, Tryd.ntmps13
  go_wp2_with (first | ((with_reducible refine gate_callee (f := 45) rfl ?_); refine goesM_ (some 7) rfl rfl Tryd.func45 (by kernel_rfl) rfl #[.int .i64 a1, .int .i64 2, .int .i64 3] rfl ?_; (with_reducible refine (impl_within.calls a1 2 3 false _ A3.out).mono ?_); rintro e w' ⟨rfl, ⟨nd, rfl⟩⟩; refine ⟨_, rfl, ?_⟩))
  go_ret2
  exact ⟨_, by first | rfl | (simp [errW_none, errW_some] <;> rfl) | (simp [*, errW_none, errW_some] <;> rfl), by first | exact Kd.R_nil _ _ _ _ _ | exact Kd.N_nil _ _ _ _ _ | exact Kd.V_nil _ _ _ _ _ | exact Kd.Q_nil _ _ _ _ _ | exact Kd.S_nil _ _ _ _ _, bB⟩
end Go.Proofs.YtfiieppnpmodoaaDoor.Q
end
section
namespace Go.Proofs.YtfiieppnpmodoaaDoor.Q
open Go.RowKit Go.Proofs.YtfiieppnpmodoaaDoorW.PrintWords Go.Proofs.YtfiieppnpmodoaaDoorW.PrintLast Go.Proofs.YtfiieppnpmodoaaDoorW.PrintMore
set_option linter.unusedVariables false
set_option linter.unusedSimpArgs false
def wide (n w : Int) : ByteArray :=
  if 0 ≤ n ∧ 1 ≤ w ∧ w ≤ 18 ∧ ((decS n.toNat).size : Int) ≤ w then rep 48 (w - (decS n.toNat).size).toNat ++ decS n.toNat else ⟨#[]⟩
theorem decS_size (n : Nat) : (decS n).size = (decL n).length := by rw [size_eq, bytesOf_decS]
theorem impl_Wide_at (n w : Int) (h0 : -9223372036854775808 ≤ n) (h1 : n ≤ 9223372036854775807) : impl_Wide.f n w = some (wide n w) := by
  unfold impl_Wide.f
  have hi : strconv_Itoa.f n = some (⟨(Lib.itoa n).toArray⟩ : ByteArray) := by unfold strconv_Itoa.f; rw [if_pos ⟨h0, h1⟩]
  by_cases hn : n < 0
  · rw [hi, Option.bind_some, if_pos hn]
    unfold wide
    rw [if_neg (by omega)]
  rw [itoa_at n (by omega) h1, Option.bind_some, if_neg hn]
  have hin : impl_within.f w 1 18 = some (decide (1 ≤ w ∧ w ≤ 18)) := by
    unfold impl_within.f
    by_cases h : 1 ≤ w
    · rw [if_pos h]; simp [h]
    · rw [if_neg h]; simp [h]
  rw [hin, Option.bind_some]
  unfold wide
  by_cases hw : 1 ≤ w ∧ w ≤ 18
  · rw [if_pos (decide_eq_true hw)]
    by_cases hz : ((decS n.toNat).size : Int) > w
    · rw [if_pos hz, if_neg (by omega)]
    · have e : wrap64 (w - ((decS n.toNat).size : Int)) = w - ((decS n.toNat).size : Int) := w64id (by omega) (by omega)
      rw [if_neg hz, e, repeat_at 48 _ (by omega) (by omega), Option.bind_some]
      have hz2 : (rep 48 (w - ((decS n.toNat).size : Int)).toNat).size ≤ 18 := by rw [rep_size]; omega
      rw [if_pos (by omega), if_pos (by omega)]
  · rw [if_neg (by simpa using hw), if_neg (by omega)]
def bcd : List Int → List Int
  | a :: b :: t => ((a - 48) * 16 + (b - 48)) :: bcd t
  | _ => []
def evened (l : List Int) : List Int := if l.length % 2 = 1 then 48 :: l else l
def putBcd (l : List Int) : List Int × Bool := if digs l && decide (l.length ≤ 38) then (bcd (evened l), true) else ([], false)
theorem bcd_length : ∀ (n : Nat) (l : List Int), l.length = 2 * n → (bcd l).length = n
  | 0, l, h => by
    have : l = [] := List.length_eq_zero_iff.1 (by omega)
    rw [this]; rfl
  | n + 1, a :: b :: t, h => by
    simp only [bcd, List.length_cons]
    rw [bcd_length n t (by simp at h; omega)]
  | n + 1, [a], h => by simp at h; omega
  | n + 1, [], h => by simp at h
theorem evened_length (l : List Int) : (evened l).length = 2 * ((l.length + 1) / 2) := by
  unfold evened
  split
  · simp; omega
  · omega
theorem evened_all (l : List Int) (h : l.all isDig = true) : (evened l).all isDig = true := by
  unfold evened
  split
  · simp only [List.all_cons, h, Bool.and_true]; decide
  · exact h
theorem dig_range' {c : Int} (h : isDig c = true) : 48 ≤ c ∧ c ≤ 57 := by
  unfold isDig at h
  simpa using h
theorem all_rd' (l : List Int) (p : Int → Bool) (h : l.all p = true) (n : Nat) (hn : n < l.length) : p (rd l (n : Int)) = true := by
  rw [List.all_eq_true] at h
  exact h _ (rd_mem l n hn)
theorem drop_two (l : List Int) (n : Nat) (h : n + 1 < l.length) : l.drop n = rd l (n : Int) :: rd l ((n + 1 : Nat) : Int) :: l.drop (n + 2) := by
  rw [drop_rd l n (by omega), drop_rd l (n + 1) (by omega)]
theorem digs_and (l : List Int) (h : digs l = true) : l.all isDig = true ∧ 0 < l.length := by
  unfold digs at h
  cases l with
  | nil => simp at h
  | cons a t => simpa using h
theorem or_bcd (a b : Int) (a0 : 0 ≤ a) (a1 : a ≤ 9) (b0 : 0 ≤ b) (b1 : b ≤ 9) : Go.bits .or .u8 (a * 16) b = a * 16 + b :=
  bits_join .u8 8 (by decide) wraps_u8 4 (a * 16) b (by omega) (by omega) (by omega) (by omega) (by omega) (by omega)
theorem impl_PutBcd_l (s : ByteArray) (hs : s.size ≤ 10000000) (hd : (bytesOf s).all isDig = true) : ∀ (d n k : Nat) (x : List Int), n + 2 * d = s.size → x.length + d ≤ 1000000000 → d < k →
    impl_PutBcd.l0 k s x (n : Int) = some (x ++ bcd ((bytesOf s).drop n), true) := by
  intro d
  induction d with
  | zero =>
    intro n k x hn hx hk
    obtain ⟨k, rfl⟩ : ∃ m, k = m + 1 := ⟨k - 1, by omega⟩
    have c1 : ¬ (n : Int) < (s.size : Int) := by omega
    simp only [impl_PutBcd.l0, if_neg c1]
    rw [List.drop_of_length_le (by rw [bytesOf_length]; omega)]
    simp [bcd]
  | succ d ih =>
    intro n k x hn hx hk
    obtain ⟨k, rfl⟩ : ∃ m, k = m + 1 := ⟨k - 1, by omega⟩
    have hl : (bytesOf s).length = s.size := bytesOf_length s
    obtain ⟨a0, a1⟩ := dig_range' (all_rd' _ _ hd n (by omega))
    obtain ⟨b0, b1⟩ := dig_range' (all_rd' _ _ hd (n + 1) (by omega))
    have c1 : (n : Int) < (s.size : Int) := by omega
    have c2 : 0 ≤ (n : Int) := by omega
    have e1 : wrap64 ((n : Int) + 1) = ((n + 1 : Nat) : Int) := by unfold wrap64; omega
    have e2 : wrap64 ((n : Int) + 2) = ((n + 2 : Nat) : Int) := by unfold wrap64; omega
    have c3 : 0 ≤ ((n + 1 : Nat) : Int) := by omega
    have c4 : ((n + 1 : Nat) : Int) < (s.size : Int) := by omega
    have c5 : x.length < 140737488355328 := by omega
    rw [drop_two _ n (by omega)]
    simp only [impl_PutBcd.l0, e1, e2, if_pos c1, if_pos c2, if_pos c3, if_pos c4, if_pos c5, bt_eq, bcd]
    generalize rd (bytesOf s) (n : Int) = a at a0 a1
    generalize rd (bytesOf s) ((n + 1 : Nat) : Int) = b at b0 b1
    have e : Go.bits .or .u8 ((((a - 48) % 256) * 16) % 256) ((b - 48) % 256) = (a - 48) * 16 + (b - 48) := by
      have f1 : (a - 48) % 256 = a - 48 := by omega
      have f2 : (b - 48) % 256 = b - 48 := by omega
      have f3 : ((a - 48) * 16) % 256 = (a - 48) * 16 := by omega
      rw [f1, f2, f3]
      exact or_bcd _ _ (by omega) (by omega) (by omega) (by omega)
    rw [e, ih (n + 2) k _ (by omega) (by simp; omega) (by omega)]
    simp
theorem impl_PutBcd_at (s : ByteArray) (hs : s.size ≤ 9000000) (k : Nat) (hk : s.size + 5 ≤ k) : impl_PutBcd.f k s = some (putBcd (bytesOf s)) := by
  obtain ⟨k, rfl⟩ : ∃ m, k = m + 2 := ⟨k - 2, by omega⟩
  unfold impl_PutBcd.f putBcd
  rw [impl_Digits_at s (by omega) (k + 2) (by omega)]
  simp only [Option.bind_some]
  by_cases h : digs (bytesOf s) = true
  · obtain ⟨h1, h2⟩ := digs_and _ h
    rw [bytesOf_length] at h2
    rw [if_pos h, h, impl_PutBcd.j0]
    by_cases h3 : (s.size : Int) > 38
    · have h4 : ¬ s.size ≤ 38 := by omega
      simp [h3, h4, bytesOf_length]
    · have h4 : s.size ≤ 38 := by omega
      simp only [h3, decide_false, Bool.false_eq_true, if_false]
      have q : (true && decide ((bytesOf s).length ≤ 38)) = true := by simp [bytesOf_length, h4]
      rw [if_pos q]
      by_cases h5 : (s.size : Int) % 2 = 1
      · have c1 : 1 + s.size ≤ 9223372036854775807 := by omega
        have eb : bytesOf ((⟨#[48]⟩ : ByteArray) ++ s) = 48 :: bytesOf s := by rw [bytesOf_append]; rfl
        have ez : ((⟨#[48]⟩ : ByteArray) ++ s).size = s.size + 1 := by rw [size_eq, eb, List.length_cons, bytesOf_length]
        have ev : evened (bytesOf s) = 48 :: bytesOf s := by unfold evened; rw [if_pos (by rw [bytesOf_length]; omega)]
        rw [if_pos h5, if_pos c1, impl_PutBcd.j1, ev]
        have hh := impl_PutBcd_l ((⟨#[48]⟩ : ByteArray) ++ s) (by omega) (by rw [eb, List.all_cons, h1]; decide) ((s.size + 1) / 2) 0 k [] (by omega) (by simp; omega) (by omega)
        rw [eb] at hh
        simpa using hh
      · have ev : evened (bytesOf s) = bytesOf s := by unfold evened; rw [if_neg (by rw [bytesOf_length]; omega)]
        rw [if_neg h5, impl_PutBcd.j1, ev]
        have hh := impl_PutBcd_l s (by omega) h1 (s.size / 2) 0 k [] (by omega) (by simp; omega) (by omega)
        simpa using hh
  · rw [if_neg h, impl_PutBcd.j0]
    simp [h]
theorem wide_size (n w : Int) : (wide n w).size ≤ 18 := by
  unfold wide
  split
  · rename_i h
    rw [ByteArray.size_append, rep_size]
    omega
  · decide
def putLen (n w : Int) : List Int × Bool := if w = 2 ∨ w = 3 then putBcd (bytesOf (wide n w)) else ([], false)
theorem putLen_short (n w : Int) : (putLen n w).1.length ≤ 38 := by
  unfold putLen
  split
  · unfold putBcd
    split
    · rename_i h
      have h2 : (bytesOf (wide n w)).length ≤ 38 := by simp at h; exact h.2
      rw [bcd_length (((bytesOf (wide n w)).length + 1) / 2) _ (evened_length _)]
      omega
    · simp
  · simp
theorem impl_PutLen_at (n w : Int) (h0 : -9223372036854775808 ≤ n) (h1 : n ≤ 9223372036854775807) (k : Nat) (hk : 100 < k) : impl_PutLen.f k n w = some (putLen n w) := by
  have hs := wide_size n w
  have hin : impl_within.f w 2 3 = some (decide (w = 2 ∨ w = 3)) := by
    unfold impl_within.f
    by_cases h : 2 ≤ w
    · rw [if_pos h]; congr 1; apply decide_eq_decide.2; omega
    · rw [if_neg h]; congr 1; symm; apply decide_eq_false; omega
  unfold impl_PutLen.f putLen
  rw [hin, Option.bind_some]
  by_cases h2 : w = 2 ∨ w = 3
  · rw [if_pos (decide_eq_true h2), if_pos h2, impl_Wide_at n w h0 h1, Option.bind_some, impl_PutBcd_at _ (by omega) k (by omega), Option.bind_some]
  · rw [if_neg (by simpa using h2), if_neg h2]
def kindOf (x : Int) : Int := if x = 2 then 3 else if x = 3 ∨ x = 4 ∨ x = 7 ∨ x = 11 ∨ x = 14 ∨ x = 49 then 1 else if x = 37 ∨ x = 38 ∨ x = 39 ∨ x = 41 ∨ x = 95 then 2 else if x = 102 ∨ x = 103 then 4 else if x = 48 ∨ x = 54 then 5 else 0
def sizeOf_ (x : Int) : Int := if x = 2 then 19 else if x = 3 ∨ x = 11 ∨ x = 38 then 6 else if x = 4 ∨ x = 37 ∨ x = 95 then 12 else if x = 7 then 10 else if x = 14 then 4 else if x = 39 then 2 else if x = 41 then 8 else if x = 49 then 3 else if x = 102 ∨ x = 103 then 20 else if x = 48 ∨ x = 54 then 60 else 0
theorem nos_cases (P : Int → Prop) (h2 : P 2) (h3 : P 3) (h4 : P 4) (h7 : P 7) (h11 : P 11) (h14 : P 14) (h37 : P 37) (h38 : P 38) (h39 : P 39) (h41 : P 41) (h48 : P 48) (h49 : P 49) (h54 : P 54) (h95 : P 95) (h102 : P 102) (h103 : P 103)
    (hno : ∀ x : Int, ¬ x = 2 → ¬ x = 3 → ¬ x = 4 → ¬ x = 7 → ¬ x = 11 → ¬ x = 14 → ¬ x = 37 → ¬ x = 38 → ¬ x = 39 → ¬ x = 41 → ¬ x = 48 → ¬ x = 49 → ¬ x = 54 → ¬ x = 95 → ¬ x = 102 → ¬ x = 103 → P x) (x : Int) : P x := by
  by_cases e2 : x = 2
  · subst e2; exact h2
  by_cases e3 : x = 3
  · subst e3; exact h3
  by_cases e4 : x = 4
  · subst e4; exact h4
  by_cases e7 : x = 7
  · subst e7; exact h7
  by_cases e11 : x = 11
  · subst e11; exact h11
  by_cases e14 : x = 14
  · subst e14; exact h14
  by_cases e37 : x = 37
  · subst e37; exact h37
  by_cases e38 : x = 38
  · subst e38; exact h38
  by_cases e39 : x = 39
  · subst e39; exact h39
  by_cases e41 : x = 41
  · subst e41; exact h41
  by_cases e48 : x = 48
  · subst e48; exact h48
  by_cases e49 : x = 49
  · subst e49; exact h49
  by_cases e54 : x = 54
  · subst e54; exact h54
  by_cases e95 : x = 95
  · subst e95; exact h95
  by_cases e102 : x = 102
  · subst e102; exact h102
  by_cases e103 : x = 103
  · subst e103; exact h103
  exact hno x e2 e3 e4 e7 e11 e14 e37 e38 e39 e41 e48 e49 e54 e95 e102 e103
theorem rowOf_none (x : Int) (l : List S85) (hl : l.length ≤ 1000) (h : ∀ r ∈ l, ¬ r.f0 = x) : ∀ (d n k : Nat), n + d = l.length → d < k →
    impl_rowOf.l0 k x l (l.length : Int) (n : Int) = some (0, 0, 0) := by
  intro d
  induction d with
  | zero =>
    intro n k hd hk
    obtain ⟨k, rfl⟩ : ∃ m, k = m + 1 := ⟨k - 1, by omega⟩
    have c1 : ¬ (n : Int) < (l.length : Int) := by omega
    simp only [impl_rowOf.l0, if_neg c1]
  | succ d ih =>
    intro n k hd hk
    obtain ⟨k, rfl⟩ : ∃ m, k = m + 1 := ⟨k - 1, by omega⟩
    have c1 : (n : Int) < (l.length : Int) := by omega
    have c2 : 0 ≤ (n : Int) := by omega
    have hn : n < l.length := by omega
    have c3 : ¬ (rd_T85 l (n : Int)).f0 = x := by
      have e : rd_T85 l (n : Int) = l[n] := by unfold rd_T85; simp [List.getD, hn]
      rw [e]
      exact h _ (List.getElem_mem hn)
    simp only [impl_rowOf.l0, if_pos c1, if_pos c2, if_neg c3, w64 c2 (by omega)]
    exact ih (n + 1) k (by omega) (by omega)
theorem rowOf_at (x : Int) (k : Nat) (hk : 20 ≤ k) : ∃ y, impl_rowOf.f k x = some (y, kindOf x, sizeOf_ x) := by
  have h : ∃ y, impl_rowOf.f 20 x = some (y, kindOf x, sizeOf_ x) := by
    refine nos_cases (fun x => ∃ y, impl_rowOf.f 20 x = some (y, kindOf x, sizeOf_ x)) ⟨2, by decide +kernel⟩ ⟨3, by decide +kernel⟩ ⟨4, by decide +kernel⟩ ⟨7, by decide +kernel⟩ ⟨11, by decide +kernel⟩ ⟨14, by decide +kernel⟩ ⟨37, by decide +kernel⟩ ⟨38, by decide +kernel⟩ ⟨39, by decide +kernel⟩ ⟨41, by decide +kernel⟩ ⟨48, by decide +kernel⟩ ⟨49, by decide +kernel⟩ ⟨54, by decide +kernel⟩ ⟨95, by decide +kernel⟩ ⟨102, by decide +kernel⟩ ⟨103, by decide +kernel⟩ ?_ x
    intro x e2 e3 e4 e7 e11 e14 e37 e38 e39 e41 e48 e49 e54 e95 e102 e103
    refine ⟨0, ?_⟩
    have hk : kindOf x = 0 := by unfold kindOf; simp [*]
    have hs : sizeOf_ x = 0 := by unfold sizeOf_; simp [*]
    rw [hk, hs]
    obtain ⟨l, hl, hn⟩ : ∃ l, impl_fieldRows.f = some l ∧ l.length = 16 ∧ ∀ r ∈ l, ¬ r.f0 = x := by
      refine ⟨_, rfl, rfl, ?_⟩
      intro r hr
      simp only [List.mem_cons, List.not_mem_nil, or_false] at hr
      rcases hr with rfl | rfl | rfl | rfl | rfl | rfl | rfl | rfl | rfl | rfl | rfl | rfl | rfl | rfl | rfl | rfl <;> (intro h; first | exact e2 h.symm | exact e3 h.symm | exact e4 h.symm | exact e7 h.symm | exact e11 h.symm | exact e14 h.symm | exact e37 h.symm | exact e38 h.symm | exact e39 h.symm | exact e41 h.symm | exact e48 h.symm | exact e49 h.symm | exact e54 h.symm | exact e95 h.symm | exact e102 h.symm | exact e103 h.symm)
    unfold impl_rowOf.f
    rw [hl]
    exact rowOf_none x l (by omega) hn.2 16 0 20 (by omega) (by omega)
  obtain ⟨y, h⟩ := h
  exact ⟨y, later (g := fun k => impl_rowOf.f k x) (fun k => impl_rowOf.mono x k) h k hk⟩
theorem spec_FieldKind_at (x : Int) (k : Nat) (hk : 20 ≤ k) : spec_FieldKind.f k x = some (kindOf x) := by
  refine later (g := fun k => spec_FieldKind.f k x) (fun k => spec_FieldKind.mono x k) ?_ k hk
  show spec_FieldKind.f 20 x = some (kindOf x)
  refine nos_cases (fun x => spec_FieldKind.f 20 x = some (kindOf x)) (by decide +kernel) (by decide +kernel) (by decide +kernel) (by decide +kernel) (by decide +kernel) (by decide +kernel) (by decide +kernel) (by decide +kernel) (by decide +kernel) (by decide +kernel) (by decide +kernel) (by decide +kernel) (by decide +kernel) (by decide +kernel) (by decide +kernel) (by decide +kernel) ?_ x
  intro x e2 e3 e4 e7 e11 e14 e37 e38 e39 e41 e48 e49 e54 e95 e102 e103
  unfold kindOf
  simp [spec_FieldKind.f, spec_FieldKind.j0, spec_FieldKind.j1, spec_FieldKind.j2, *]
theorem spec_FieldSize_at (x : Int) (k : Nat) (hk : 20 ≤ k) : spec_FieldSize.f k x = some (sizeOf_ x) := by
  refine later (g := fun k => spec_FieldSize.f k x) (fun k => spec_FieldSize.mono x k) ?_ k hk
  show spec_FieldSize.f 20 x = some (sizeOf_ x)
  refine nos_cases (fun x => spec_FieldSize.f 20 x = some (sizeOf_ x)) (by decide +kernel) (by decide +kernel) (by decide +kernel) (by decide +kernel) (by decide +kernel) (by decide +kernel) (by decide +kernel) (by decide +kernel) (by decide +kernel) (by decide +kernel) (by decide +kernel) (by decide +kernel) (by decide +kernel) (by decide +kernel) (by decide +kernel) (by decide +kernel) ?_ x
  intro x e2 e3 e4 e7 e11 e14 e37 e38 e39 e41 e48 e49 e54 e95 e102 e103
  unfold sizeOf_
  simp [spec_FieldSize.f, spec_FieldSize.j0, spec_FieldSize.j1, spec_FieldSize.j2, *]
def isPri (c : Int) : Bool := decide (32 ≤ c) && decide (c ≤ 126)
theorem impl_Printable_l (s : ByteArray) (hs : s.size ≤ 140737488351232) : ∀ (d n k : Nat), n + d = s.size → d < k →
    impl_Printable.l0 k s (s.size : Int) (n : Int) = some (((bytesOf s).drop n).all isPri) := by
  intro d
  induction d with
  | zero =>
    intro n k hd hk
    obtain ⟨k, rfl⟩ : ∃ m, k = m + 1 := ⟨k - 1, by omega⟩
    simp only [impl_Printable.l0]
    rw [if_neg (by omega), List.drop_of_length_le (by rw [bytesOf_length]; omega)]
    simp
  | succ d ih =>
    intro n k hd hk
    obtain ⟨k, rfl⟩ : ∃ m, k = m + 1 := ⟨k - 1, by omega⟩
    simp only [impl_Printable.l0]
    rw [if_pos (by omega), if_pos (by omega), if_pos (by omega), drop_bt s n (by omega), List.all_cons]
    by_cases h1 : bt s (n : Int) < 32
    · rw [if_pos h1]
      have e : isPri (bt s (n : Int)) = false := by unfold isPri; simp; omega
      rw [e]; simp
    · rw [if_neg h1]
      by_cases h2 : bt s (n : Int) > 126
      · rw [if_pos h2]
        have e : isPri (bt s (n : Int)) = false := by unfold isPri; simp; omega
        rw [e]; simp
      · rw [if_neg h2, w64 (by omega) (by omega)]
        have e : isPri (bt s (n : Int)) = true := by unfold isPri; simp; omega
        rw [e, Bool.true_and]
        exact ih (n + 1) k (by omega) (by omega)
theorem impl_Printable_at (s : ByteArray) (hs : s.size ≤ 140737488351232) (k : Nat) (hk : s.size < k) : impl_Printable.f k s = some ((bytesOf s).all isPri) := by
  unfold impl_Printable.f
  have h := impl_Printable_l s hs s.size 0 k (by omega) hk
  simpa using h
def fieldOk (x : Int) (l : List Int) : Bool :=
  if kindOf x = 1 then digs l && ((l.length : Int) == sizeOf_ x)
  else if kindOf x = 2 then l.all isPri && ((l.length : Int) == sizeOf_ x)
  else if kindOf x = 3 then digs l && decide ((l.length : Int) ≤ sizeOf_ x)
  else if kindOf x = 4 ∨ kindOf x = 5 then l.all isPri && decide (1 ≤ (l.length : Int) ∧ (l.length : Int) ≤ sizeOf_ x)
  else false
theorem kind_range (x : Int) : 0 ≤ kindOf x ∧ kindOf x ≤ 5 := by
  unfold kindOf
  repeat' split
  all_goals omega
theorem impl_FieldOk_at (x : Int) (s : ByteArray) (hs : s.size ≤ 140737488351232) (k : Nat) (hk : s.size + 22 < k) : impl_FieldOk.f k x s = some (fieldOk x (bytesOf s)) := by
  unfold impl_FieldOk.f fieldOk
  obtain ⟨y, hy⟩ := rowOf_at x k (by omega)
  rw [hy, Option.bind_some]
  simp only
  obtain ⟨r0, r1⟩ := kind_range x
  have hl := bytesOf_length s
  rw [hl]
  generalize kindOf x = t at r0 r1
  have hin : impl_within.f (s.size : Int) 1 (sizeOf_ x) = some (decide (1 ≤ (s.size : Int) ∧ (s.size : Int) ≤ sizeOf_ x)) := by
    unfold impl_within.f
    by_cases h : 1 ≤ (s.size : Int)
    · rw [if_pos h]; simp only [h, true_and]
    · rw [if_neg h]; simp only [h, false_and, decide_false]
  by_cases h1 : t = 1
  · rw [if_pos h1, if_pos h1, impl_Digits_at s hs k (by omega), Option.bind_some]
    cases digs (bytesOf s) <;> simp
  by_cases h2 : t = 2
  · rw [if_neg h1, if_neg h1, if_pos h2, if_pos h2, impl_Printable_at s hs k (by omega), Option.bind_some]
    cases (bytesOf s).all isPri <;> simp
  by_cases h3 : t = 3
  · rw [if_neg h1, if_neg h1, if_neg h2, if_neg h2, if_pos h3, if_pos h3, impl_Digits_at s hs k (by omega), Option.bind_some, hin]
    by_cases hg : digs (bytesOf s) = true
    · have := (digs_and _ hg).2
      rw [hl] at this
      have h' : 1 ≤ (s.size : Int) := by omega
      rw [if_pos hg, hg]
      simp only [h', true_and, Option.bind_some, Bool.true_and]
    · rw [if_neg hg]
      simp [hg]
  rw [if_neg h1, if_neg h1, if_neg h2, if_neg h2, if_neg h3, if_neg h3]
  obtain ⟨k, rfl⟩ : ∃ m, k = m + 1 := ⟨k - 1, by omega⟩
  have hp := impl_Printable_at s hs k (by omega)
  by_cases h4 : t = 4 ∨ t = 5
  · rw [if_pos h4]
    have e : (if t = 4 then impl_FieldOk.j0 (k + 1) s (t == 4) y t (sizeOf_ x) else impl_FieldOk.j0 (k + 1) s (t == 5) y t (sizeOf_ x)) = impl_FieldOk.j0 (k + 1) s true y t (sizeOf_ x) := by
      rcases h4 with h | h
      · rw [if_pos h, h]; rfl
      · rw [if_neg (by omega), h]; rfl
    rw [e, impl_FieldOk.j0, if_pos rfl, hp, Option.bind_some, hin]
    cases (bytesOf s).all isPri <;> simp
  · rw [if_neg h4]
    have e : (if t = 4 then impl_FieldOk.j0 (k + 1) s (t == 4) y t (sizeOf_ x) else impl_FieldOk.j0 (k + 1) s (t == 5) y t (sizeOf_ x)) = impl_FieldOk.j0 (k + 1) s false y t (sizeOf_ x) := by
      have h5 : ¬ t = 5 := fun h => h4 (Or.inr h)
      rw [if_neg (fun h => h4 (Or.inl h)), show (t == 5) = false from by simpa using h5]
    rw [e, impl_FieldOk.j0, if_neg (by simp)]
theorem sizeOf_range (x : Int) : 0 ≤ sizeOf_ x ∧ sizeOf_ x ≤ 60 := by
  unfold sizeOf_
  repeat' split
  all_goals omega
theorem spec_l03Width_at (t : Int) (k : Nat) (hk : 2 ≤ k) : spec_l03Width.f k t = some (if t = 3 ∨ t = 4 then 2 else if t = 5 then 3 else 0) := by
  obtain ⟨k, rfl⟩ : ∃ m, k = m + 1 := ⟨k - 1, by omega⟩
  unfold spec_l03Width.f
  by_cases h3 : t = 3
  · subst h3; rfl
  by_cases h4 : t = 4
  · subst h4; rfl
  have e4 : (t == 4) = false := by simp [h4]
  rw [if_neg h3, if_neg (by omega), e4, spec_l03Width.j0, if_neg (by simp)]
  split <;> rfl
theorem known (x : Int) (h : ¬ kindOf x = 0) : x = 2 ∨ (x = 3 ∨ x = 4 ∨ x = 7 ∨ x = 11 ∨ x = 14 ∨ x = 49) ∨ (x = 37 ∨ x = 38 ∨ x = 39 ∨ x = 41 ∨ x = 95) ∨ (x = 102 ∨ x = 103) ∨ (x = 48 ∨ x = 54) := by
  unfold kindOf at h
  by_cases a : x = 2
  · exact .inl a
  by_cases b : x = 3 ∨ x = 4 ∨ x = 7 ∨ x = 11 ∨ x = 14 ∨ x = 49
  · exact .inr (.inl b)
  by_cases c : x = 37 ∨ x = 38 ∨ x = 39 ∨ x = 41 ∨ x = 95
  · exact .inr (.inr (.inl c))
  by_cases d : x = 102 ∨ x = 103
  · exact .inr (.inr (.inr (.inl d)))
  by_cases e : x = 48 ∨ x = 54
  · exact .inr (.inr (.inr (.inr e)))
  rw [if_neg a, if_neg b, if_neg c, if_neg d, if_neg e] at h
  exact absurd rfl h
theorem size_pos (x : Int) (h : ¬ kindOf x = 0) : 1 ≤ sizeOf_ x := by
  rcases known x h with rfl | (rfl | rfl | rfl | rfl | rfl | rfl) | (rfl | rfl | rfl | rfl | rfl) | (rfl | rfl) | (rfl | rfl) <;> decide
theorem fieldOk_len (x : Int) (l : List Int) (h : fieldOk x l = true) : 1 ≤ l.length ∧ (l.length : Int) ≤ sizeOf_ x := by
  unfold fieldOk at h
  have s0 := sizeOf_range x
  have hs : kindOf x = 2 → 1 ≤ sizeOf_ x := fun h => size_pos x (by omega)
  split at h
  · rename_i q
    simp only [Bool.and_eq_true, beq_iff_eq] at h
    have := (digs_and _ h.1).2
    omega
  split at h
  · rename_i q q2
    simp only [Bool.and_eq_true, beq_iff_eq] at h
    have := hs q2
    omega
  split at h
  · simp only [Bool.and_eq_true, decide_eq_true_eq] at h
    have := (digs_and _ h.1).2
    omega
  split at h
  · simp only [Bool.and_eq_true, decide_eq_true_eq] at h
    omega
  · exact absurd h (by simp)
theorem impl_FieldKind_at (x : Int) (k : Nat) (hk : 20 ≤ k) : impl_FieldKind.f k x = some (kindOf x) := by
  obtain ⟨y, h⟩ := rowOf_at x k hk
  unfold impl_FieldKind.f
  rw [h]; rfl
def prefixed (x : Int) : Bool := decide (kindOf x = 3 ∨ kindOf x = 4 ∨ kindOf x = 5)
def lenWidth (x : Int) : Int := if kindOf x = 5 then 3 else 2
def inDigits (x : Int) : Bool := decide (kindOf x = 1 ∨ kindOf x = 3)
theorem impl_lenDigits_at (x : Int) (k : Nat) (hk : 20 ≤ k) : impl_lenDigits.f k x = some (lenWidth x) := by
  unfold impl_lenDigits.f lenWidth
  rw [impl_FieldKind_at x k hk, Option.bind_some]
  split <;> rfl
def pfHead (x : Int) (n : Nat) : List Int := if prefixed x = true then (putLen (n : Int) (lenWidth x)).1 else []
def pfBody (x : Int) (L : List Int) : List Int := if inDigits x = true then bcd (evened L) else L
def putField (x : Int) (L : List Int) : List Int × Bool := if fieldOk x L = true then (pfHead x L.length ++ pfBody x L, true) else ([], false)
theorem fieldOk_digits (x : Int) (L : List Int) (h : fieldOk x L = true) (hd : inDigits x = true) : L.all isDig = true ∧ 1 ≤ L.length ∧ L.length ≤ 38 := by
  have hl := fieldOk_len x L h
  have hd' := of_decide_eq_true hd
  have hz : sizeOf_ x ≤ 38 := by
    rcases known x (by omega) with rfl | (rfl | rfl | rfl | rfl | rfl | rfl) | (rfl | rfl | rfl | rfl | rfl) | (rfl | rfl) | (rfl | rfl) <;> first | decide | (exact absurd hd' (by decide))
  refine ⟨?_, hl.1, by omega⟩
  unfold fieldOk at h
  rcases hd' with q | q
  · rw [if_pos q] at h
    simp only [Bool.and_eq_true] at h
    exact (digs_and _ h.1).1
  · rw [if_neg (by omega), if_neg (by omega), if_pos q] at h
    simp only [Bool.and_eq_true] at h
    exact (digs_and _ h.1).1
theorem putBcd_digits (L : List Int) (hd : L.all isDig = true) (h1 : 1 ≤ L.length) (h2 : L.length ≤ 38) : putBcd L = (bcd (evened L), true) := by
  have hg : digs L = true := by
    unfold digs; rw [hd]; cases L with
    | nil => simp at h1
    | cons => rfl
  unfold putBcd
  rw [hg]
  simp [h2]
theorem fieldOk_kind (x : Int) (L : List Int) (h : fieldOk x L = true) : ¬ kindOf x = 0 := by
  intro h0
  unfold fieldOk at h
  rw [if_neg (by omega), if_neg (by omega), if_neg (by omega), if_neg (by omega)] at h
  exact absurd h (by simp)
def impl_PutField.f (a0 : Int) (a1 : ByteArray) : Option (List Int × Bool) := if a1.size ≤ 140737488351232 then some (putField a0 (bytesOf a1)) else none
theorem iput_info : (Tryd.prog.info? 5).map (fun i => (i.zero, i.size, i.bytes)) = some (some (.int .u8 0), 1, 1) := by kernel_rfl
set_option maxHeartbeats 8000000 in
set_option maxRecDepth 100000 in
theorem iput_no (a0 : Int) (a1 : ByteArray) (w : World) (hs : a1.size ≤ 140737488351232) (h : fieldOk a0 (bytesOf a1) = false) :
    Calls Tryd.prog 22 #[.int .i64 a0, .string a1] w fun e w' => ∃ v, e = .returned (.tuple #[v, .bool false]) ∧ RowB 5 w' w.heap.size v [] ∧ Below w.heap.size w w' := by
  have HF := Aside0.mk (impl_FieldOk_at a0 a1 hs (a1.size + 1000) (by omega))
  rw [h] at HF
  go_enter Tryd.func22, Tryd.ntmps22
  go_wp2_with (go_at_call 34; (with_reducible refine (impl_FieldOk.calls _ a0 a1 false _ HF.out).mono ?_); rintro e w1 ⟨rfl, hb1⟩; have HB1 := Aside0.mk hb1; clear hb1)
  go_ret2
  exact ⟨_, rfl, .inl ⟨rfl, rfl⟩, HB1.out⟩
set_option maxHeartbeats 8000000 in
set_option maxRecDepth 100000 in
theorem iput_num (a0 : Int) (a1 : ByteArray) (w : World) (hs : a1.size ≤ 38) (h : fieldOk a0 (bytesOf a1) = true) (hk : kindOf a0 = 1) (hd : putBcd (bytesOf a1) = (bcd (evened (bytesOf a1)), true)) :
    Calls Tryd.prog 22 #[.int .i64 a0, .string a1] w fun e w' => ∃ v, e = .returned (.tuple #[v, .bool true]) ∧ RowB 5 w' w.heap.size v (bcd (evened (bytesOf a1))) ∧ Below w.heap.size w w' := by
  have HF := Aside0.mk (impl_FieldOk_at a0 a1 (by omega) (a1.size + 1000) (by omega))
  have HK := Aside0.mk (impl_FieldKind_at a0 (a1.size + 1000) (by omega))
  have HD := Aside0.mk (impl_PutBcd_at a1 (by omega) (a1.size + 1000) (by omega))
  rw [h] at HF
  rw [hk] at HK
  rw [hd] at HD
  generalize bcd (evened (bytesOf a1)) = B at HD ⊢
  go_enter Tryd.func22, Tryd.ntmps22
  go_wp2_with (first | (go_at_call 34; (with_reducible refine (impl_FieldOk.calls _ a0 a1 true _ HF.out).mono ?_); rintro e w1 ⟨rfl, hb1⟩; have HB1 := Aside0.mk hb1; clear hb1) | ((with_reducible refine gate_dst (N := 15) rfl ?_); refine conv_event (src := 9) (dst := 22) (e := 5) (x := .tmp 14) (s := a1) rfl rfl rfl Tryd.underlying9 Tryd.underlying22 Tryd.underlying5 (by unfold maxLen; omega) ?_; intro g c w2 hg hr hb2; have HG2 := Aside0.mk (Nat.le_trans HB1.out.size (Nat.le_of_eq hg.symm)); have HR2 := Aside0.mk hr; have HB2 := Aside0.mk (below_step HB1.out hb2); clear hg hr hb2) | (go_at_call 55; (with_reducible refine (impl_FieldKind.calls _ a0 1 _ HK.out).mono ?_); rintro e w3 ⟨rfl, hb3⟩; have HB3 := Aside0.mk (below_step HB2.out hb3); clear hb3) | (go_at_call 10; (with_reducible refine (impl_PutBcd.calls _ a1 B true _ HD.out).mono ?_); rintro e w4 ⟨v4, rfl, hr4, hb4⟩; have HR4 := Aside0.mk (RowB_lower (RowB_of_R hr4) HB3.out.size); have HB4 := Aside0.mk (below_step HB3.out hb4); clear hr4 hb4))
  go_ret2
  exact ⟨_, rfl, HR4.out, HB4.out⟩
set_option maxHeartbeats 8000000 in
set_option maxRecDepth 100000 in
theorem iput_text (a0 : Int) (a1 : ByteArray) (w : World) (hs : a1.size ≤ 100) (h : fieldOk a0 (bytesOf a1) = true) (hk : kindOf a0 = 2) :
    Calls Tryd.prog 22 #[.int .i64 a0, .string a1] w fun e w' => ∃ v, e = .returned (.tuple #[v, .bool true]) ∧ RowB 5 w' w.heap.size v (bytesOf a1) ∧ Below w.heap.size w w' := by
  have HF := Aside0.mk (impl_FieldOk_at a0 a1 (by omega) (a1.size + 1000) (by omega))
  have HK := Aside0.mk (impl_FieldKind_at a0 (a1.size + 1000) (by omega))
  rw [h] at HF
  rw [hk] at HK
  have hlen := bytesOf_length a1
  go_enter Tryd.func22, Tryd.ntmps22
  go_wp2_with (first | (go_at_call 34; (with_reducible refine (impl_FieldOk.calls _ a0 a1 true _ HF.out).mono ?_); rintro e w1 ⟨rfl, hb1⟩; have HB1 := Aside0.mk hb1; clear hb1) | ((with_reducible refine gate_dst (N := 15) rfl ?_); refine conv_event (src := 9) (dst := 22) (e := 5) (x := .tmp 14) (s := a1) rfl rfl rfl Tryd.underlying9 Tryd.underlying22 Tryd.underlying5 (by unfold maxLen; omega) ?_; intro g c w2 hg hr hb2; have HG2 := Aside0.mk (Nat.le_trans HB1.out.size (Nat.le_of_eq hg.symm)); have HR2 := Aside0.mk hr; have HB2 := Aside0.mk (below_step HB1.out hb2); clear hg hr hb2) | (go_at_call 55; (with_reducible refine (impl_FieldKind.calls _ a0 2 _ HK.out).mono ?_); rintro e w3 ⟨rfl, hb3⟩; have HR3 := Aside0.mk (RB_below HR2.out hb3); have HB3 := Aside0.mk (below_step HB2.out hb3); clear hb3))
  go_ret2
  exact ⟨.slice (some ⟨g, 0, none⟩) a1.size c, by first | rfl | (simp; done), .inr ⟨g, c, by rw [hlen], HG2.out, HR3.out⟩, HB3.out⟩
set_option maxHeartbeats 8000000 in
set_option maxRecDepth 100000 in
theorem iput_numVar (a0 : Int) (a1 : ByteArray) (w : World) (hG : GLW w) (hs : a1.size ≤ 38) (h : fieldOk a0 (bytesOf a1) = true) (hk : kindOf a0 = 3) (hd : putBcd (bytesOf a1) = (bcd (evened (bytesOf a1)), true)) (H : List Int) (b : Bool) (hH : putLen (a1.size : Int) 2 = (H, b)) (hl : H.length ≤ 100) (hl2 : (bcd (evened (bytesOf a1))).length ≤ 100) :
    Calls Tryd.prog 22 #[.int .i64 a0, .string a1] w fun e w' => ∃ v, e = .returned (.tuple #[v, .bool true]) ∧ RowB 5 w' w.heap.size v (H ++ bcd (evened (bytesOf a1))) ∧ Below w.heap.size w w' := by
  have HF := Aside0.mk (impl_FieldOk_at a0 a1 (by omega) (a1.size + 1000) (by omega))
  have HK := Aside0.mk (impl_FieldKind_at a0 (a1.size + 1000) (by omega))
  have HD := Aside0.mk (impl_PutBcd_at a1 (by omega) (a1.size + 1000) (by omega))
  have HW := Aside0.mk (impl_lenDigits_at a0 (a1.size + 1000) (by omega))
  have HL := Aside0.mk (impl_PutLen_at (a1.size : Int) 2 (by omega) (by omega) (a1.size + 1000) (by omega))
  have hw2 : lenWidth a0 = 2 := by unfold lenWidth; rw [if_neg (by omega)]
  rw [hw2] at HW
  rw [hH] at HL
  rw [h] at HF
  rw [hk] at HK
  rw [hd] at HD
  have HG0 := Aside0.mk hG
  clear hG hH h hk hd hw2
  generalize bcd (evened (bytesOf a1)) = B at HD hl2 ⊢
  go_enter Tryd.func22, Tryd.ntmps22
  go_wp2_with (first | (go_at_call 34; (with_reducible refine (impl_FieldOk.calls _ a0 a1 true _ HF.out).mono ?_); rintro e w1 ⟨rfl, hb1⟩; have HB1 := Aside0.mk hb1; clear hb1) | ((with_reducible refine gate_dst (N := 15) rfl ?_); refine conv_event (src := 9) (dst := 22) (e := 5) (x := .tmp 14) (s := a1) rfl rfl rfl Tryd.underlying9 Tryd.underlying22 Tryd.underlying5 (by unfold maxLen; omega) ?_; intro g c w2 hg hr hb2; have HB2 := Aside0.mk (below_step HB1.out hb2); clear hg hr hb2) | (go_at_call 55; (with_reducible refine (impl_FieldKind.calls _ a0 3 _ HK.out).mono ?_); rintro e w3 ⟨rfl, hb3⟩; have HB3 := Aside0.mk (below_step HB2.out hb3); clear hb3) | (go_at_call 10; (with_reducible refine (impl_PutBcd.calls _ a1 B true _ HD.out).mono ?_); rintro e w4 ⟨v4, rfl, hr4, hb4⟩; obtain ⟨A4, c4, rfl, hle4, hc4⟩ := Kd.R_reads hr4; have HC4 := Aside0.mk hc4; have HB4 := Aside0.mk (below_step HB3.out hb4); clear hr4 hb4 hle4 hc4) | (go_at_call 56; (with_reducible refine (impl_lenDigits.calls _ a0 2 _ HW.out).mono ?_); rintro e w5 ⟨rfl, hb5⟩; have HC5 := Aside0.mk (Kd.C_below HC4.out hb5); have HB5 := Aside0.mk (below_step HB4.out hb5); clear hb5) | (go_at_call 13; (with_reducible refine (impl_PutLen.calls _ (a1.size : Int) 2 H b _ (GLW_below HG0.out HB5.out) HL.out).mono ?_); rintro e w6 ⟨v6, rfl, hr6, hb6⟩; have HC6 := Aside0.mk (Kd.C_below HC5.out hb6); have HR6 := Aside0.mk (Kd.R_lower hr6 HB5.out.size); have HB6 := Aside0.mk (below_step HB5.out hb6); clear hr6 hb6) | ((with_reducible refine gate_builtin (b := .append) (xs := #[.tmp 44, .tmp 45]) rfl ?_); at_builtin; refine Kd.R_append_row (w0 := w) (Value.int .u8) (0 : Int) (h1 := fun _ => rfl) w.heap.size rfl (.tmp 44) (.tmp 45) 22 5 (.int .u8 0) 1 rfl Tryd.underlying22 iput_info rfl (by decide) v6 H B A4 B.length c4 (fun _ => True) rfl rfl (fun _ _ => trivial) HR6.out HC6.out HB6.out HB6.out.size (by omega) ?_; intro v7 w7 hr7 hb7 hg7 hat7; have HR7 := Aside0.mk (RowB_of_R hr7); have HB7 := Aside0.mk hb7; clear hr7 hb7 hg7 hat7))
  go_ret2
  exact ⟨_, rfl, HR7.out, HB7.out⟩
set_option maxHeartbeats 8000000 in
set_option maxRecDepth 100000 in
theorem iput_textVar (a0 k0 W0 : Int) (a1 : ByteArray) (w : World) (hG : GLW w) (hs : a1.size ≤ 100) (h : fieldOk a0 (bytesOf a1) = true) (hk : kindOf a0 = k0) (hk2 : k0 = 4 ∨ k0 = 5) (hW : lenWidth a0 = W0) (H : List Int) (b : Bool) (hH : putLen (a1.size : Int) W0 = (H, b)) (hl : H.length ≤ 100) :
    Calls Tryd.prog 22 #[.int .i64 a0, .string a1] w fun e w' => ∃ v, e = .returned (.tuple #[v, .bool true]) ∧ RowB 5 w' w.heap.size v (H ++ bytesOf a1) ∧ Below w.heap.size w w' := by
  have HF := Aside0.mk (impl_FieldOk_at a0 a1 (by omega) (a1.size + 1000) (by omega))
  have HK := Aside0.mk (impl_FieldKind_at a0 (a1.size + 1000) (by omega))
  have HW := Aside0.mk (impl_lenDigits_at a0 (a1.size + 1000) (by omega))
  have HL := Aside0.mk (impl_PutLen_at (a1.size : Int) W0 (by omega) (by omega) (a1.size + 1000) (by omega))
  have hlen := bytesOf_length a1
  rw [hW] at HW
  rw [hH] at HL
  rw [h] at HF
  rw [hk] at HK
  have HG0 := Aside0.mk hG
  clear hG hH h hk hW
  generalize hB : bytesOf a1 = B at hlen ⊢
  rcases hk2 with rfl | rfl
  all_goals
    go_enter Tryd.func22, Tryd.ntmps22
    go_wp2_with (first | (go_at_call 34; (with_reducible refine (impl_FieldOk.calls _ a0 a1 true _ HF.out).mono ?_); rintro e w1 ⟨rfl, hb1⟩; have HB1 := Aside0.mk hb1; clear hb1) | ((with_reducible refine gate_dst (N := 15) rfl ?_); refine conv_event (src := 9) (dst := 22) (e := 5) (x := .tmp 14) (s := a1) rfl rfl rfl Tryd.underlying9 Tryd.underlying22 Tryd.underlying5 (by unfold maxLen; omega) ?_; intro g c w2 hg hr hb2; have HC2 := Aside0.mk (RB_C hr); have HB2 := Aside0.mk (below_step HB1.out hb2); clear hg hr hb2; rw [hB] at HC2) | (go_at_call 55; (with_reducible refine (impl_FieldKind.calls _ a0 _ _ HK.out).mono ?_); rintro e w3 ⟨rfl, hb3⟩; have HC3 := Aside0.mk (Kd.C_below HC2.out hb3); have HB3 := Aside0.mk (below_step HB2.out hb3); clear hb3) | (go_at_call 56; (with_reducible refine (impl_lenDigits.calls _ a0 W0 _ HW.out).mono ?_); rintro e w5 ⟨rfl, hb5⟩; have HC5 := Aside0.mk (Kd.C_below HC3.out hb5); have HB5 := Aside0.mk (below_step HB3.out hb5); clear hb5) | (go_at_call 13; (with_reducible refine (impl_PutLen.calls _ (a1.size : Int) W0 H b _ (GLW_below HG0.out HB5.out) HL.out).mono ?_); rintro e w6 ⟨v6, rfl, hr6, hb6⟩; have HC6 := Aside0.mk (Kd.C_below HC5.out hb6); have HR6 := Aside0.mk (Kd.R_lower hr6 HB5.out.size); have HB6 := Aside0.mk (below_step HB5.out hb6); clear hr6 hb6) | ((with_reducible refine gate_builtin (b := .append) (xs := #[.tmp 44, .tmp 45]) rfl ?_); at_builtin; refine Kd.R_append_row (w0 := w) (Value.int .u8) (0 : Int) (h1 := fun _ => rfl) w.heap.size rfl (.tmp 44) (.tmp 45) 22 5 (.int .u8 0) 1 rfl Tryd.underlying22 iput_info rfl (by decide) v6 H B _ _ _ (fun _ => True) rfl rfl (fun _ _ => trivial) HR6.out (by rw [← hlen]; exact HC6.out) HB6.out HB6.out.size (by omega) ?_; intro v7 w7 hr7 hb7 hg7 hat7; have HR7 := Aside0.mk (RowB_of_R hr7); have HB7 := Aside0.mk hb7; clear hr7 hb7 hg7 hat7))
    go_ret2
    exact ⟨_, rfl, HR7.out, HB7.out⟩
theorem impl_PutField.strong (a0 : Int) (a1 : ByteArray) (w : World) (hG : GLW w) (hs : a1.size ≤ 140737488351232) :
    Calls Tryd.prog 22 #[.int .i64 a0, .string a1] w fun e w' => ∃ v, e = .returned (.tuple #[v, .bool (putField a0 (bytesOf a1)).2]) ∧ RowB 5 w' w.heap.size v (putField a0 (bytesOf a1)).1 ∧ Below w.heap.size w w' := by
  cases h : fieldOk a0 (bytesOf a1) with
  | false =>
    have e : putField a0 (bytesOf a1) = ([], false) := by unfold putField; rw [h]; rfl
    rw [e]
    exact iput_no a0 a1 w hs h
  | true =>
    have hl := fieldOk_len a0 _ h
    rw [bytesOf_length] at hl
    have hz := sizeOf_range a0
    have kr := kind_range a0
    have e : putField a0 (bytesOf a1) = (pfHead a0 a1.size ++ pfBody a0 (bytesOf a1), true) := by unfold putField; rw [if_pos h, bytesOf_length]
    rw [e]
    have hp := putLen_short (a1.size : Int) (lenWidth a0)
    by_cases hd : inDigits a0 = true
    · obtain ⟨d1, d2, d3⟩ := fieldOk_digits a0 _ h hd
      have hbcd := putBcd_digits _ d1 d2 d3
      have hbl := bcd_length _ _ (evened_length (bytesOf a1))
      rw [bytesOf_length] at d3
      rw [bytesOf_length] at hbl
      have eb : pfBody a0 (bytesOf a1) = bcd (evened (bytesOf a1)) := by unfold pfBody; rw [if_pos hd]
      rw [eb]
      rcases of_decide_eq_true hd with k | k
      · have eh : pfHead a0 a1.size = [] := by unfold pfHead prefixed; rw [if_neg (by simp [k])]
        rw [eh, List.nil_append]
        exact iput_num a0 a1 w d3 h k hbcd
      · have ew : lenWidth a0 = 2 := by unfold lenWidth; rw [if_neg (by omega)]
        have eh : pfHead a0 a1.size = (putLen (a1.size : Int) 2).1 := by unfold pfHead prefixed; rw [if_pos (by simp [k]), ew]
        rw [eh]
        rw [ew] at hp
        exact iput_numVar a0 a1 w hG d3 h k hbcd _ _ rfl (by omega) (by omega)
    · have hd' := of_decide_eq_false (by simpa using hd : inDigits a0 = false)
      have eb : pfBody a0 (bytesOf a1) = bytesOf a1 := by unfold pfBody; rw [if_neg hd]
      rw [eb]
      by_cases k2 : kindOf a0 = 2
      · have eh : pfHead a0 a1.size = [] := by unfold pfHead prefixed; rw [if_neg (by simp [k2])]
        rw [eh, List.nil_append]
        exact iput_text a0 a1 w (by omega) h k2
      · have k0 : ¬ kindOf a0 = 0 := fieldOk_kind a0 _ h
        have eh : pfHead a0 a1.size = (putLen (a1.size : Int) (lenWidth a0)).1 := by unfold pfHead prefixed; rw [if_pos (by simp; omega)]
        rw [eh]
        exact iput_textVar a0 _ _ a1 w hG (by omega) h rfl (by omega) rfl _ _ rfl (by omega)
theorem impl_PutField.calls (a0 : Int) (a1 : ByteArray) (r1 : List Int) (r2 : Bool) (w : World) (hG : GLW w) (h : impl_PutField.f a0 a1 = some (r1, r2)) :
    Calls Tryd.prog 22 #[.int .i64 a0, .string a1] w fun e w' => ∃ v0_ : Value, e = .returned (.tuple #[v0_, .bool r2]) ∧ Kd.V (Kd.int .u8) 5 w' w.heap.size (fun k_ => w.heap.size ≤ k_) v0_ r1 ∧ Below w.heap.size w w' := by
  unfold impl_PutField.f at h
  by_cases hs : a1.size ≤ 140737488351232
  · rw [if_pos hs] at h
    have e := Option.some.inj h
    refine (impl_PutField.strong a0 a1 w hG hs).mono ?_
    rw [e]
    rintro e w' ⟨v, rfl, hr, hb⟩
    exact ⟨v, rfl, RowB_V hr, hb⟩
  · rw [if_neg hs] at h
    exact absurd h (by simp)
end Go.Proofs.YtfiieppnpmodoaaDoor.Q
end
section
namespace Go.Proofs.YtfiieppnpmodoaaDoor.Q
open Go.RowKit Go.Proofs.YtfiieppnpmodoaaDoorW.PrintWords Go.Proofs.YtfiieppnpmodoaaDoorW.PrintLast Go.Proofs.YtfiieppnpmodoaaDoorW.PrintMore
attribute [local go_sem] max2_int min2_int max_two min_two max_three min_three max_four min_four
set_option linter.unusedVariables false
set_option linter.unusedSimpArgs false
def laws_FnField.f (k : Nat) (l0 : List Int) : Option (Bool) := if (l0.length : Int) > 1048576 then (some true) else ((spec_MakeField.f k l0).bind fun bt617 => ((impl_PutField.f bt617.1 bt617.2).bind fun bt619 => ((some (([9] : List Int) : List Int)).bind fun y623 => (if y623.length + bt619.1.length < 140737488355328 then ((some (y623 ++ bt619.1 : List Int)).bind fun y626 => (if y626.length < 140737488355328 then ((impl_GetField.f k (y626 ++ [7]) 1 bt617.1).bind fun bt632 => (if bt619.2 = true then (if bt632.2.2 = true then (if bt632.1.toList = bt617.2.toList then (if bt632.2.1 = (wrap64 ((bt619.1.length : Int) + 1)) then ((impl_FieldOk.f k bt617.1 bt617.2).bind fun t635 => (if t635 = true then ((impl_FieldFit.f k bt617.1 bt617.2).bind fun t636 => (if t636.toList = bt617.2.toList then ((impl_FieldNos.f k).bind fun t637 => ((laws_has.f k t637 bt617.1).bind fun t640 => (some t640))) else (some false))) else (some false))) else (some false)) else (some false)) else (some false)) else (some false))) else (none))) else (none)))))
set_option maxHeartbeats 8000000 in
set_option maxRecDepth 100000 in
theorem laws_FnField.calls (k : Nat) (A0 : Option Addr) (c0 : Nat) (l0 : List Int) (r : Bool) (w : World) (hr0 : Kd.C (Kd.int .u8) w A0 l0.length l0) (hc0 : l0.length ≤ c0) (hG : GLW w) (hr_ : r = true) (h : laws_FnField.f k l0 = some r) :
  Calls Tryd.prog 6 #[.slice A0 l0.length c0] w fun e w' => e = .returned (.bool r) ∧ Below w.heap.size w w' := by
 have HR0 := Aside0.mk hr0
 have HC0 := Aside0.mk hc0
 clear hr0 hc0
 have HB := Aside0.mk (Below.refl w.heap.size w)
 have HG := Aside0.mk hG
 clear hG
 have H : (if (l0.length : Int) > 1048576 then (some true) else ((spec_MakeField.f k l0).bind fun bt617 => ((impl_PutField.f bt617.1 bt617.2).bind fun bt619 => ((some (([9] : List Int) : List Int)).bind fun y623 => (if y623.length + bt619.1.length < 140737488355328 then ((some (y623 ++ bt619.1 : List Int)).bind fun y626 => (if y626.length < 140737488355328 then ((impl_GetField.f k (y626 ++ [7]) 1 bt617.1).bind fun bt632 => (if bt619.2 = true then (if bt632.2.2 = true then (if bt632.1.toList = bt617.2.toList then (if bt632.2.1 = (wrap64 ((bt619.1.length : Int) + 1)) then ((impl_FieldOk.f k bt617.1 bt617.2).bind fun t635 => (if t635 = true then ((impl_FieldFit.f k bt617.1 bt617.2).bind fun t636 => (if t636.toList = bt617.2.toList then ((impl_FieldNos.f k).bind fun t637 => ((laws_has.f k t637 bt617.1).bind fun t640 => (some t640))) else (some false))) else (some false))) else (some false)) else (some false)) else (some false)) else (some false))) else (none))) else (none)))))) = some r := h
 clear h
 by_cases c2 : (l0.length : Int) > 1048576
 ·rw [if_pos c2] at H
  have c2b0 : decide (1048576 < (l0.length : Int)) = true := decide_eq_true c2
  have c2b1 : decide (1048576 < l0.length) = true := decide_eq_true (by omega)
  clear c2
  obtain rfl := Option.some.inj H
  go_enter Tryd.func6, Tryd.ntmps6
  go_wp2
  go_ret
  exact ⟨by first | rfl | (simp [errW_none, errW_some] <;> rfl) | (simp [*, errW_none, errW_some] <;> rfl), bB⟩
 ·rw [if_neg c2] at H
  have c2b0 : decide (1048576 < (l0.length : Int)) = false := decide_eq_false c2
  have c2b1 : decide (1048576 < l0.length) = false := decide_eq_false (by omega)
  clear c2
  replace H := Option.bind_eq_some_iff.mp H
  obtain ⟨⟨t617, t618⟩, A30, H⟩ := H
  replace H : ((impl_PutField.f t617 t618).bind fun bt619 => ((some (([9] : List Int) : List Int)).bind fun y623 => (if y623.length + bt619.1.length < 140737488355328 then ((some (y623 ++ bt619.1 : List Int)).bind fun y626 => (if y626.length < 140737488355328 then ((impl_GetField.f k (y626 ++ [7]) 1 t617).bind fun bt632 => (if bt619.2 = true then (if bt632.2.2 = true then (if bt632.1.toList = t618.toList then (if bt632.2.1 = (wrap64 ((bt619.1.length : Int) + 1)) then ((impl_FieldOk.f k t617 t618).bind fun t635 => (if t635 = true then ((impl_FieldFit.f k t617 t618).bind fun t636 => (if t636.toList = t618.toList then ((impl_FieldNos.f k).bind fun t637 => ((laws_has.f k t637 t617).bind fun t640 => (some t640))) else (some false))) else (some false))) else (some false)) else (some false)) else (some false)) else (some false))) else (none))) else (none)))) = some r := H
  have A3 := Aside0.mk A30
  clear A30
  replace H := Option.bind_eq_some_iff.mp H
  obtain ⟨⟨t619, t622⟩, A40, H⟩ := H
  replace H : ((some (([9] : List Int) : List Int)).bind fun y623 => (if y623.length + t619.length < 140737488355328 then ((some (y623 ++ t619 : List Int)).bind fun y626 => (if y626.length < 140737488355328 then ((impl_GetField.f k (y626 ++ [7]) 1 t617).bind fun bt632 => (if t622 = true then (if bt632.2.2 = true then (if bt632.1.toList = t618.toList then (if bt632.2.1 = (wrap64 ((t619.length : Int) + 1)) then ((impl_FieldOk.f k t617 t618).bind fun t635 => (if t635 = true then ((impl_FieldFit.f k t617 t618).bind fun t636 => (if t636.toList = t618.toList then ((impl_FieldNos.f k).bind fun t637 => ((laws_has.f k t637 t617).bind fun t640 => (some t640))) else (some false))) else (some false))) else (some false)) else (some false)) else (some false)) else (some false))) else (none))) else (none))) = some r := H
  have A4 := Aside0.mk A40
  clear A40
  obtain ⟨y623, hy623⟩ : ∃ y_ : List Int, y_ = (([9] : List Int)) := ⟨_, rfl⟩
  replace H : (if y623.length + t619.length < 140737488355328 then ((some (y623 ++ t619 : List Int)).bind fun y626 => (if y626.length < 140737488355328 then ((impl_GetField.f k (y626 ++ [7]) 1 t617).bind fun bt632 => (if t622 = true then (if bt632.2.2 = true then (if bt632.1.toList = t618.toList then (if bt632.2.1 = (wrap64 ((t619.length : Int) + 1)) then ((impl_FieldOk.f k t617 t618).bind fun t635 => (if t635 = true then ((impl_FieldFit.f k t617 t618).bind fun t636 => (if t636.toList = t618.toList then ((impl_FieldNos.f k).bind fun t637 => ((laws_has.f k t637 t617).bind fun t640 => (some t640))) else (some false))) else (some false))) else (some false)) else (some false)) else (some false)) else (some false))) else (none))) else (none)) = some r := by first | (rw [hy623]; with_reducible exact H) | (have H2_ := (Option.bind_some _ _).symm.trans H; rw [hy623]; with_reducible exact H2_) | (have H2_ := (Option.bind_some _ _).symm.trans H; with_reducible exact H2_) | with_reducible exact H | (rw [hy623]; exact H) | exact H
  have Ny623 := Aside0.mk hy623
  clear hy623
  by_cases c5 : y623.length + t619.length < 140737488355328
  ·rw [if_pos c5] at H
   have LMc5 := Aside0.mk c5
   clear c5
   obtain ⟨y626, hy626⟩ : ∃ y_ : List Int, y_ = (y623 ++ t619) := ⟨_, rfl⟩
   replace H : (if y626.length < 140737488355328 then ((impl_GetField.f k (y626 ++ [7]) 1 t617).bind fun bt632 => (if t622 = true then (if bt632.2.2 = true then (if bt632.1.toList = t618.toList then (if bt632.2.1 = (wrap64 ((t619.length : Int) + 1)) then ((impl_FieldOk.f k t617 t618).bind fun t635 => (if t635 = true then ((impl_FieldFit.f k t617 t618).bind fun t636 => (if t636.toList = t618.toList then ((impl_FieldNos.f k).bind fun t637 => ((laws_has.f k t637 t617).bind fun t640 => (some t640))) else (some false))) else (some false))) else (some false)) else (some false)) else (some false)) else (some false))) else (none)) = some r := by first | (rw [hy626]; with_reducible exact H) | (have H2_ := (Option.bind_some _ _).symm.trans H; rw [hy626]; with_reducible exact H2_) | (have H2_ := (Option.bind_some _ _).symm.trans H; with_reducible exact H2_) | with_reducible exact H | (rw [hy626]; exact H) | exact H
   have Ny626 := Aside0.mk hy626
   clear hy626
   by_cases c6 : y626.length < 140737488355328
   ·rw [if_pos c6] at H
    have LMc6 := Aside0.mk c6
    clear c6
    obtain ⟨y629, hy629⟩ : ∃ y_ : List Int, y_ = (y626 ++ [7]) := ⟨_, rfl⟩
    replace H : ((impl_GetField.f k y629 1 t617).bind fun bt632 => (if t622 = true then (if bt632.2.2 = true then (if bt632.1.toList = t618.toList then (if bt632.2.1 = (wrap64 ((t619.length : Int) + 1)) then ((impl_FieldOk.f k t617 t618).bind fun t635 => (if t635 = true then ((impl_FieldFit.f k t617 t618).bind fun t636 => (if t636.toList = t618.toList then ((impl_FieldNos.f k).bind fun t637 => ((laws_has.f k t637 t617).bind fun t640 => (some t640))) else (some false))) else (some false))) else (some false)) else (some false)) else (some false)) else (some false))) = some r := by first | (rw [hy629]; with_reducible exact H) | (have H2_ := (Option.bind_some _ _).symm.trans H; rw [hy629]; with_reducible exact H2_) | (have H2_ := (Option.bind_some _ _).symm.trans H; with_reducible exact H2_) | with_reducible exact H | (rw [hy629]; exact H) | exact H
    have Ny629 := Aside0.mk hy629
    clear hy629
    replace H := Option.bind_eq_some_iff.mp H
    obtain ⟨⟨t632, t633, t634⟩, A70, H⟩ := H
    replace H : (if t622 = true then (if t634 = true then (if t632.toList = t618.toList then (if t633 = (wrap64 ((t619.length : Int) + 1)) then ((impl_FieldOk.f k t617 t618).bind fun t635 => (if t635 = true then ((impl_FieldFit.f k t617 t618).bind fun t636 => (if t636.toList = t618.toList then ((impl_FieldNos.f k).bind fun t637 => ((laws_has.f k t637 t617).bind fun t640 => (some t640))) else (some false))) else (some false))) else (some false)) else (some false)) else (some false)) else (some false)) = some r := H
    have A7 := Aside0.mk A70
    clear A70
    by_cases c8 : t622 = true
    ·subst c8
     have H1 : (if t634 = true then (if t632.toList = t618.toList then (if t633 = (wrap64 ((t619.length : Int) + 1)) then ((impl_FieldOk.f k t617 t618).bind fun t635 => (if t635 = true then ((impl_FieldFit.f k t617 t618).bind fun t636 => (if t636.toList = t618.toList then ((impl_FieldNos.f k).bind fun t637 => ((laws_has.f k t637 t617).bind fun t640 => (some t640))) else (some false))) else (some false))) else (some false)) else (some false)) else (some false)) = some r := by rw [if_pos rfl] at H; exact H
     clear H
     have H := H1
     clear H1
     by_cases c9 : t634 = true
     ·subst c9
      have H1 : (if t632.toList = t618.toList then (if t633 = (wrap64 ((t619.length : Int) + 1)) then ((impl_FieldOk.f k t617 t618).bind fun t635 => (if t635 = true then ((impl_FieldFit.f k t617 t618).bind fun t636 => (if t636.toList = t618.toList then ((impl_FieldNos.f k).bind fun t637 => ((laws_has.f k t637 t617).bind fun t640 => (some t640))) else (some false))) else (some false))) else (some false)) else (some false)) = some r := by rw [if_pos rfl] at H; exact H
      clear H
      have H := H1
      clear H1
      by_cases c10 : t632.toList = t618.toList
      ·rw [if_pos c10] at H
       have c10b0 : (t632.toList == t618.toList) = true := beq_iff_eq.mpr c10
       have c10b1 : (t632.toList != t618.toList) = false := bne_eq_false_iff_eq.mpr c10
       clear c10
       by_cases c11 : t633 = (wrap64 ((t619.length : Int) + 1))
       ·rw [if_pos c11] at H
        have c11b0 : (t633 == (wrap64 ((t619.length : Int) + 1))) = true := beq_iff_eq.mpr c11
        have c11b1 : (t633 != (wrap64 ((t619.length : Int) + 1))) = false := bne_eq_false_iff_eq.mpr c11
        clear c11
        replace H := Option.bind_eq_some_iff.mp H
        obtain ⟨t635, A120, H⟩ := H
        replace H : (if t635 = true then ((impl_FieldFit.f k t617 t618).bind fun t636 => (if t636.toList = t618.toList then ((impl_FieldNos.f k).bind fun t637 => ((laws_has.f k t637 t617).bind fun t640 => (some t640))) else (some false))) else (some false)) = some r := H
        have A12 := Aside0.mk A120
        clear A120
        by_cases c13 : t635 = true
        ·subst c13
         have H1 : ((impl_FieldFit.f k t617 t618).bind fun t636 => (if t636.toList = t618.toList then ((impl_FieldNos.f k).bind fun t637 => ((laws_has.f k t637 t617).bind fun t640 => (some t640))) else (some false))) = some r := by rw [if_pos rfl] at H; exact H
         clear H
         have H := H1
         clear H1
         replace H := Option.bind_eq_some_iff.mp H
         obtain ⟨t636, A140, H⟩ := H
         replace H : (if t636.toList = t618.toList then ((impl_FieldNos.f k).bind fun t637 => ((laws_has.f k t637 t617).bind fun t640 => (some t640))) else (some false)) = some r := H
         have A14 := Aside0.mk A140
         clear A140
         by_cases c15 : t636.toList = t618.toList
         ·rw [if_pos c15] at H
          have c15b0 : (t636.toList == t618.toList) = true := beq_iff_eq.mpr c15
          have c15b1 : (t636.toList != t618.toList) = false := bne_eq_false_iff_eq.mpr c15
          clear c15
          replace H := Option.bind_eq_some_iff.mp H
          obtain ⟨t637, A160, H⟩ := H
          replace H : ((laws_has.f k t637 t617).bind fun t640 => (some t640)) = some r := H
          have A16 := Aside0.mk A160
          clear A160
          replace H := Option.bind_eq_some_iff.mp H
          obtain ⟨t640, A170, H⟩ := H
          replace H : (some t640) = some r := H
          have A17 := Aside0.mk A170
          clear A170
          obtain rfl := Option.some.inj H
          go_enter Tryd.func6, Tryd.ntmps6
          go_wp2_with (first | ((with_reducible refine gate_callee (f := 32) rfl ?_); refine goesM_ (some 15) rfl rfl Tryd.func32 (by kernel_rfl) rfl #[.slice A0 l0.length c0] rfl ?_; (with_reducible refine (spec_MakeField.calls k _ _ l0 t617 t618 _ ?side1 ?side2 A3.out).mono ?_); (case side1 => repeat (first | exact HR0.out | (with_reducible refine Kd.C_alloc ?_ _) | (with_reducible refine Kd.C_drewN ?_ _) | (with_reducible refine Kd.C_drew ?_))); (case side2 => exact HC0.out); rintro e w18 ⟨rfl, hb⟩; refine ⟨_, rfl, ?_⟩; have n0_ := Aside0.mk (below_step bB hb); clear HB; have HB := n0_; clear n0_; (try clear hb); (try clear hb2); (try clear hk); (try clear hi)) | ((with_reducible refine gate_callee (f := 22) rfl ?_); refine goesM_ (some 21) rfl rfl Tryd.func22 (by kernel_rfl) rfl #[.int .i64 t617, .string t618] rfl ?_; (with_reducible refine (impl_PutField.calls t617 t618 t619 true _ ?side1 A4.out).mono ?_); (case side1 => exact GLW_below HG.out bB); rintro e w19 ⟨v620, rfl, ho0, hb⟩; refine ⟨_, rfl, ?_⟩; have n0_ := Aside0.mk (Kd.V_lower (Kd.V_mono (ok' := fun k_ => True) ho0 (fun k_ hk_ => trivial)) (below_size bB)); have n1_ := Aside0.mk (below_step bB hb); clear HB; have HO621 := n0_; have HB := n1_; clear n0_ n1_; (try clear hb); (try clear hb2); (try clear hk); (try clear hi); (try clear ho0)) | ((with_reducible refine gate_dst (N := 25) rfl ?_); (try (refine gate_guard (by rfl) ?_; dsimp only)); refine Kd.R_lit (Kd.int .u8) _ 5 ?hg (N := 25) ?hd (xs := ([9] : List Int)) (inner := [.int .u8 9]) (ok := fun _ => True) (okp := fun _ => True) ?hr ?hp (fun _ hk => hk) trivial (Below.refl _ _) (Nat.le_refl _) (by simp) ?_; (case hd => rfl); (case hg => rfl); (case hr => first | (go_simp; done) | (go_simp; rfl)); (case hp => exact (Reps.one (show Kd.M (Kd.int .u8) _ _ _ 9 [.int .u8 9] from rfl) (Reps.none _ _))); intro v624 w20 ho21 hb hg_ hnew_; clear hg_ hnew_; (first | rw [← Ny623.out] at ho21 | (simp only [Int.reduceToNat] at ho21; rw [← Ny623.out] at ho21)); have n0_ := Aside0.mk (Kd.V_elder' (by (with_reducible repeat (first | apply Kd.V_alloc | apply Kd.V_drewN | apply Kd.V_drew)); exact HO621.out) (Kd.R_base ho21) hb); have n1_ := Aside0.mk (Kd.R_lower ho21 (below_size bB)); have n2_ := Aside0.mk (below_step bB hb); clear HO621; clear HB; have HO621 := n0_; have HO625 := n1_; have HB := n2_; clear n0_ n1_ n2_; clear hb ho21; obtain ⟨Ao23, co23, eo23⟩ := Kd.V_slice HO621.out; subst eo23) | ((with_reducible refine gate_builtin (b := .append) (xs := #[.tmp 25, .tmp 26]) rfl ?_); (try (refine gate_guard (by rfl) ?_; dsimp only)); at_builtin; refine Kd.R_append_rows (Kd.int .u8) (w0 := w) w.heap.size rfl (.tmp 25) (.tmp 26) 22 5 (.int .u8 0) 1 rfl Tryd.underlying22 info5 rfl (by decide) (by omega) v624 y623 t619 _ _ _ (fun _ => True) (fun _ => False) rfl rfl ?aO ?aR (fun _ _ h => h) (fun _ h => h.elim) ?aF ?aB ?aS ?aL ?_; (case aR => repeat (first | exact (Kd.V_reads' HO621.out).2.2 | (with_reducible refine Kd.C_alloc ?_ _) | (with_reducible refine Kd.C_drewN ?_ _) | (with_reducible refine Kd.C_drew ?_))); (case aB => exact bB); (case aF => exact (fun _ _ => trivial)); (case aO => exact (rA HO625.out)); (case aS => exact (below_size bB)); (case aL => have := LMc5.out; omega); intro v627 w22 ho hb hg hat; rw [← Ny626.out] at ho; have n0_ := Aside0.mk (Kd.V_afterv (ok := (fun _ => True)) (by (with_reducible repeat (first | apply Kd.V_alloc | apply Kd.V_drewN | apply Kd.V_drew)); exact HO621.out) hg hat); have n1_ := Aside0.mk (hb); have n2_ := Aside0.mk (ho); clear HO621; clear HB; clear HO625; have HO621 := n0_; have HB := n1_; have HO628 := n2_; clear n0_ n1_ n2_; clear ho hb hg hat) | ((with_reducible refine gate_builtin (b := .append) (xs := #[.tmp 27, .tmp 28]) rfl ?_); (try (refine gate_guard (by rfl) ?_; dsimp only)); at_builtin; refine Kd.R_append (Kd.int .u8) (w0 := w) w.heap.size rfl (.tmp 27) (.tmp 28) 22 5 (.int .u8 0) 1 rfl Tryd.underlying22 info5 rfl (by decide) (by omega) v627 y626 7 [.int .u8 7] (fun _ => True) (fun _ => False) rfl rfl ?aP (fun _ hk => hk.elim) ?aF ?aO ?aB ?aS ?aL ?_; (case aP => exact rfl); (case aB => exact bB); (case aF => exact (fun _ _ => trivial)); (case aO => exact (rA HO628.out)); (case aS => exact (below_size bB)); (case aL => have := LMc6.out; omega); intro v630 w24 ho hb hg hat; rw [← Ny629.out] at ho; have n0_ := Aside0.mk (Kd.V_afterv (ok := (fun _ => True)) (by (with_reducible repeat (first | apply Kd.V_alloc | apply Kd.V_drewN | apply Kd.V_drew)); exact HO621.out) hg hat); have n1_ := Aside0.mk (hb); have n2_ := Aside0.mk (ho); clear HO621; clear HB; clear HO628; have HO621 := n0_; have HB := n1_; have HO631 := n2_; clear n0_ n1_ n2_; clear ho hb hg hat; obtain ⟨Ao25, co25, eo25⟩ := Kd.R_slice HO631.out; subst eo25) | ((with_reducible refine gate_callee (f := 33) rfl ?_); refine goesM_ (some 31) rfl rfl Tryd.func33 (by kernel_rfl) rfl #[.slice Ao25 y629.length co25, .int .i64 1, .int .i64 t617] rfl ?_; (with_reducible refine (impl_GetField.calls k _ _ y629 1 t617 t632 t633 true _ ?side1 ?side2 ?side3 A7.out).mono ?_); (case side1 => repeat (first | exact (Kd.R_reads' HO631.out).2.2 | (with_reducible refine Kd.C_alloc ?_ _) | (with_reducible refine Kd.C_drewN ?_ _) | (with_reducible refine Kd.C_drew ?_))); (case side2 => exact (Kd.R_reads' HO631.out).2.1); (case side3 => exact GLW_below HG.out bB); rintro e w26 ⟨rfl, hb⟩; refine ⟨_, rfl, ?_⟩; have n0_ := Aside0.mk (Kd.V_below (by (with_reducible repeat (first | apply Kd.V_alloc | apply Kd.V_drewN | apply Kd.V_drew)); exact HO621.out) hb); have n1_ := Aside0.mk (Kd.R_below (rA HO631.out) hb); have n2_ := Aside0.mk (below_step bB hb); clear HO621; clear HO631; clear HB; have HO621 := n0_; have HO631 := n1_; have HB := n2_; clear n0_ n1_ n2_; (try clear hb); (try clear hb2); (try clear hk); (try clear hi)) | (go_at_call 34; (with_reducible refine (impl_FieldOk.calls k t617 t618 true _ A12.out).mono ?_); rintro e w27 ⟨rfl, hb⟩; have n0_ := Aside0.mk (Kd.V_below (by (with_reducible repeat (first | apply Kd.V_alloc | apply Kd.V_drewN | apply Kd.V_drew)); exact HO621.out) hb); have n1_ := Aside0.mk (Kd.R_below (rA HO631.out) hb); have n2_ := Aside0.mk (below_step bB hb); clear HO621; clear HO631; clear HB; have HO621 := n0_; have HO631 := n1_; have HB := n2_; clear n0_ n1_ n2_; (try clear hb); (try clear hb2); (try clear hk); (try clear hi)) | (go_at_call 35; (with_reducible refine (impl_FieldFit.calls k t617 t618 t636 _ A14.out).mono ?_); rintro e w28 ⟨rfl, hb⟩; have n0_ := Aside0.mk (Kd.V_below (by (with_reducible repeat (first | apply Kd.V_alloc | apply Kd.V_drewN | apply Kd.V_drew)); exact HO621.out) hb); have n1_ := Aside0.mk (Kd.R_below (rA HO631.out) hb); have n2_ := Aside0.mk (below_step bB hb); clear HO621; clear HO631; clear HB; have HO621 := n0_; have HO631 := n1_; have HB := n2_; clear n0_ n1_ n2_; (try clear hb); (try clear hb2); (try clear hk); (try clear hi)) | (go_at_call 36; (with_reducible refine (impl_FieldNos.calls k  t637 _ A16.out).mono ?_); rintro e w29 ⟨v638, rfl, ho0, hb⟩; have n0_ := Aside0.mk (Kd.V_elder' (by (with_reducible repeat (first | apply Kd.V_alloc | apply Kd.V_drewN | apply Kd.V_drew)); exact HO621.out) (Kd.R_base ho0) hb); have n1_ := Aside0.mk (Kd.R_below (rA HO631.out) hb); have n2_ := Aside0.mk (Kd.R_lower ho0 (below_size bB)); have n3_ := Aside0.mk (below_step bB hb); clear HO621; clear HO631; clear HB; have HO621 := n0_; have HO631 := n1_; have HO639 := n2_; have HB := n3_; clear n0_ n1_ n2_ n3_; (try clear hb); (try clear hb2); (try clear hk); (try clear hi); (try clear ho0); obtain ⟨Ao30, co30, eo30⟩ := Kd.R_slice HO639.out; subst eo30) | (go_at_call 19; (with_reducible refine (laws_has.calls k _ _ t637 t617 t640 _ ?side1 ?side2 A17.out).mono ?_); (case side1 => repeat (first | exact (Kd.R_reads' HO639.out).2.2 | (with_reducible refine Kd.C_alloc ?_ _) | (with_reducible refine Kd.C_drewN ?_ _) | (with_reducible refine Kd.C_drew ?_))); (case side2 => exact (Kd.R_reads' HO639.out).2.1); rintro e w' ⟨rfl, ⟨nd, rfl⟩⟩))
          go_ret
          exact ⟨by first | rfl | (simp [errW_none, errW_some] <;> rfl) | (simp [*, errW_none, errW_some] <;> rfl), bB⟩
         ·rw [if_neg c15] at H
          have c15b0 : (t636.toList == t618.toList) = false := beq_eq_false_iff_ne.mpr c15
          have c15b1 : (t636.toList != t618.toList) = true := bne_iff_ne.mpr c15
          obtain rfl := Option.some.inj H
          exact absurd hr_ (by simp)
        ·replace c13 := Bool.eq_false_iff.mpr c13
         subst c13
         have H1 : (some false) = some r := by rw [if_neg (show ¬ (false = true) by decide)] at H; exact H
         clear H
         have H := H1
         clear H1
         obtain rfl := Option.some.inj H
         exact absurd hr_ (by simp)
       ·rw [if_neg c11] at H
        have c11b0 : (t633 == (wrap64 ((t619.length : Int) + 1))) = false := beq_eq_false_iff_ne.mpr c11
        have c11b1 : (t633 != (wrap64 ((t619.length : Int) + 1))) = true := bne_iff_ne.mpr c11
        obtain rfl := Option.some.inj H
        exact absurd hr_ (by simp)
      ·rw [if_neg c10] at H
       have c10b0 : (t632.toList == t618.toList) = false := beq_eq_false_iff_ne.mpr c10
       have c10b1 : (t632.toList != t618.toList) = true := bne_iff_ne.mpr c10
       obtain rfl := Option.some.inj H
       exact absurd hr_ (by simp)
     ·replace c9 := Bool.eq_false_iff.mpr c9
      subst c9
      have H1 : (some false) = some r := by rw [if_neg (show ¬ (false = true) by decide)] at H; exact H
      clear H
      have H := H1
      clear H1
      obtain rfl := Option.some.inj H
      exact absurd hr_ (by simp)
    ·replace c8 := Bool.eq_false_iff.mpr c8
     subst c8
     have H1 : (some false) = some r := by rw [if_neg (show ¬ (false = true) by decide)] at H; exact H
     clear H
     have H := H1
     clear H1
     obtain rfl := Option.some.inj H
     exact absurd hr_ (by simp)
   ·rw [if_neg c6] at H
    exact absurd H (by simp)
  ·rw [if_neg c5] at H
   exact absurd H (by simp)
end Go.Proofs.YtfiieppnpmodoaaDoor.Q
end
section
namespace Go.Proofs.YtfiieppnpmodoaaDoor.Q
open Go.RowKit Go.Proofs.YtfiieppnpmodoaaDoorW.PrintWords Go.Proofs.YtfiieppnpmodoaaDoorW.PrintLast Go.Proofs.YtfiieppnpmodoaaDoorW.PrintMore
set_option linter.unusedVariables false
set_option linter.unusedSimpArgs false
def narrow (l : List Int) : Int × Bool := if digs l = true ∧ l.length ≤ 18 then ((natFrom 0 l : Nat), true) else (0, false)
theorem impl_Narrow_at (s : ByteArray) (hs : s.size ≤ 140737488351232) : impl_Narrow.f s = some (narrow (bytesOf s)) := by
  unfold impl_Narrow.f narrow
  rw [if_pos hs, bytesOf_length]
def ubcd : List Int → List Int
  | [] => []
  | c :: t => (48 + c / 16) :: (48 + c % 16) :: ubcd t
theorem ubcd_append (a b : List Int) : ubcd (a ++ b) = ubcd a ++ ubcd b := by
  induction a with
  | nil => rfl
  | cons c t ih => simp [ubcd, ih]
theorem ubcd_length (a : List Int) : (ubcd a).length = 2 * a.length := by
  induction a with
  | nil => rfl
  | cons c t ih => simp [ubcd, ih]; omega
theorem ubcd_range (a : List Int) (h : ∀ c ∈ a, isByte c) : ∀ c ∈ ubcd a, isByte c := by
  induction a with
  | nil => intro c hc; simp [ubcd] at hc
  | cons x t ih =>
    intro c hc
    simp only [ubcd, List.mem_cons] at hc
    have hx := h x (by simp)
    unfold isByte at hx
    rcases hc with rfl | rfl | hc
    · unfold isByte; omega
    · unfold isByte; omega
    · exact ih (fun c hc => h c (by simp [hc])) c hc
theorem take_rd (l : List Int) (n : Nat) (h : n < l.length) : l.take (n + 1) = l.take n ++ [rd l (n : Int)] := by
  rw [List.take_succ_eq_append_getElem h, rd_nat l n h]
def cutAt (l : List Int) (a m : Nat) : List Int := (l.drop a).take m
theorem cutAt_take (l : List Int) (a m : Nat) : (l.take (a + m)).drop a = cutAt l a m := by
  unfold cutAt
  rw [List.drop_take]
  congr 1
  omega
theorem cutAt_length (l : List Int) (a m : Nat) (h : a + m ≤ l.length) : (cutAt l a m).length = m := by
  unfold cutAt
  simp
  omega
theorem cutAt_mem (l : List Int) (a m : Nat) : ∀ c ∈ cutAt l a m, c ∈ l := by
  intro c hc
  unfold cutAt at hc
  exact List.mem_of_mem_drop (List.mem_of_mem_take hc)
def isBcd (n : Nat) (u : List Int) : Bool := if n % 2 = 1 then decide (rd u 0 = 48) && digs (u.drop 1) else digs u
def inAt (l : List Int) (a1 n : Int) : Bool := decide (1 ≤ n ∧ n ≤ 38 ∧ 0 ≤ a1 ∧ a1 ≤ (l.length : Int) ∧ (n + 1) / 2 ≤ (l.length : Int) - a1)
def getBcd (l : List Int) (a1 n : Int) : List Int × Int × Bool :=
  if inAt l a1 n && isBcd n.toNat (ubcd (cutAt l a1.toNat ((n + 1) / 2).toNat)) then
    ((ubcd (cutAt l a1.toNat ((n + 1) / 2).toNat)).drop (n.toNat % 2), a1 + (n + 1) / 2, true)
  else ([], 0, false)
def asStr (r : List Int × Int × Bool) : ByteArray × Int × Bool := (strOfNums r.1, r.2.1, r.2.2)
theorem strOfNums_nil : strOfNums [] = (⟨#[]⟩ : ByteArray) := bytesOf_inj (by rw [bytesOf_strOfNums _ (by simp)]; rfl)
theorem asStr_none : asStr ([], 0, false) = ((⟨#[]⟩ : ByteArray), 0, false) := by unfold asStr; rw [strOfNums_nil]
theorem ubcd_digs (n m : Nat) (u : List Int) (hm : m = (n + 1) / 2) (hn : 1 ≤ n) (hu : u.length = 2 * m) : isBcd n u = (digs u && (decide (n % 2 = 0) || decide (rd u 0 = 48))) := by
  unfold isBcd
  by_cases h : n % 2 = 1
  · rw [if_pos h]
    have h0 : decide (n % 2 = 0) = false := decide_eq_false (by omega)
    rw [h0, Bool.false_or]
    have hd := drop_rd u 0 (by omega)
    simp only [List.drop_zero, Nat.zero_add] at hd
    have hp : 0 < (u.drop 1).length := by simp; omega
    by_cases h48 : rd u 0 = 48
    · have e1 : digs u = digs (u.drop 1) := by
        unfold digs
        have e2 : u.all isDig = (u.drop 1).all isDig := by
          have h7 : isDig (rd u ((0 : Nat) : Int)) = true := by simpa [h48] using (by decide : isDig 48 = true)
          have h8 : u.all isDig = (rd u ((0 : Nat) : Int) :: u.drop 1).all isDig := congrArg (fun x => List.all x isDig) hd
          rw [h8, List.all_cons, h7, Bool.true_and]
        have e3 : u.isEmpty = false := by cases u with | nil => simp at hu; omega | cons => rfl
        have e4 : (u.drop 1).isEmpty = false := by
          generalize u.drop 1 = v at hp
          cases v with | nil => simp at hp | cons => rfl
        rw [e2, e3, e4]
      simp [h48, e1]
    · simp [h48]
  · rw [if_neg h]
    have h0 : decide (n % 2 = 0) = true := decide_eq_true (by omega)
    rw [h0]
    simp
theorem impl_piece_at (l : List Int) (a1 m : Int) : impl_piece.f l a1 m = if 0 ≤ a1 ∧ a1 ≤ (l.length : Int) ∧ 0 ≤ m ∧ m ≤ (l.length : Int) - a1 then some (cutAt l a1.toNat m.toNat, true) else some ([], false) := by
  unfold impl_piece.f
  by_cases h : 0 ≤ a1 ∧ a1 ≤ (l.length : Int) ∧ 0 ≤ m ∧ m ≤ (l.length : Int) - a1
  · rw [if_pos h, if_pos h]
    have e : (a1 + m).toNat = a1.toNat + m.toNat := by omega
    rw [e, cutAt_take]
  · rw [if_neg h, if_neg h]
theorem impl_GetBcd_l (l : List Int) (hb : ∀ c ∈ l, isByte c) (hl : l.length ≤ 40) (a1 n : Int) (ok : Bool) (z : List Int) : ∀ (d i k : Nat), i + d = l.length → d < k → ∃ j, k = j + d + 1 ∧ 
    impl_GetBcd.l0 k a1 n z ok (ubcd (l.take i)) l (l.length : Int) (i : Int) = impl_GetBcd.l0 (j + 1) a1 n z ok (ubcd l) l (l.length : Int) (l.length : Int) := by
  intro d
  induction d with
  | zero =>
    intro i k hd hk
    refine ⟨k - 1, by omega, ?_⟩
    have hi : i = l.length := by omega
    subst hi
    have hk' : k - 1 + 1 = k := by omega
    rw [List.take_length, hk']
  | succ d ih =>
    intro i k hd hk
    obtain ⟨k, rfl⟩ : ∃ m, k = m + 1 := ⟨k - 1, by omega⟩
    obtain ⟨j, hj, ih'⟩ := ih (i + 1) k (by omega) (by omega)
    refine ⟨j, by omega, ?_⟩
    rw [← ih', take_rd l i (by omega), ubcd_append]
    have c1 : (i : Int) < (l.length : Int) := by omega
    have c2 : 0 ≤ (i : Int) := by omega
    have e4 : wrap64 ((i : Int) + 1) = ((i + 1 : Nat) : Int) := by unfold wrap64; omega
    obtain ⟨b0, b1⟩ := hb _ (rd_mem l i (by omega))
    have hz : (ubcd (l.take i)).length ≤ 80 := by rw [ubcd_length, List.length_take]; omega
    rw [impl_GetBcd.l0]
    simp only [e4, if_pos c1, if_pos c2, Option.bind_some]
    generalize rd l (i : Int) = b at b0 b1
    have q2 : Go.bits .and .u8 b 15 = b % 16 := u8_and15 b b0 (by omega)
    have q4 : (48 + b / 16) % 256 = 48 + b / 16 := by omega
    have q5 : (48 + b % 16) % 256 = 48 + b % 16 := by omega
    rw [q2, q4, q5]
    have q6 : (ubcd (l.take i)).length + [48 + b / 16, 48 + b % 16].length < 140737488355328 := by
      simp
      omega
    rw [if_pos q6]
    rfl
theorem impl_GetBcd_e (u : List Int) (hr : ∀ c ∈ u, isByte c) (a1 : Int) (n m : Nat) (z v : List Int) (hm : m = (n + 1) / 2) (h1 : 1 ≤ n) (h2 : n ≤ 38) (hz : z.length = m) (hu : u.length = 2 * m) (ha : 0 ≤ a1) (hb : a1 ≤ 140737488351232) (k : Nat) (hk : 50 < k) :
    impl_GetBcd.l0 (k + 1) a1 (n : Int) z true u v (v.length : Int) (v.length : Int) = some (asStr (if isBcd n u = true then (u.drop (n % 2), a1 + (m : Int), true) else ([], 0, false))) := by
  have c1 : ¬ (v.length : Int) < (v.length : Int) := by omega
  have hbs : bytesOf (strOfNums u) = u := bytesOf_strOfNums u hr
  have hsz : (strOfNums u).size = u.length := by rw [size_eq, hbs]
  simp only [impl_GetBcd.l0, if_neg c1, if_true]
  rw [impl_Digits_at _ (by omega) k (by omega), hbs, Option.bind_some, ubcd_digs n m u hm h1 hu]
  by_cases hg : digs u = true
  · have e1 : wrap64 ((u.length : Int) - (n : Int)) = ((n % 2 : Nat) : Int) := by unfold wrap64; omega
    have e2 : wrap64 (a1 + (z.length : Int)) = a1 + (m : Int) := by unfold wrap64; omega
    have e3 : (((n % 2 : Nat) : Int)).toNat = n % 2 := by omega
    have c2 : 0 ≤ ((n % 2 : Nat) : Int) := by omega
    have c3 : ((n % 2 : Nat) : Int) ≤ (u.length : Int) := by omega
    rw [if_pos hg, e1, e2, if_pos c2, if_pos c3, hg, Bool.true_and, e3]
    by_cases ho : n % 2 = 1
    · have c2 : Int.tmod (n : Int) 2 = 1 := by rw [Int.tmod_eq_emod_of_nonneg (by omega)]; omega
      have c3 : 0 < (u.length : Int) := by omega
      have h0 : decide (n % 2 = 0) = false := decide_eq_false (by omega)
      rw [if_pos c2, if_pos c3, h0, Bool.false_or]
      by_cases h48 : rd u 0 = 48
      · rw [if_pos h48, if_pos (decide_eq_true h48)]; rfl
      · rw [if_neg h48, if_neg (by simp [h48]), asStr_none]
    · have c2 : ¬ Int.tmod (n : Int) 2 = 1 := by rw [Int.tmod_eq_emod_of_nonneg (by omega)]; omega
      have h0 : decide (n % 2 = 0) = true := decide_eq_true (by omega)
      rw [if_neg c2, h0, Bool.true_or, if_pos rfl]; rfl
  · rw [if_neg hg]
    have : digs u = false := by simpa using hg
    rw [this, Bool.false_and, if_neg (by simp), asStr_none]
theorem impl_within_at (a b c : Int) : impl_within.f a b c = some (decide (b ≤ a ∧ a ≤ c)) := by
  unfold impl_within.f
  by_cases h : b ≤ a
  · rw [if_pos h]; simp [h]
  · rw [if_neg h]; simp [h]
theorem impl_GetBcd_at (l : List Int) (hl : l.length ≤ 140737488351232) (hb : ∀ c ∈ l, isByte c) (a1 n : Int) (w1 : -9223372036854775808 ≤ a1 ∧ a1 ≤ 9223372036854775807) (w2 : -9223372036854775808 ≤ n ∧ n ≤ 9223372036854775807) (k : Nat) (hk : 200 < k) :
    impl_GetBcd.f k l a1 n = some (asStr (getBcd l a1 n)) := by
  unfold impl_GetBcd.f
  rw [impl_within_at, Option.bind_some]
  by_cases h1 : 1 ≤ n ∧ n ≤ 38
  · rw [if_pos (decide_eq_true h1)]
    have e0 : wrap64 (n + 1) = n + 1 := by unfold wrap64; omega
    have e1 : Int.tdiv (n + 1) 2 = (n + 1) / 2 := Int.tdiv_eq_ediv_of_nonneg (by omega)
    have e2 : wrap64 ((n + 1) / 2) = (n + 1) / 2 := by unfold wrap64; omega
    rw [e0, e1, e2, impl_piece_at]
    by_cases h2 : 0 ≤ a1 ∧ a1 ≤ (l.length : Int) ∧ 0 ≤ (n + 1) / 2 ∧ (n + 1) / 2 ≤ (l.length : Int) - a1
    · rw [if_pos h2, Option.bind_some]
      have hz : (cutAt l a1.toNat ((n + 1) / 2).toNat).length = ((n + 1) / 2).toNat := cutAt_length _ _ _ (by omega)
      have hb' : ∀ c ∈ cutAt l a1.toNat ((n + 1) / 2).toNat, isByte c := fun c hc => hb c (cutAt_mem _ _ _ c hc)
      obtain ⟨j, hj, h⟩ := impl_GetBcd_l (cutAt l a1.toNat ((n + 1) / 2).toNat) hb' (by omega) a1 n true (cutAt l a1.toNat ((n + 1) / 2).toNat) (cutAt l a1.toNat ((n + 1) / 2).toNat).length 0 k (by omega) (by omega)
      have h' : impl_GetBcd.l0 k a1 n (cutAt l a1.toNat ((n + 1) / 2).toNat) true (([] : List Int)) (cutAt l a1.toNat ((n + 1) / 2).toNat) ((cutAt l a1.toNat ((n + 1) / 2).toNat).length : Int) 0 = _ := h
      simp only
      rw [h']
      have en : ((n.toNat : Nat) : Int) = n := by omega
      have h5 := impl_GetBcd_e (ubcd (cutAt l a1.toNat ((n + 1) / 2).toNat)) (ubcd_range _ hb') a1 n.toNat ((n + 1) / 2).toNat (cutAt l a1.toNat ((n + 1) / 2).toNat) (cutAt l a1.toNat ((n + 1) / 2).toNat) (by omega) (by omega) (by omega) hz (by rw [ubcd_length, hz]) h2.1 (by omega) j (by omega)
      rw [en] at h5
      rw [h5]
      unfold getBcd
      have e3 : inAt l a1 n = true := decide_eq_true (by omega)
      have e4 : ((((n + 1) / 2).toNat : Nat) : Int) = (n + 1) / 2 := by omega
      rw [e3, Bool.true_and, e4]
    · rw [if_neg h2, Option.bind_some]
      obtain ⟨k, rfl⟩ : ∃ m, k = m + 1 := ⟨k - 1, by omega⟩
      unfold getBcd
      have e3 : inAt l a1 n = false := decide_eq_false (by omega)
      rw [e3, Bool.false_and, if_neg (by simp), asStr_none]
      simp only
      rw [impl_GetBcd.l0]
      simp
  · rw [if_neg (by simpa using h1)]
    unfold getBcd
    have e3 : inAt l a1 n = false := decide_eq_false (by omega)
    rw [e3, Bool.false_and, if_neg (by simp), asStr_none]
theorem getBcd_ok (l : List Int) (a1 n : Int) (hb : ∀ c ∈ l, isByte c) (h : (getBcd l a1 n).2.2 = true) :
    digs (getBcd l a1 n).1 = true ∧ (getBcd l a1 n).1.length = n.toNat ∧ (∀ c ∈ (getBcd l a1 n).1, isByte c) ∧ (getBcd l a1 n).2.1 = a1 + (n + 1) / 2 ∧ 1 ≤ n ∧ n ≤ 38 ∧ 0 ≤ a1 ∧ a1 + (n + 1) / 2 ≤ (l.length : Int) := by
  unfold getBcd at h ⊢
  by_cases q : (inAt l a1 n && isBcd n.toNat (ubcd (cutAt l a1.toNat ((n + 1) / 2).toNat))) = true
  · rw [if_pos q] at h ⊢
    simp only [Bool.and_eq_true] at q
    obtain ⟨q1, q2⟩ := q
    have q3 := of_decide_eq_true q1
    have hlen : (ubcd (cutAt l a1.toNat ((n + 1) / 2).toNat)).length = 2 * ((n + 1) / 2).toNat := by rw [ubcd_length, cutAt_length _ _ _ (by omega)]
    have hr : ∀ c ∈ ubcd (cutAt l a1.toNat ((n + 1) / 2).toNat), isByte c := ubcd_range _ (fun c hc => hb c (cutAt_mem _ _ _ c hc))
    generalize ubcd (cutAt l a1.toNat ((n + 1) / 2).toNat) = u at q2 hlen hr
    refine ⟨?_, ?_, fun c hc => hr c (List.mem_of_mem_drop hc), rfl, q3.1, q3.2.1, q3.2.2.1, by omega⟩
    · unfold isBcd at q2
      by_cases o : n.toNat % 2 = 1
      · rw [if_pos o] at q2
        simp only [Bool.and_eq_true] at q2
        simp only [o]
        exact q2.2
      · rw [if_neg o] at q2
        have o' : n.toNat % 2 = 0 := by omega
        simp only [o', List.drop_zero]
        exact q2
    · simp only [List.length_drop]
      omega
  · rw [if_neg q] at h
    exact absurd h (by simp)
theorem getBcd_no (l : List Int) (a1 n : Int) (h : (getBcd l a1 n).2.2 = false) : getBcd l a1 n = ([], 0, false) := by
  unfold getBcd at h ⊢
  split
  · rename_i q
    rw [if_pos q] at h
    exact absurd h (by simp)
  · rfl
def getLen (l : List Int) (a1 w : Int) : Int × Int × Bool :=
  if (w = 2 ∨ w = 3) ∧ (getBcd l a1 w).2.2 = true then (((natFrom 0 (getBcd l a1 w).1 : Nat) : Int), (getBcd l a1 w).2.1, true) else (0, 0, false)
theorem impl_GetLen_at (l : List Int) (hl : l.length ≤ 140737488351232) (hb : ∀ c ∈ l, isByte c) (a1 w : Int) (w1 : -9223372036854775808 ≤ a1 ∧ a1 ≤ 9223372036854775807) (k : Nat) (hk : 300 < k) :
    impl_GetLen.f k l a1 w = some (getLen l a1 w) := by
  have hin : impl_within.f w 2 3 = some (decide (w = 2 ∨ w = 3)) := by
    unfold impl_within.f
    by_cases h : 2 ≤ w
    · rw [if_pos h]; congr 1; apply decide_eq_decide.2; omega
    · rw [if_neg h]; congr 1; symm; apply decide_eq_false; omega
  unfold impl_GetLen.f getLen
  rw [hin, Option.bind_some]
  by_cases h2 : w = 2 ∨ w = 3
  · rw [if_pos (decide_eq_true h2), impl_GetBcd_at l hl hb a1 w w1 (by omega) k (by omega), Option.bind_some]
    unfold asStr
    simp only
    cases hr : (getBcd l a1 w).2.2 with
    | true =>
      obtain ⟨p1, p2, p3, _⟩ := getBcd_ok l a1 w hb hr
      have hz : (strOfNums (getBcd l a1 w).1).size ≤ 18 := by rw [strOfNums_size]; omega
      rw [if_pos rfl, if_pos ⟨h2, rfl⟩, impl_Narrow_at _ (by omega), Option.bind_some, bytesOf_strOfNums _ p3]
      unfold narrow
      rw [if_pos ⟨p1, by omega⟩]
    | false => rw [if_neg (by simp), if_neg (by simp)]
  · rw [if_neg (by simpa using h2), if_neg (fun q => h2 q.1)]
theorem impl_FieldSize_at (x : Int) (k : Nat) (hk : 20 ≤ k) : impl_FieldSize.f k x = some (sizeOf_ x) := by
  obtain ⟨y, h⟩ := rowOf_at x k hk
  unfold impl_FieldSize.f
  rw [h]; rfl
def gfHead (l : List Int) (a1 x : Int) : Int × Int × Bool := if prefixed x = true then getLen l a1 (lenWidth x) else (sizeOf_ x, a1, true)
def pieceAt (l : List Int) (a n : Int) : List Int × Int × Bool := if 0 ≤ a ∧ a ≤ (l.length : Int) ∧ 0 ≤ n ∧ n ≤ (l.length : Int) - a then (cutAt l a.toNat n.toNat, a + n, true) else ([], 0, false)
def gfBody (l : List Int) (a n x : Int) : List Int × Int × Bool := if inDigits x = true then getBcd l a n else pieceAt l a n
def gfFin (x : Int) (r : List Int × Int × Bool) : List Int × Int × Bool := if r.2.2 = true ∧ fieldOk x r.1 = true then (r.1, r.2.1, true) else ([], 0, false)
def getField (l : List Int) (a1 x : Int) : List Int × Int × Bool :=
  if (gfHead l a1 x).2.2 = true then gfFin x (gfBody l (gfHead l a1 x).2.1 (gfHead l a1 x).1 x) else ([], 0, false)
theorem natFrom_le : ∀ (l : List Int) (a n : Nat), l.all isDig = true → a < 10 ^ n → natFrom a l < 10 ^ (n + l.length) := by
  intro l
  induction l with
  | nil => intro a n _ h; exact h
  | cons c t ih =>
    intro a n h ha
    simp only [List.all_cons, Bool.and_eq_true] at h
    have hc := dig_range' h.1
    rw [natFrom]
    have := ih (a * 10 + (c - 48).toNat) (n + 1) h.2 (by rw [Nat.pow_succ]; omega)
    rw [List.length_cons, show n + (t.length + 1) = n + 1 + t.length by omega]
    exact this
theorem getLen_ok (l : List Int) (a1 w : Int) (hb : ∀ c ∈ l, isByte c) (h : (getLen l a1 w).2.2 = true) :
    0 ≤ (getLen l a1 w).1 ∧ (getLen l a1 w).1 ≤ 999 ∧ 0 ≤ (getLen l a1 w).2.1 ∧ (getLen l a1 w).2.1 ≤ (l.length : Int) ∧ 0 ≤ a1 := by
  unfold getLen at h ⊢
  by_cases q : (w = 2 ∨ w = 3) ∧ (getBcd l a1 w).2.2 = true
  · rw [if_pos q]
    obtain ⟨p1, p2, p3, p4, p5, p6, p7, p8⟩ := getBcd_ok l a1 w hb q.2
    have hn := natFrom_le (getBcd l a1 w).1 0 0 (digs_and _ p1).1 (by decide)
    rw [p2] at hn
    have h3 : (10 : Nat) ^ (0 + w.toNat) ≤ 1000 := by
      rcases q.1 with rfl | rfl <;> decide
    simp only
    refine ⟨by omega, by omega, by omega, by omega, p7⟩
  · rw [if_neg q] at h
    exact absurd h (by simp)
theorem gfHead_ok (l : List Int) (a1 x : Int) (hb : ∀ c ∈ l, isByte c) (hl : l.length ≤ 140737488351232) (w1 : -9223372036854775808 ≤ a1 ∧ a1 ≤ 9223372036854775807) (h : (gfHead l a1 x).2.2 = true) :
    0 ≤ (gfHead l a1 x).1 ∧ (gfHead l a1 x).1 ≤ 999 ∧ -9223372036854775808 ≤ (gfHead l a1 x).2.1 ∧ (gfHead l a1 x).2.1 ≤ 9223372036854775807 := by
  unfold gfHead at h ⊢
  by_cases q : prefixed x = true
  · rw [if_pos q] at h ⊢
    obtain ⟨p1, p2, p3, p4, _⟩ := getLen_ok l a1 _ hb h
    omega
  · rw [if_neg q]
    have := sizeOf_range x
    simp only
    omega
theorem fin_impl (x : Int) (r : List Int × Int × Bool) (hr : ∀ c ∈ r.1, isByte c) (hz : r.1.length ≤ 140737488351232) (hno : r.2.2 = false → r = ([], 0, false)) (e : Int) (he : r.2.2 = true → e = r.2.1) (k : Nat) (hk : r.1.length + 30 ≤ k) :
    (if r.2.2 = true then (impl_FieldOk.f k x (strOfNums r.1)).bind fun t => (if t = true then some (strOfNums r.1, e, true) else some ((⟨#[]⟩ : ByteArray), 0, false)) else some ((⟨#[]⟩ : ByteArray), 0, false)) = some (asStr (gfFin x r)) := by
  unfold gfFin
  cases hr2 : r.2.2 with
  | true =>
    rw [if_pos rfl, impl_FieldOk_at x _ (by rw [strOfNums_size]; exact hz) k (by rw [strOfNums_size]; omega), Option.bind_some, bytesOf_strOfNums _ hr]
    cases hf : fieldOk x r.1 with
    | true => rw [if_pos rfl, if_pos ⟨rfl, rfl⟩, he hr2]; rfl
    | false => rw [if_neg (by simp), if_neg (by simp), asStr_none]
  | false => rw [if_neg (by simp), if_neg (by simp), asStr_none]
theorem getBcd_bytes (l : List Int) (a n : Int) (hb : ∀ c ∈ l, isByte c) : ∀ c ∈ (getBcd l a n).1, isByte c := by
  cases h : (getBcd l a n).2.2 with
  | true => exact (getBcd_ok l a n hb h).2.2.1
  | false => rw [getBcd_no l a n h]; simp
theorem getBcd_size (l : List Int) (a n : Int) (hb : ∀ c ∈ l, isByte c) : (getBcd l a n).1.length ≤ 38 := by
  cases h : (getBcd l a n).2.2 with
  | true =>
    obtain ⟨_, p2, _, _, _, p6, _⟩ := getBcd_ok l a n hb h
    omega
  | false => rw [getBcd_no l a n h]; simp
theorem pieceAt_facts (l : List Int) (a n : Int) (hb : ∀ c ∈ l, isByte c) :
    (∀ c ∈ (pieceAt l a n).1, isByte c) ∧ (pieceAt l a n).1.length ≤ n.toNat ∧ ((pieceAt l a n).2.2 = false → pieceAt l a n = ([], 0, false)) ∧ ((pieceAt l a n).2.2 = true → (pieceAt l a n).1.length = n.toNat ∧ (pieceAt l a n).2.1 = a + n) := by
  unfold pieceAt
  by_cases q : 0 ≤ a ∧ a ≤ (l.length : Int) ∧ 0 ≤ n ∧ n ≤ (l.length : Int) - a
  · rw [if_pos q]
    have := cutAt_length l a.toNat n.toNat (by omega)
    exact ⟨fun c hc => hb c (cutAt_mem _ _ _ c hc), by simp only; omega, fun h => absurd h (by simp), fun _ => ⟨this, rfl⟩⟩
  · rw [if_neg q]
    exact ⟨by simp, by simp, fun _ => rfl, fun h => absurd h (by simp)⟩
theorem impl_GetField_at (l : List Int) (hl : l.length ≤ 140737488351232) (hb : ∀ c ∈ l, isByte c) (a1 x : Int) (w1 : -9223372036854775808 ≤ a1 ∧ a1 ≤ 9223372036854775807) (k : Nat) (hk : 1100 < k) :
    impl_GetField.f k l a1 x = some (asStr (getField l a1 x)) := by
  obtain ⟨k, rfl⟩ : ∃ m, k = m + 3 := ⟨k - 3, by omega⟩
  have h2 : ∀ (a n : Int) (h : Bool), -9223372036854775808 ≤ a ∧ a ≤ 9223372036854775807 → 0 ≤ n ∧ n ≤ 999 → h = inDigits x → impl_GetField.j2 (k + 1) l a x n h = some (asStr (gfFin x (gfBody l a n x))) := by
    intro a n h ha hn e
    subst e
    rw [impl_GetField.j2]
    unfold gfBody
    by_cases q : inDigits x = true
    · rw [if_pos q, if_pos q, impl_GetBcd_at l hl hb a n ha (by omega) k (by omega), Option.bind_some]
      exact fin_impl x (getBcd l a n) (getBcd_bytes l a n hb) (by have := getBcd_size l a n hb; omega) (getBcd_no l a n) _ (fun _ => rfl) k (by have := getBcd_size l a n hb; omega)
    · rw [if_neg q, if_neg q, impl_piece_at]
      obtain ⟨f1, f2, f3, f4⟩ := pieceAt_facts l a n hb
      have h5 := fin_impl x (pieceAt l a n) f1 (by omega) f3 (wrap64 (a + n)) (fun h => by
        rw [(f4 h).2]
        unfold pieceAt at h
        split at h
        · rename_i z
          unfold wrap64
          omega
        · exact absurd h (by simp)) k (by omega)
      rw [← h5]
      unfold pieceAt
      split <;> rfl
  have h1 : ∀ (a n : Int) (ok : Bool), (ok = true → (-9223372036854775808 ≤ a ∧ a ≤ 9223372036854775807) ∧ (0 ≤ n ∧ n ≤ 999)) → impl_GetField.j1 (k + 2) l a x n (kindOf x) ok = some (asStr (if ok = true then gfFin x (gfBody l a n x) else ([], 0, false))) := by
    intro a n ok h
    rw [impl_GetField.j1]
    cases ok with
    | true =>
      obtain ⟨ha, hn⟩ := h rfl
      rw [if_pos rfl, if_pos rfl]
      by_cases q : kindOf x = 1
      · rw [if_pos q]; exact h2 a n true ha hn (by unfold inDigits; simp [q])
      · rw [if_neg q]
        refine h2 a n _ ha hn ?_
        unfold inDigits
        by_cases q3 : kindOf x = 3 <;> simp [q, q3]
    | false => rw [if_neg (by simp), if_neg (by simp), asStr_none]
  have hh := gfHead_ok l a1 x hb hl w1
  have h0 : ∀ h : Bool, h = prefixed x → impl_GetField.j0 (k + 3) l a1 x (sizeOf_ x) (kindOf x) true h = some (asStr (getField l a1 x)) := by
    intro h e
    subst e
    rw [impl_GetField.j0]
    unfold getField
    unfold gfHead at hh ⊢
    by_cases q : prefixed x = true
    · rw [if_pos q, impl_lenDigits_at x (k + 2) (by omega), Option.bind_some, impl_GetLen_at l hl hb a1 _ w1 (k + 2) (by omega), Option.bind_some, if_pos q]
      rw [if_pos q] at hh
      exact h1 _ _ _ (fun z => by have := hh z; omega)
    · rw [if_neg q, if_neg q]
      rw [if_neg q] at hh
      exact h1 a1 (sizeOf_ x) true (fun z => by have := hh rfl; simp only at this; omega)
  unfold impl_GetField.f
  rw [impl_FieldSize_at x _ (by omega), Option.bind_some, impl_FieldKind_at x _ (by omega), Option.bind_some]
  by_cases q3 : kindOf x = 3
  · rw [if_pos q3]; exact h0 true (by unfold prefixed; simp [q3])
  rw [if_neg q3]
  by_cases q4 : kindOf x = 4
  · rw [if_pos q4]; exact h0 true (by unfold prefixed; simp [q4])
  rw [if_neg q4]
  refine h0 _ ?_
  unfold prefixed
  by_cases q5 : kindOf x = 5 <;> simp [q3, q4, q5]
theorem pieceAt_yes (l : List Int) (a n : Int) (h : 0 ≤ a ∧ a ≤ (l.length : Int) ∧ 0 ≤ n ∧ n ≤ (l.length : Int) - a) : pieceAt l a n = (cutAt l a.toNat n.toNat, a + n, true) := if_pos h
theorem bcd_bytes : ∀ (n : Nat) (l : List Int), l.length = 2 * n → l.all isDig = true → ∀ c ∈ bcd l, isByte c
  | 0, l, h, _ => by
    have : l = [] := List.length_eq_zero_iff.1 (by omega)
    rw [this]; intro c hc; simp [bcd] at hc
  | n + 1, [], h, _ => by simp at h
  | n + 1, [a], h, _ => by simp at h; omega
  | n + 1, a :: b :: t, h, hd => by
    simp only [List.all_cons, Bool.and_eq_true] at hd
    have ha := dig_range' hd.1
    have hb := dig_range' hd.2.1
    intro c hc
    rw [bcd] at hc
    rcases List.mem_cons.1 hc with rfl | hc
    · unfold isByte; omega
    · exact bcd_bytes n t (by simp at h; omega) hd.2.2 c hc
theorem ubcd_bcd : ∀ (n : Nat) (l : List Int), l.length = 2 * n → l.all isDig = true → ubcd (bcd l) = l
  | 0, l, h, _ => by
    have : l = [] := List.length_eq_zero_iff.1 (by omega)
    rw [this]; rfl
  | n + 1, [], h, _ => by simp at h
  | n + 1, [a], h, _ => by simp at h; omega
  | n + 1, a :: b :: t, h, hd => by
    simp only [List.all_cons, Bool.and_eq_true] at hd
    have ha := dig_range' hd.1
    have hb := dig_range' hd.2.1
    rw [bcd, ubcd, ubcd_bcd n t (by simp at h; omega) hd.2.2]
    have e1 : 48 + ((a - 48) * 16 + (b - 48)) / 16 = a := by omega
    have e2 : 48 + ((a - 48) * 16 + (b - 48)) % 16 = b := by omega
    rw [e1, e2]
theorem cutAt_all (l : List Int) : cutAt l 0 l.length = l := by unfold cutAt; simp
theorem getBcd_putBcd (L : List Int) (hd : L.all isDig = true) (h1 : 1 ≤ L.length) (h2 : L.length ≤ 38) :
    putBcd L = (bcd (evened L), true) ∧ (bcd (evened L)).length = (L.length + 1) / 2 ∧ (∀ c ∈ bcd (evened L), isByte c) ∧ getBcd (bcd (evened L)) 0 (L.length : Int) = (L, (((L.length + 1) / 2 : Nat) : Int), true) := by
  have he := evened_length L
  have ha := evened_all L hd
  have hl := bcd_length _ _ he
  have hu := ubcd_bcd _ _ he ha
  have hg : digs L = true := by
    unfold digs; rw [hd]; cases L with
    | nil => simp at h1
    | cons => rfl
  have hge : digs (evened L) = true := by
    unfold digs; rw [ha]; cases hE : evened L with
    | nil => rw [hE] at he; simp at he; omega
    | cons => rfl
  refine ⟨by unfold putBcd; rw [hg]; simp [h2], hl, bcd_bytes _ _ he ha, ?_⟩
  unfold getBcd
  have en : (((L.length : Int) + 1) / 2).toNat = (bcd (evened L)).length := by omega
  have ei : inAt (bcd (evened L)) 0 (L.length : Int) = true := by unfold inAt; simp; omega
  rw [en, Int.toNat_zero, cutAt_all, hu, ei, Int.toNat_natCast]
  have eb : isBcd L.length (evened L) = true := by
    rw [ubcd_digs L.length ((L.length + 1) / 2) (evened L) rfl h1 he, hge]
    unfold evened
    by_cases q : L.length % 2 = 1
    · rw [if_pos q]; simp [rd]
    · simp; omega
  have ed : (evened L).drop (L.length % 2) = L := by
    unfold evened
    by_cases q : L.length % 2 = 1
    · rw [if_pos q, q]; rfl
    · rw [if_neg q, show L.length % 2 = 0 by omega]; rfl
  rw [eb, ed]
  simp
theorem wide3 (n : Nat) (h : n < 1000) : bytesOf (wide (n : Int) 3) = [48 + ((n / 100 : Nat) : Int), 48 + ((n / 10 % 10 : Nat) : Int), 48 + ((n % 10 : Nat) : Int)] := by
  have hs : (decS n).size = (decL n).length := decS_size n
  unfold wide
  rw [Int.toNat_natCast]
  by_cases q1 : n < 10
  · have e := decL_small n q1
    rw [e] at hs
    rw [if_pos ⟨by omega, by omega, by omega, by rw [hs]; simp⟩, bytesOf_append, bytesOf_rep, bytesOf_decS, e, hs]
    have : n / 100 = 0 := by omega
    have : n / 10 % 10 = 0 := by omega
    have : n % 10 = n := by omega
    simp_all [List.replicate]
    omega
  · have e := decL_step n q1
    by_cases q2 : n < 100
    · rw [decL_small (n / 10) (by omega)] at e
      rw [e] at hs
      rw [if_pos ⟨by omega, by omega, by omega, by rw [hs]; simp⟩, bytesOf_append, bytesOf_rep, bytesOf_decS, e, hs]
      have : n / 100 = 0 := by omega
      have : n / 10 % 10 = n / 10 := by omega
      simp_all [List.replicate]
      omega
    · rw [decL_step (n / 10) (by omega), decL_small (n / 10 / 10) (by omega)] at e
      rw [e] at hs
      rw [if_pos ⟨by omega, by omega, by omega, by rw [hs]; simp⟩, bytesOf_append, bytesOf_rep, bytesOf_decS, e, hs]
      have : n / 10 / 10 = n / 100 := by omega
      simp_all [List.replicate]
theorem cutAt_mid (p b q : List Int) : cutAt (p ++ b ++ q) p.length b.length = b := by
  unfold cutAt
  rw [List.append_assoc, List.drop_left, List.take_left]
theorem getBcd_mid (p q L : List Int) (hd : L.all isDig = true) (h1 : 1 ≤ L.length) (h2 : L.length ≤ 38) :
    getBcd (p ++ bcd (evened L) ++ q) (p.length : Int) (L.length : Int) = (L, ((p.length + (bcd (evened L)).length : Nat) : Int), true) := by
  obtain ⟨_, g2, _, g4⟩ := getBcd_putBcd L hd h1 h2
  have he : ((L.length : Int) + 1) / 2 = ((bcd (evened L)).length : Int) := by omega
  unfold getBcd at g4 ⊢
  rw [he] at g4 ⊢
  rw [Int.toNat_natCast (bcd (evened L)).length, Int.toNat_zero, cutAt_all] at g4
  rw [Int.toNat_natCast (bcd (evened L)).length, Int.toNat_natCast p.length, cutAt_mid]
  have i1 : inAt (bcd (evened L)) 0 (L.length : Int) = true := by unfold inAt; simp; omega
  have i2 : inAt (p ++ bcd (evened L) ++ q) (p.length : Int) (L.length : Int) = true := by unfold inAt; simp; omega
  rw [i1, Bool.true_and] at g4
  rw [i2, Bool.true_and]
  by_cases z : isBcd (L.length : Int).toNat (ubcd (bcd (evened L))) = true
  · rw [if_pos z] at g4 ⊢
    have := congrArg Prod.fst g4
    simp only at this
    rw [this]
    congr 2
  · rw [if_neg z] at g4
    have := congrArg (fun r => r.2.2) g4
    simp at this
theorem wide2 (n : Nat) (h : n < 100) : bytesOf (wide (n : Int) 2) = [48 + ((n / 10 : Nat) : Int), 48 + ((n % 10 : Nat) : Int)] := by
  have hs : (decS n).size = (decL n).length := decS_size n
  unfold wide
  rw [Int.toNat_natCast]
  by_cases q1 : n < 10
  · have e := decL_small n q1
    rw [e] at hs
    rw [if_pos ⟨by omega, by omega, by omega, by rw [hs]; simp⟩, bytesOf_append, bytesOf_rep, bytesOf_decS, e, hs]
    have z1 : n / 10 = 0 := by omega
    have z2 : n % 10 = n := by omega
    rw [z1, z2]
    simp [List.replicate]
  · have e := decL_step n q1
    rw [decL_small (n / 10) (by omega)] at e
    rw [e] at hs
    rw [if_pos ⟨by omega, by omega, by omega, by rw [hs]; simp⟩, bytesOf_append, bytesOf_rep, bytesOf_decS, e, hs]
    simp_all [List.replicate]
theorem wide_facts (n w : Int) (h0 : 0 ≤ n) (hw : (w = 2 ∧ n < 100) ∨ (w = 3 ∧ n < 1000)) : (bytesOf (wide n w)).all isDig = true ∧ ((bytesOf (wide n w)).length : Int) = w ∧ ((natFrom 0 (bytesOf (wide n w)) : Nat) : Int) = n := by
  obtain ⟨m, rfl⟩ := Int.eq_ofNat_of_zero_le h0
  rcases hw with ⟨rfl, h⟩ | ⟨rfl, h⟩
  · rw [wide2 m (by omega)]
    refine ⟨by unfold isDig; simp; omega, rfl, ?_⟩
    simp [natFrom]; omega
  · rw [wide3 m (by omega)]
    refine ⟨by unfold isDig; simp; omega, rfl, ?_⟩
    simp [natFrom]; omega
theorem putLen_facts (n w : Int) (h0 : 0 ≤ n) (hw : (w = 2 ∧ n < 100) ∨ (w = 3 ∧ n < 1000)) : putLen n w = (bcd (evened (bytesOf (wide n w))), true) ∧ (∀ c ∈ (putLen n w).1, isByte c) ∧ (putLen n w).1.length = ((w + 1) / 2).toNat := by
  obtain ⟨d1, d2, d3⟩ := wide_facts n w h0 hw
  obtain ⟨p1, p2, p3, _⟩ := getBcd_putBcd _ d1 (by omega) (by omega)
  have hp : putLen n w = (bcd (evened (bytesOf (wide n w))), true) := by unfold putLen; rw [if_pos (by omega), p1]
  refine ⟨hp, ?_, ?_⟩
  · rw [hp]; exact p3
  · rw [hp]; simp only; omega
theorem getLen_mid (p q : List Int) (n w : Int) (h0 : 0 ≤ n) (hw : (w = 2 ∧ n < 100) ∨ (w = 3 ∧ n < 1000)) :
    getLen (p ++ (putLen n w).1 ++ q) (p.length : Int) w = (n, ((p.length + (putLen n w).1.length : Nat) : Int), true) := by
  obtain ⟨d1, d2, d3⟩ := wide_facts n w h0 hw
  obtain ⟨hp, _, _⟩ := putLen_facts n w h0 hw
  have g := getBcd_mid p q _ d1 (by omega) (by omega)
  rw [d2] at g
  rw [hp]
  unfold getLen
  simp only
  rw [g, if_pos ⟨by omega, rfl⟩]
  simp only
  rw [d3]
theorem lenWidth_fit (x : Int) (n : Nat) (hn : (n : Int) ≤ sizeOf_ x) (hp : prefixed x = true) : (lenWidth x = 2 ∧ (n : Int) < 100) ∨ (lenWidth x = 3 ∧ (n : Int) < 1000) := by
  have := sizeOf_range x
  unfold lenWidth
  split
  · right; exact ⟨rfl, by omega⟩
  · left; exact ⟨rfl, by omega⟩
theorem fieldOk_fixed (x : Int) (L : List Int) (h : fieldOk x L = true) (hp : prefixed x = false) : (L.length : Int) = sizeOf_ x := by
  have hp' := of_decide_eq_false hp
  have kr := kind_range x
  unfold fieldOk at h
  by_cases q : kindOf x = 1
  · rw [if_pos q] at h
    simp only [Bool.and_eq_true, beq_iff_eq] at h
    exact h.2
  rw [if_neg q] at h
  by_cases q2 : kindOf x = 2
  · rw [if_pos q2] at h
    simp only [Bool.and_eq_true, beq_iff_eq] at h
    exact h.2
  rw [if_neg q2, if_neg (by omega), if_neg (by omega)] at h
  exact absurd h (by simp)
theorem getField_mid (p q L : List Int) (x : Int) (h : fieldOk x L = true) :
    getField (p ++ (putField x L).1 ++ q) (p.length : Int) x = (L, ((p.length + (putField x L).1.length : Nat) : Int), true) := by
  have hl := fieldOk_len x L h
  have hput : (putField x L).1 = pfHead x L.length ++ pfBody x L := by unfold putField; rw [if_pos h]
  have hhead : gfHead (p ++ (putField x L).1 ++ q) (p.length : Int) x = ((L.length : Int), ((p.length + (pfHead x L.length).length : Nat) : Int), true) := by
    unfold gfHead
    rw [hput]
    by_cases hp : prefixed x = true
    · have hf := lenWidth_fit x L.length hl.2 hp
      have g := getLen_mid p (pfBody x L ++ q) (L.length : Int) (lenWidth x) (by omega) hf
      have e : pfHead x L.length = (putLen (L.length : Int) (lenWidth x)).1 := by unfold pfHead; rw [if_pos hp]
      rw [if_pos hp, e, List.append_assoc p, List.append_assoc, ← List.append_assoc p, g]
    · have e : pfHead x L.length = [] := by unfold pfHead; rw [if_neg hp]
      rw [if_neg hp, e, fieldOk_fixed x L h (by simpa using hp)]
      simp
  have hbody : gfBody (p ++ (putField x L).1 ++ q) ((p.length + (pfHead x L.length).length : Nat) : Int) (L.length : Int) x = (L, ((p.length + (putField x L).1.length : Nat) : Int), true) := by
    have el : p ++ (putField x L).1 ++ q = (p ++ pfHead x L.length) ++ pfBody x L ++ q := by rw [hput]; simp
    have ez : p.length + (pfHead x L.length).length = (p ++ pfHead x L.length).length := by simp
    have ew : p.length + (putField x L).1.length = (p ++ pfHead x L.length).length + (pfBody x L).length := by rw [hput]; simp; omega
    rw [el, ez, ew]
    generalize p ++ pfHead x L.length = P
    unfold gfBody pfBody
    by_cases hd : inDigits x = true
    · rw [if_pos hd, if_pos hd]
      obtain ⟨d1, d2, d3⟩ := fieldOk_digits x L h hd
      exact getBcd_mid P q L d1 d2 d3
    · rw [if_neg hd, if_neg hd, pieceAt_yes _ _ _ ⟨by omega, by simp; omega, by omega, by simp; omega⟩, Int.toNat_natCast, Int.toNat_natCast, cutAt_mid]
      congr 2
  unfold getField
  rw [hhead]
  simp only [if_true]
  rw [hbody]
  unfold gfFin
  exact if_pos ⟨rfl, h⟩
theorem putField_bytes (x : Int) (L : List Int) (hb : ∀ c ∈ L, isByte c) : ∀ c ∈ (putField x L).1, isByte c := by
  unfold putField
  split
  · rename_i h
    have hl := fieldOk_len x L h
    intro c hc
    simp only [List.mem_append] at hc
    rcases hc with hc | hc
    · unfold pfHead at hc
      split at hc
      · rename_i hp
        exact (putLen_facts _ _ (by omega) (lenWidth_fit x L.length hl.2 hp)).2.1 c hc
      · cases hc
    · unfold pfBody at hc
      split at hc
      · rename_i hd
        obtain ⟨d1, d2, d3⟩ := fieldOk_digits x L h hd
        exact (getBcd_putBcd L d1 d2 d3).2.2.1 c hc
      · exact hb c hc
  · intro c hc; cases hc
theorem putField_len (x : Int) (L : List Int) : (putField x L).1.length ≤ 100 := by
  unfold putField
  split
  · rename_i h
    have hl := fieldOk_len x L h
    have := sizeOf_range x
    have h1 : (pfHead x L.length).length ≤ 38 := by
      unfold pfHead
      split
      · exact putLen_short _ _
      · simp
    have h2 : (pfBody x L).length ≤ 60 := by
      unfold pfBody
      split
      · rename_i hd
        obtain ⟨d1, d2, d3⟩ := fieldOk_digits x L h hd
        have := (getBcd_putBcd L d1 d2 d3).2.1
        omega
      · omega
    simp only [List.length_append]
    omega
  · simp
theorem and255 (x : Int) : 0 ≤ Go.bits .and .i64 x 255 ∧ Go.bits .and .i64 x 255 ≤ 255 := by
  have h : ∃ n : Nat, n ≤ 255 ∧ Go.bits .and .i64 x 255 = IntKind.i64.wrap (n : Int) := by
    refine ⟨(BitVec.ofInt 64 x).toNat &&& 255, Nat.and_le_right, ?_⟩
    simp only [Go.bits, BitVec.toNat_and]
    rfl
  obtain ⟨n, h1, h2⟩ := h
  rw [h2, IntKind.wrap_i64]
  omega
theorem l01New_l (b : List Int) (hb : b.length ≤ 10000000) : ∀ (d n k : Nat) (h : Int), n + d = b.length → d < k → ∃ h', spec_l01New.l0 k b h (n : Int) = some (b, 0, h') := by
  intro d
  induction d with
  | zero =>
    intro n k h hd hk
    obtain ⟨k, rfl⟩ : ∃ m, k = m + 1 := ⟨k - 1, by omega⟩
    exact ⟨h, by rw [spec_l01New.l0, if_neg (by omega)]⟩
  | succ d ih =>
    intro n k h hd hk
    obtain ⟨k, rfl⟩ : ∃ m, k = m + 1 := ⟨k - 1, by omega⟩
    by_cases q : (n : Int) < 4000
    · have e : wrap64 ((n : Int) + 1) = ((n + 1 : Nat) : Int) := by unfold wrap64; omega
      obtain ⟨h', hh⟩ := ih (n + 1) k (Go.bits .and .i64 (wrap64 ((wrap64 ((wrap64 (h * 31)) + (wrap64 (rd b (n : Int))))) + 7)) 1073741823) (by omega) (by omega)
      exact ⟨h', by rw [spec_l01New.l0, if_pos (by omega), if_pos q, if_pos (by omega), e]; exact hh⟩
    · exact ⟨h, by rw [spec_l01New.l0, if_pos (by omega), if_neg q]⟩
theorem l01New_at (b : List Int) (hb : b.length ≤ 10000000) (k : Nat) (hk : b.length < k) : ∃ h, spec_l01New.f k b = some (b, 0, h) := by
  unfold spec_l01New.f
  exact l01New_l b hb b.length 0 k _ (by omega) hk
theorem l01Byte_at (b : List Int) (i h : Int) (hb : b.length ≤ 10000000) (h0 : 0 ≤ i) (h1 : i ≤ (b.length : Int)) : ∃ r i' h', spec_l01Byte.f b i h = some (r, i', h') ∧ 0 ≤ r ∧ r ≤ 255 ∧ 0 ≤ i' ∧ i' ≤ (b.length : Int) := by
  unfold spec_l01Byte.f
  by_cases q : i < (b.length : Int)
  · rw [if_pos q, if_pos h0]
    have e : wrap64 (i + 1) = i + 1 := by unfold wrap64; omega
    exact ⟨_, _, _, rfl, (and255 _).1, (and255 _).2, by rw [e]; omega, by rw [e]; omega⟩
  · rw [if_neg q]
    exact ⟨_, _, _, rfl, (and255 _).1, (and255 _).2, h0, h1⟩
theorem l01Below_at (b : List Int) (i h n : Int) (hb : b.length ≤ 10000000) (h0 : 0 ≤ i) (h1 : i ≤ (b.length : Int)) (n0 : 0 < n) (n1 : n ≤ 256) : ∃ r i' h', spec_l01Below.f b i h n = some (r, i', h') ∧ 0 ≤ r ∧ r < n ∧ 0 ≤ i' ∧ i' ≤ (b.length : Int) := by
  obtain ⟨r, i', h', e, r0, r1, q0, q1⟩ := l01Byte_at b i h hb h0 h1
  unfold spec_l01Below.f
  rw [if_neg (by omega), if_pos n1, e, Option.bind_some, if_neg (by omega)]
  exact ⟨_, _, _, rfl, Int.tmod_nonneg _ r0, Int.tmod_lt_of_pos _ n0, q0, q1⟩
theorem l01Str_at (b : List Int) (i h : Int) (l : List ByteArray) (hb : b.length ≤ 10000000) (h0 : 0 ≤ i) (h1 : i ≤ (b.length : Int)) (n0 : 0 < l.length) (n1 : l.length ≤ 256) : ∃ s i' h', spec_l01Str.f b i h l = some (s, i', h') ∧ s ∈ l ∧ 0 ≤ i' ∧ i' ≤ (b.length : Int) := by
  obtain ⟨r, i', h', e, r0, r1, q0, q1⟩ := l01Below_at b i h (l.length : Int) hb h0 h1 (by omega) (by omega)
  unfold spec_l01Str.f
  rw [e, Option.bind_some, if_pos r0, if_pos r1]
  refine ⟨_, _, _, rfl, ?_, q0, q1⟩
  obtain ⟨n, rfl⟩ := Int.eq_ofNat_of_zero_le r0
  have hn : n < l.length := by omega
  unfold rdOf
  simp [List.getD, hn]
theorem l03Text_l (b : List Int) (hb : b.length ≤ 10000000) (N : Nat) (hN : N ≤ 1000) (t : Int) : ∀ (d k : Nat) (s : ByteArray) (i h : Int), s.size + d = N → 0 ≤ i → i ≤ (b.length : Int) → ((t = 1 ∨ t = 3) → (bytesOf s).all isDig = true) → (¬ (t = 1 ∨ t = 3) → (bytesOf s).all isPri = true) → 2 * d < k →
    ∃ s' i' h', spec_l03Text.l0 k (N : Int) t s b i h = some (s', i', h') ∧ s'.size = N ∧ ((t = 1 ∨ t = 3) → (bytesOf s').all isDig = true) ∧ (¬ (t = 1 ∨ t = 3) → (bytesOf s').all isPri = true) ∧ 0 ≤ i' ∧ i' ≤ (b.length : Int) := by
  intro d
  induction d with
  | zero =>
    intro k s i h hd h0 h1 hp1 hp2 hk
    obtain ⟨k, rfl⟩ : ∃ m, k = m + 1 := ⟨k - 1, by omega⟩
    rw [spec_l03Text.l0, if_neg (by omega)]
    exact ⟨s, i, h, rfl, by omega, hp1, hp2, h0, h1⟩
  | succ d ih =>
    intro k s i h hd h0 h1 hp1 hp2 hk
    obtain ⟨k, rfl⟩ : ∃ m, k = m + 2 := ⟨k - 2, by omega⟩
    have hgo : ∀ q : Bool, q = decide (t = 1 ∨ t = 3) → ∃ s' i' h', spec_l03Text.j2 (k + 1) (N : Int) t s q b i h = some (s', i', h') ∧ s'.size = N ∧ ((t = 1 ∨ t = 3) → (bytesOf s').all isDig = true) ∧ (¬ (t = 1 ∨ t = 3) → (bytesOf s').all isPri = true) ∧ 0 ≤ i' ∧ i' ≤ (b.length : Int) := by
      intro q hq
      subst hq
      by_cases z : t = 1 ∨ t = 3
      · obtain ⟨r, i', h', e, r0, r1, q0, q1⟩ := l01Below_at b i h 10 hb h0 h1 (by omega) (by omega)
        have e48 : wrap64 (48 + r) % 256 = 48 + r := by unfold wrap64; omega
        rw [spec_l03Text.j2, if_pos (decide_eq_true z), e, Option.bind_some, Option.bind_some]
        simp only
        rw [e48, strOfNums_size, if_pos (by simp; omega)]
        refine ih k _ i' h' (by rw [ByteArray.size_append, strOfNums_size]; simp; omega) q0 q1 (fun _ => ?_) (fun z' => absurd z z') (by omega)
        rw [bytesOf_append, List.all_append, hp1 z, bytesOf_strOfNums [48 + r] (fun c hc => by rw [List.mem_singleton.1 hc]; unfold isByte; omega)]
        unfold isDig
        simp; omega
      · obtain ⟨u, i', h', e, hu, q0, q1⟩ := l01Str_at b i h [(⟨#[97]⟩ : ByteArray), (⟨#[98]⟩ : ByteArray), (⟨#[55]⟩ : ByteArray), (⟨#[32]⟩ : ByteArray), (⟨#[126]⟩ : ByteArray)] hb h0 h1 (by decide) (by decide)
        have hu1 : u.size = 1 ∧ (bytesOf u).all isPri = true := by
          simp only [List.mem_cons, List.not_mem_nil, or_false] at hu
          rcases hu with rfl | rfl | rfl | rfl | rfl <;> exact ⟨rfl, rfl⟩
        rw [spec_l03Text.j2, if_neg (by simpa using z), e, Option.bind_some]
        simp only
        rw [if_pos (by omega)]
        refine ih k _ i' h' (by rw [ByteArray.size_append]; omega) q0 q1 (fun z' => absurd z' z) (fun _ => ?_) (by omega)
        rw [bytesOf_append, List.all_append, hp2 z, hu1.2]
        rfl
    rw [spec_l03Text.l0, if_pos (by omega)]
    by_cases z1 : t = 1
    · rw [if_pos z1]; exact hgo true (by simp [z1])
    · rw [if_neg z1]
      refine hgo _ ?_
      by_cases z3 : t = 3 <;> simp [z1, z3]
theorem l03Text_at (b : List Int) (i h x : Int) (hb : b.length ≤ 10000000) (h0 : 0 ≤ i) (h1 : i ≤ (b.length : Int)) (hx : ¬ kindOf x = 0) (k : Nat) (hk : 300 < k) : ∃ s i' h', spec_l03Text.f k b i h x = some (s, i', h') ∧ fieldOk x (bytesOf s) = true ∧ s.size ≤ 60 ∧ 0 ≤ i' ∧ i' ≤ (b.length : Int) := by
  have s0 := sizeOf_range x
  have s1 := size_pos x hx
  have kr := kind_range x
  obtain ⟨k, rfl⟩ : ∃ m, k = m + 1 := ⟨k - 1, by omega⟩
  have hgo : ∀ (N : Nat) (i h : Int), 1 ≤ N → (N : Int) ≤ sizeOf_ x → ((kindOf x = 1 ∨ kindOf x = 2) → (N : Int) = sizeOf_ x) → 0 ≤ i → i ≤ (b.length : Int) →
      ∃ s i' h', spec_l03Text.j0 (k + 1) (N : Int) (kindOf x) b i h = some (s, i', h') ∧ fieldOk x (bytesOf s) = true ∧ s.size ≤ 60 ∧ 0 ≤ i' ∧ i' ≤ (b.length : Int) := by
    intro N i h hN1 hN2 hN3 h0 h1
    obtain ⟨s, i', h', e, hz, p1, p2, q0, q1⟩ := l03Text_l b hb N (by omega) (kindOf x) N k ⟨#[]⟩ i h (by have : (⟨#[]⟩ : ByteArray).size = 0 := rfl; omega) h0 h1 (fun _ => rfl) (fun _ => rfl) (by omega)
    rw [spec_l03Text.j0]
    refine ⟨s, i', h', e, ?_, by omega, q0, q1⟩
    have hlen : ((bytesOf s).length : Int) = N := by rw [bytesOf_length, hz]
    have hne : digs (bytesOf s) = (bytesOf s).all isDig := by
      unfold digs
      have : (bytesOf s).isEmpty = false := by
        cases hh : bytesOf s with
        | nil => rw [hh] at hlen; simp at hlen; omega
        | cons a t => rfl
      rw [this]; simp
    unfold fieldOk
    rw [hlen, hne]
    by_cases z1 : kindOf x = 1
    · rw [if_pos z1, p1 (.inl z1), hN3 (.inl z1)]; simp
    rw [if_neg z1]
    by_cases z2 : kindOf x = 2
    · rw [if_pos z2, p2 (by omega), hN3 (.inr z2)]; simp
    rw [if_neg z2]
    by_cases z3 : kindOf x = 3
    · rw [if_pos z3, p1 (.inr z3)]; simp; omega
    rw [if_neg z3, if_pos (by omega), p2 (by omega)]
    simp; omega
  unfold spec_l03Text.f
  rw [spec_FieldSize_at x _ (by omega), Option.bind_some, spec_FieldKind_at x _ (by omega), Option.bind_some, spec_l03Width_at _ _ (by omega), Option.bind_some]
  by_cases z : kindOf x = 3 ∨ kindOf x = 4 ∨ kindOf x = 5
  · have hpos : (if kindOf x = 3 ∨ kindOf x = 4 then (2 : Int) else if kindOf x = 5 then 3 else 0) > 0 := by
      by_cases z5 : kindOf x = 5
      · rw [if_neg (by omega), if_pos z5]; omega
      · rw [if_pos (by omega)]; omega
    obtain ⟨r, i', h', e, r0, r1, q0, q1⟩ := l01Below_at b i h (sizeOf_ x) hb h0 h1 (by omega) (by omega)
    obtain ⟨n, rfl⟩ := Int.eq_ofNat_of_zero_le r0
    have ew : wrap64 (1 + (n : Int)) = ((n + 1 : Nat) : Int) := by unfold wrap64; omega
    rw [if_pos hpos, e, Option.bind_some]
    simp only
    rw [ew]
    exact hgo (n + 1) i' h' (by omega) (by omega) (by omega) q0 q1
  · rw [if_neg (by omega)]
    obtain ⟨n, hn⟩ := Int.eq_ofNat_of_zero_le s0.1
    rw [hn]
    rw [hn] at s0 s1 hgo
    exact hgo n i h (by omega) (by omega) (fun _ => rfl) h0 h1
def nosL : List Int := [2, 3, 4, 7, 11, 14, 37, 38, 39, 41, 48, 49, 54, 95, 102, 103]
theorem spec_FieldNos_at (k : Nat) (hk : 150 ≤ k) : spec_FieldNos.f k = some nosL :=
  later (g := fun k => spec_FieldNos.f k) (fun k => spec_FieldNos.mono k) (k0 := 150) (by decide +kernel) k hk
theorem nosL_kind : ∀ c ∈ nosL, ¬ kindOf c = 0 := by unfold nosL; decide
theorem MakeField_at (b : List Int) (hb : b.length ≤ 10000000) (k : Nat) (hk : b.length + 500 < k) : ∃ x s, (∀ j, k ≤ j → spec_MakeField.f j b = some (x, s)) ∧ x ∈ nosL ∧ fieldOk x (bytesOf s) = true ∧ s.size ≤ 60 := by
  obtain ⟨h, e⟩ := l01New_at b hb k (by omega)
  have hlen : nosL.length = 16 := rfl
  obtain ⟨r, i', h', e2, r0, r1, q0, q1⟩ := l01Below_at b 0 h (nosL.length : Int) hb (by omega) (by omega) (by omega) (by omega)
  obtain ⟨n, rfl⟩ := Int.eq_ofNat_of_zero_le r0
  have hn : n < nosL.length := by omega
  obtain ⟨s, i2, h2, e3, f1, f2, _⟩ := l03Text_at b i' h' (rd nosL (n : Int)) hb q0 q1 (nosL_kind _ (rd_mem nosL n hn)) k (by omega)
  refine ⟨rd nosL (n : Int), s, fun j hj => ?_, rd_mem nosL n hn, f1, f2⟩
  have h1 : spec_MakeField.f k b = some (rd nosL (n : Int), s) := by
    unfold spec_MakeField.f
    rw [e, Option.bind_some]
    simp only
    rw [spec_FieldNos_at k (by omega), Option.bind_some, e2, Option.bind_some]
    simp only
    rw [if_pos r0, if_pos r1, e3, Option.bind_some]
  exact later (g := fun k => spec_MakeField.f k b) (fun k => spec_MakeField.mono b k) h1 j hj
theorem size_range (x : Int) : 0 ≤ sizeOf_ x ∧ sizeOf_ x ≤ 60 := by
  unfold sizeOf_
  repeat' split
  all_goals omega
def fin (x : Int) (s : ByteArray) : ByteArray := if fieldOk x (bytesOf s) = true then s else ⟨#[]⟩
def fieldFit (x : Int) (s : ByteArray) : ByteArray :=
  if kindOf x = 1 then fin x (rep 48 (sizeOf_ x - s.size).toNat ++ s) else if kindOf x = 2 then fin x (s ++ rep 32 (sizeOf_ x - s.size).toNat) else fin x s
theorem impl_fin (x : Int) (s : ByteArray) (hs : s.size ≤ 100000000) (k : Nat) (hk : s.size + 30 ≤ k) :
    ((impl_FieldOk.f k x s).bind fun t => if t = true then some s else some (⟨#[]⟩ : ByteArray)) = some (fin x s) := by
  rw [impl_FieldOk_at x s (by omega) k (by omega), Option.bind_some]
  unfold fin
  split <;> rfl
theorem impl_FieldFit_at (x : Int) (s : ByteArray) (hs : s.size ≤ 1000000 + 50000) (k : Nat) (hk : s.size + 300 ≤ k) : impl_FieldFit.f k x s = some (fieldFit x s) := by
  unfold impl_FieldFit.f fieldFit
  have hq := size_range x
  have e0 : wrap64 (sizeOf_ x - (s.size : Int)) = sizeOf_ x - (s.size : Int) := w64id (by omega) (by omega)
  obtain ⟨d, hd, hd2, hd3⟩ : ∃ d : Int, mx (wrap64 (sizeOf_ x - (s.size : Int))) 0 = d ∧ 0 ≤ d ∧ d ≤ 60 ∧ d.toNat = (sizeOf_ x - s.size).toNat := by
    rw [e0]
    clear e0
    refine ⟨_, rfl, ?_⟩
    unfold mx
    split <;> omega
  clear e0
  rw [impl_FieldSize_at x k (by omega), Option.bind_some, impl_FieldKind_at x k (by omega), Option.bind_some, hd]
  clear hd
  by_cases h1 : kindOf x = 1
  · rw [if_pos h1, if_pos h1, repeat_at 48 d hd2 (by omega), Option.bind_some, hd3.2]
    have hz : (rep 48 (sizeOf_ x - s.size).toNat).size ≤ 60 := by rw [rep_size]; omega
    have hz2 : (rep 48 (sizeOf_ x - s.size).toNat ++ s).size ≤ 60 + s.size := by rw [ByteArray.size_append]; omega
    rw [if_pos (by omega), impl_fin x _ (by omega) k (by omega)]
  rw [if_neg h1, if_neg h1]
  by_cases h2 : kindOf x = 2
  · rw [if_pos h2, if_pos h2, repeat_at 32 d hd2 (by omega), Option.bind_some, hd3.2]
    have hz : (rep 32 (sizeOf_ x - s.size).toNat).size ≤ 60 := by rw [rep_size]; omega
    have hz2 : (s ++ rep 32 (sizeOf_ x - s.size).toNat).size ≤ 60 + s.size := by rw [ByteArray.size_append]; omega
    rw [if_pos (by omega), impl_fin x _ (by omega) k (by omega)]
  · rw [if_neg h2, if_neg h2, impl_fin x s (by omega) k (by omega)]
theorem fieldFit_ok (x : Int) (s : ByteArray) (h : fieldOk x (bytesOf s) = true) : fieldFit x s = s := by
  have hf : fin x s = s := by unfold fin; rw [if_pos h]
  unfold fieldFit
  by_cases h1 : kindOf x = 1
  · have h' := h
    unfold fieldOk at h'
    rw [if_pos h1] at h'
    simp only [Bool.and_eq_true, beq_iff_eq] at h'
    have hl := bytesOf_length s
    rw [if_pos h1, show (sizeOf_ x - (s.size : Int)).toNat = 0 by omega, rep_zero, nil_app, hf]
  · rw [if_neg h1]
    by_cases h2 : kindOf x = 2
    · have h' := h
      unfold fieldOk at h'
      rw [if_neg h1, if_pos h2] at h'
      simp only [Bool.and_eq_true, beq_iff_eq] at h'
      have hl := bytesOf_length s
      rw [if_pos h2, show (sizeOf_ x - (s.size : Int)).toNat = 0 by omega, rep_zero, app_nil, hf]
    · rw [if_neg h2, hf]
theorem impl_PutField_at (x : Int) (s : ByteArray) (h : s.size ≤ 140737488351232) : impl_PutField.f x s = some (putField x (bytesOf s)) := by
  unfold impl_PutField.f
  rw [if_pos h]
theorem impl_FieldNos_at (k : Nat) (hk : 100 ≤ k) : impl_FieldNos.f k = some nosL :=
  later (g := fun k => impl_FieldNos.f k) (fun k => impl_FieldNos.mono k) (k0 := 100) (by decide +kernel) k hk
theorem has_l (l : List Int) (hl : l.length ≤ 10000000) (x : Int) : ∀ (d n k : Nat), n + d = l.length → x ∈ l.drop n → d < k → laws_has.l0 k x l (l.length : Int) (n : Int) = some true := by
  intro d
  induction d with
  | zero =>
    intro n k hd hx hk
    rw [List.drop_eq_nil_of_le (by omega)] at hx
    cases hx
  | succ d ih =>
    intro n k hd hx hk
    obtain ⟨k, rfl⟩ : ∃ m, k = m + 1 := ⟨k - 1, by omega⟩
    have en : wrap64 ((n : Int) + 1) = ((n + 1 : Nat) : Int) := by unfold wrap64; omega
    rw [drop_rd l n (by omega)] at hx
    rw [laws_has.l0, if_pos (by omega), if_pos (by omega), if_pos (by omega), en]
    by_cases q : rd l (n : Int) = x
    · rw [if_pos q]
    · rw [if_neg q]
      exact ih (n + 1) k (by omega) ((List.mem_cons.1 hx).resolve_left (fun h => q h.symm)) (by omega)
theorem has_at (l : List Int) (hl : l.length ≤ 10000000) (x : Int) (hx : x ∈ l) (k : Nat) (hk : l.length < k) : laws_has.f k l x = some true := by
  unfold laws_has.f
  exact has_l l hl x l.length 0 k (by omega) (by rw [List.drop_zero]; exact hx) hk
theorem FnField : ∀ (l0 : List Int), l0.length ≤ maxLen → l0.length * 1 ≤ 140737488351232 → (∀ x ∈ l0, (Lit.int .u8 x).wf = true) → ∃ k, laws_FnField.f k l0 = some true := by
  intro b _ _ _
  by_cases hb : (b.length : Int) > 1048576
  · exact ⟨0, by unfold laws_FnField.f; rw [if_pos hb]⟩
  obtain ⟨K, hK⟩ : ∃ K : Nat, b.length + 100000 ≤ K := ⟨_, Nat.le_refl _⟩
  refine ⟨K, ?_⟩
  obtain ⟨x, s, e2, hx, f1, f2⟩ := MakeField_at b (by omega) K (by omega)
  have e2 := e2 K (Nat.le_refl _)
  have h1 := impl_PutField_at x s (by omega)
  have hby := putField_bytes x (bytesOf s) (bytesOf_range s)
  have hle := putField_len x (bytesOf s)
  have hmid := getField_mid [9] [7] (bytesOf s) x f1
  have hp2 : (putField x (bytesOf s)).2 = true := by unfold putField; rw [if_pos f1]
  generalize putField x (bytesOf s) = p at h1 hby hle hmid hp2
  obtain ⟨p1, p2⟩ := p
  simp only at hby hle hmid hp2
  subst hp2
  have h2 := impl_GetField_at ([9] ++ p1 ++ [7]) (by simp; omega) (fun c hc => by
    simp only [List.mem_append, List.mem_singleton] at hc
    rcases hc with (rfl | hc) | rfl
    · exact ⟨by decide, by decide⟩
    · exact hby c hc
    · exact ⟨by decide, by decide⟩) 1 x (by omega) K (by omega)
  have e1 : ((([9] : List Int).length : Nat) : Int) = 1 := rfl
  rw [e1] at hmid
  rw [hmid] at h2
  unfold asStr at h2
  simp only at h2
  rw [strOfNums_bytesOf] at h2
  have h3 := impl_FieldOk_at x s (by omega) K (by omega)
  rw [f1] at h3
  have h4 := impl_FieldFit_at x s (by omega) K (by omega)
  have hfit : fieldFit x s = s := fieldFit_ok x s f1
  rw [hfit] at h4
  have h5 := impl_FieldNos_at K (by omega)
  have h6 := has_at nosL (by decide) x hx K (by have : nosL.length = 16 := rfl; omega)
  have ew : wrap64 ((p1.length : Int) + 1) = (((([9] : List Int).length + p1.length : Nat)) : Int) := by
    have : ([9] : List Int).length = 1 := rfl
    unfold wrap64; omega
  unfold laws_FnField.f
  rw [if_neg hb, e2, Option.bind_some]
  simp only
  rw [h1, Option.bind_some, Option.bind_some]
  simp only
  rw [if_pos (by simp; omega), Option.bind_some, if_pos (by simp; omega), h2, Option.bind_some]
  simp only
  rw [if_pos trivial, if_pos trivial, if_pos trivial, ew, if_pos rfl, h3, Option.bind_some, if_pos rfl, h4, Option.bind_some, if_pos rfl, h5, Option.bind_some, h6, Option.bind_some]
end Go.Proofs.YtfiieppnpmodoaaDoor.Q
end
section
/- The start that fits a row that lists the three tables and the two sentinels of strconv, and what the rows' list gives the walks: for rows of tied cards. -/
namespace Go.Proofs.YtfiieppnpmodoaaDoor.Laid
open Go.ChangeShapes Go.WideShapes Go.ChangeAt Go.RowKit
def valsOf (d : DataW Unit) : Array Value := match d with
  | .agg l => (l.map fun | .lit (.int k z) => Value.int k z | _ => .bool false).toArray
  | _ => #[]
def put (d : DataW Unit) : Obj → Obj
  | .cells _ t frozen => .cells (valsOf d) t frozen
  | o => o
def point (b : Nat) : Obj → Obj
  | .cells _ t frozen => .cells #[.iface 151 (.pointer (some ⟨b, 0, none⟩))] t frozen
  | o => o
abbrev synS : ByteArray := { data := #[105, 110, 118, 97, 108, 105, 100, 32, 115, 121, 110, 116, 97, 120] }
abbrev rngS : ByteArray := { data := #[118, 97, 108, 117, 101, 32, 111, 117, 116, 32, 111, 102, 32, 114, 97, 110, 103, 101] }
/-- So many blocks has the settled world. -/
noncomputable def low : Nat := (World.holding Tryd.prog default ⟨#[], #[], []⟩).heap.size
/-- The settled world with the three tables laid, and two blocks more for the sentinels. -/
noncomputable def world (os : Os) : World :=
  let w0 := World.holding Tryd.prog os ⟨#[.cells #[.string synS] 153, .cells #[.string rngS] 153], #[], []⟩
  { w0 with heap := ((((w0.heap.modify 3 (put Rows.laid_internal_strconv_uint64pow10)).modify 4 (put Rows.laid_math_bits_deBruijn32tab)).modify 5 (put Rows.laid_math_bits_deBruijn64tab)).modify 1 (point low)).modify 2 (point (low + 1)) }
abbrev list5 : List (String × DataW Unit) := [("math/bits.deBruijn32tab", Rows.laid_math_bits_deBruijn32tab), ("math/bits.deBruijn64tab", Rows.laid_math_bits_deBruijn64tab), ("internal/strconv.uint64pow10", Rows.laid_internal_strconv_uint64pow10), ("strconv.ErrRange", Rows.laid_strconv_ErrRange), ("strconv.ErrSyntax", Rows.laid_strconv_ErrSyntax)]
set_option maxRecDepth 100000 in
theorem met (os : Os) (args : Array Value) : laidMet Tryd.prog list5 ((world os).forCall (fun _ _ => 0) ⟨#[], args, []⟩).memory :=
  laidMet_of_run' 100 (by kernel_rfl) (by kernel_rfl)
theorem gPowType : (Tryd.prog.globals[3]?).map (·.type) = some 147 := by kernel_rfl
theorem gl {W : World} (h : laidMet Tryd.prog list5 W) : Q.GLW W :=
  Lib.tabIs_of_head Q.gPow gPowType Tryd.underlying147 Tryd.underlying120 (by kernel_rfl) (by kernel_rfl) (show laidMet Tryd.prog (("internal/strconv.uint64pow10", Lib.tabData .u64 Lib.pow10Tab) :: _) W from h.tail.tail)
end Go.Proofs.YtfiieppnpmodoaaDoor.Laid
end
