-- Written by a program of this session (wip/mkprint.py, after the kit's print). Lean checks it.
import Derived.Test.YtiglmmofapcefaaDoorQx0
import Derived.Test.YtiglmmofapcefaaDoorQx20
import Derived.Test.YtiglmmofapcefaaDoorQx21
import Derived.Test.YtiglmmofapcefaaDoorQx26
import Derived.Test.YtiglmmofapcefaaDoorQx27
import Derived.Test.YtiglmmofapcefaaDoorQx28
import Derived.Test.YtiglmmofapcefaaDoorQx30
namespace Go.Proofs.YtiglmmofapcefaaDoor.Q
open Go.RowKit Go.Proofs.YtiglmmofapcefaaDoorW.PrintWords Go.Proofs.YtiglmmofapcefaaDoorW.PrintLast Go.Proofs.YtiglmmofapcefaaDoorW.PrintMore
attribute [local go_sem] max2_int min2_int max_two min_two max_three min_three max_four min_four   -- for this text's walks alone
set_option linter.unusedVariables false
set_option linter.unusedSimpArgs false

/-! ### spec_GetField: function 35 -/
mutual
def spec_GetField.j0 : Nat → List Int → Int → Int → Int → Bool → Option (ByteArray × Int × Bool)
  | 0, _, _, _, _, _ => none
  | k + 1, x0, x1, x9, x10, x23 => if x23 = true then (some ((⟨#[]⟩ : ByteArray), 0, false)) else ((spec_l03Width.f k x9).bind fun t299 => (if t299 > 0 then ((spec_l03Width.f k x9).bind fun t300 => ((spec_GetLen.f k x0 x1 t300).bind fun bt301 => (if bt301.2.2 = true then ((spec_l01In.f bt301.1 1 x10).bind fun t304 => (if t304 = true then (spec_GetField.j1 k x0 bt301.2.1 x9 bt301.1) else (some ((⟨#[]⟩ : ByteArray), 0, false)))) else (some ((⟨#[]⟩ : ByteArray), 0, false))))) else (spec_GetField.j1 k x0 x1 x9 x10)))
def spec_GetField.j1 : Nat → List Int → Int → Int → Int → Option (ByteArray × Int × Bool)
  | 0, _, _, _, _ => none
  | k + 1, x0, x1, x9, x10 => if x9 = 1 then (spec_GetField.j2 k x0 x1 x10 true) else (spec_GetField.j2 k x0 x1 x10 (x9 == 3))
def spec_GetField.j2 : Nat → List Int → Int → Int → Bool → Option (ByteArray × Int × Bool)
  | 0, _, _, _, _ => none
  | k + 1, x0, x1, x10, x51 => if x51 = true then ((spec_GetBcd.f k x0 x1 x10).bind fun bt305 => (some (bt305.1, bt305.2.1, bt305.2.2))) else (if x1 > (x0.length : Int) then (some ((⟨#[]⟩ : ByteArray), 0, false)) else (if x10 > (wrap64 ((x0.length : Int) - x1)) then (some ((⟨#[]⟩ : ByteArray), 0, false)) else (if 0 ≤ x1 then (if x1 ≤ (wrap64 (x1 + x10)) then (if (wrap64 (x1 + x10)) ≤ (x0.length : Int) then ((spec_Printable.f k (strOfNums ((x0.take ((wrap64 (x1 + x10)) : Int).toNat).drop (x1 : Int).toNat))).bind fun t309 => (if t309 = true then (some (strOfNums ((x0.take ((wrap64 (x1 + x10)) : Int).toNat).drop (x1 : Int).toNat), wrap64 (x1 + x10), true)) else (some ((⟨#[]⟩ : ByteArray), 0, false)))) else (none)) else (none)) else (none))))
end
def spec_GetField.f (k : Nat) (l0 : List Int) (a1 : Int) (a2 : Int) : Option (ByteArray × Int × Bool) := (spec_FieldKind.f k a2).bind fun t297 => ((spec_FieldSize.f k a2).bind fun t298 => (if t297 = 0 then (spec_GetField.j0 k l0 a1 t297 t298 true) else (spec_GetField.j0 k l0 a1 t297 t298 (decide (a1 < 0)))))
theorem spec_GetField.mono_l : ∀ k, (∀ y0 y1 y2 y3 y4, LeO (spec_GetField.j0 k y0 y1 y2 y3 y4) (spec_GetField.j0 (k + 1) y0 y1 y2 y3 y4)) ∧ (∀ y0 y1 y2 y3, LeO (spec_GetField.j1 k y0 y1 y2 y3) (spec_GetField.j1 (k + 1) y0 y1 y2 y3)) ∧ (∀ y0 y1 y2 y3, LeO (spec_GetField.j2 k y0 y1 y2 y3) (spec_GetField.j2 (k + 1) y0 y1 y2 y3))
  | 0 => ⟨fun _ _ _ _ _ r h => by simp [spec_GetField.j0] at h, fun _ _ _ _ r h => by simp [spec_GetField.j1] at h, fun _ _ _ _ r h => by simp [spec_GetField.j2] at h⟩
  | k + 1 => by
    obtain ⟨ih0, ih1, ih2⟩ := spec_GetField.mono_l k
    refine ⟨?_, ?_, ?_⟩
    · intro y0 y1 y2 y3 y4
      unfold spec_GetField.j0
      repeat' first
      | (with_reducible exact ih0 _ _ _ _ _)
      | (with_reducible exact ih1 _ _ _ _)
      | (with_reducible exact ih2 _ _ _ _)
      | (with_reducible exact spec_FieldKind.mono _ _)
      | (with_reducible exact spec_FieldSize.mono _ _)
      | (with_reducible exact spec_GetBcd.mono _ _ _ _)
      | (with_reducible exact spec_GetLen.mono _ _ _ _)
      | (with_reducible exact spec_Printable.mono _ _)
      | (with_reducible exact spec_l03Width.mono _ _)
      | (with_reducible exact LeO.refl _)
      | (with_reducible exact LeO.none _)
      | (with_reducible refine LeO.ite ?_ ?_)
      | (with_reducible refine LeO.bind ?_ (fun _ => ?_))
      | exact ih0 _ _ _ _ _
      | exact ih1 _ _ _ _
      | exact ih2 _ _ _ _
      | exact spec_FieldKind.mono _ _
      | exact spec_FieldSize.mono _ _
      | exact spec_GetBcd.mono _ _ _ _
      | exact spec_GetLen.mono _ _ _ _
      | exact spec_Printable.mono _ _
      | exact spec_l03Width.mono _ _
      | exact LeO.none _
      | refine LeO.ite ?_ ?_
      | refine LeO.bind ?_ (fun _ => ?_)
    · intro y0 y1 y2 y3
      unfold spec_GetField.j1
      repeat' first
      | (with_reducible exact ih0 _ _ _ _ _)
      | (with_reducible exact ih1 _ _ _ _)
      | (with_reducible exact ih2 _ _ _ _)
      | (with_reducible exact spec_FieldKind.mono _ _)
      | (with_reducible exact spec_FieldSize.mono _ _)
      | (with_reducible exact spec_GetBcd.mono _ _ _ _)
      | (with_reducible exact spec_GetLen.mono _ _ _ _)
      | (with_reducible exact spec_Printable.mono _ _)
      | (with_reducible exact spec_l03Width.mono _ _)
      | (with_reducible exact LeO.refl _)
      | (with_reducible exact LeO.none _)
      | (with_reducible refine LeO.ite ?_ ?_)
      | (with_reducible refine LeO.bind ?_ (fun _ => ?_))
      | exact ih0 _ _ _ _ _
      | exact ih1 _ _ _ _
      | exact ih2 _ _ _ _
      | exact spec_FieldKind.mono _ _
      | exact spec_FieldSize.mono _ _
      | exact spec_GetBcd.mono _ _ _ _
      | exact spec_GetLen.mono _ _ _ _
      | exact spec_Printable.mono _ _
      | exact spec_l03Width.mono _ _
      | exact LeO.none _
      | refine LeO.ite ?_ ?_
      | refine LeO.bind ?_ (fun _ => ?_)
    · intro y0 y1 y2 y3
      unfold spec_GetField.j2
      repeat' first
      | (with_reducible exact ih0 _ _ _ _ _)
      | (with_reducible exact ih1 _ _ _ _)
      | (with_reducible exact ih2 _ _ _ _)
      | (with_reducible exact spec_FieldKind.mono _ _)
      | (with_reducible exact spec_FieldSize.mono _ _)
      | (with_reducible exact spec_GetBcd.mono _ _ _ _)
      | (with_reducible exact spec_GetLen.mono _ _ _ _)
      | (with_reducible exact spec_Printable.mono _ _)
      | (with_reducible exact spec_l03Width.mono _ _)
      | (with_reducible exact LeO.refl _)
      | (with_reducible exact LeO.none _)
      | (with_reducible refine LeO.ite ?_ ?_)
      | (with_reducible refine LeO.bind ?_ (fun _ => ?_))
      | exact ih0 _ _ _ _ _
      | exact ih1 _ _ _ _
      | exact ih2 _ _ _ _
      | exact spec_FieldKind.mono _ _
      | exact spec_FieldSize.mono _ _
      | exact spec_GetBcd.mono _ _ _ _
      | exact spec_GetLen.mono _ _ _ _
      | exact spec_Printable.mono _ _
      | exact spec_l03Width.mono _ _
      | exact LeO.none _
      | refine LeO.ite ?_ ?_
      | refine LeO.bind ?_ (fun _ => ?_)
theorem spec_GetField.mono : ∀ a0 a1 a2 k, LeO (spec_GetField.f k a0 a1 a2) (spec_GetField.f (k + 1) a0 a1 a2) := by
  intro a0 a1 a2 k
  obtain ⟨ih0, ih1, ih2⟩ := spec_GetField.mono_l k
  unfold spec_GetField.f
  repeat' first
      | (with_reducible exact ih0 _ _ _ _ _)
      | (with_reducible exact ih1 _ _ _ _)
      | (with_reducible exact ih2 _ _ _ _)
      | (with_reducible exact spec_FieldKind.mono _ _)
      | (with_reducible exact spec_FieldSize.mono _ _)
      | (with_reducible exact spec_GetBcd.mono _ _ _ _)
      | (with_reducible exact spec_GetLen.mono _ _ _ _)
      | (with_reducible exact spec_Printable.mono _ _)
      | (with_reducible exact spec_l03Width.mono _ _)
      | (with_reducible exact LeO.refl _)
      | (with_reducible exact LeO.none _)
      | (with_reducible refine LeO.ite ?_ ?_)
      | (with_reducible refine LeO.bind ?_ (fun _ => ?_))
      | exact ih0 _ _ _ _ _
      | exact ih1 _ _ _ _
      | exact ih2 _ _ _ _
      | exact spec_FieldKind.mono _ _
      | exact spec_FieldSize.mono _ _
      | exact spec_GetBcd.mono _ _ _ _
      | exact spec_GetLen.mono _ _ _ _
      | exact spec_Printable.mono _ _
      | exact spec_l03Width.mono _ _
      | exact LeO.none _
      | refine LeO.ite ?_ ?_
      | refine LeO.bind ?_ (fun _ => ?_)
set_option maxHeartbeats 8000000 in
set_option maxRecDepth 100000 in
theorem spec_GetField.calls (k : Nat) (A0 : Option Addr) (c0 : Nat) (l0 : List Int) (a1 : Int) (a2 : Int) (r1 : ByteArray) (r2 : Int) (r3 : Bool) (w : World) (hr0 : Kd.C (Kd.int .u8) w A0 l0.length l0) (hc0 : l0.length ≤ c0) (h : spec_GetField.f k l0 a1 a2 = some (r1, r2, r3)) :
    Calls Tryd.prog 35 #[.slice A0 l0.length c0, .int .i64 a1, .int .i64 a2] w fun e w' => e = .returned (.tuple #[.string r1, .int .i64 r2, .bool r3]) ∧ Below w.heap.size w w' := by
  have HR0 := Aside0.mk hr0
  have HC0 := Aside0.mk hc0
  clear hr0 hc0
  have HB := Aside0.mk (Below.refl w.heap.size w)
  have H : ((spec_FieldKind.f k a2).bind fun t297 => ((spec_FieldSize.f k a2).bind fun t298 => (if t297 = 0 then (spec_GetField.j0 k l0 a1 t297 t298 true) else (spec_GetField.j0 k l0 a1 t297 t298 (decide (a1 < 0)))))) = some (r1, r2, r3) := h
  clear h
  replace H := Option.bind_eq_some_iff.mp H
  obtain ⟨t297, A40, H⟩ := H
  replace H : ((spec_FieldSize.f k a2).bind fun t298 => (if t297 = 0 then (spec_GetField.j0 k l0 a1 t297 t298 true) else (spec_GetField.j0 k l0 a1 t297 t298 (decide (a1 < 0))))) = some (r1, r2, r3) := H
  have A4 := Aside0.mk A40
  clear A40
  replace H := Option.bind_eq_some_iff.mp H
  obtain ⟨t298, A50, H⟩ := H
  replace H : (if t297 = 0 then (spec_GetField.j0 k l0 a1 t297 t298 true) else (spec_GetField.j0 k l0 a1 t297 t298 (decide (a1 < 0)))) = some (r1, r2, r3) := H
  have A5 := Aside0.mk A50
  clear A50
  have HC6 := Aside0.mk H
  clear H
  go_enter Tryd.func35, Tryd.ntmps35
  go_upto_region 3 with (first | ((with_reducible refine gate_callee (f := 75) rfl ?_); refine goesL_ (some 15) rfl rfl Tryd.func75 (by kernel_rfl) rfl #[.int .i64 a2] rfl (by (try simp only [List.map_toArray, List.map_cons, List.map_nil]); first | done | rfl | (simp only [List.length_drop, List.length_take]; rfl)) ?_; (with_reducible refine (spec_FieldKind.calls k a2 t297 _ A4.out).mono ?_); rintro e w' ⟨rfl, ⟨nd, rfl⟩⟩; refine ⟨_, rfl, ?_⟩) | ((with_reducible refine gate_callee (f := 79) rfl ?_); refine goesL_ (some 17) rfl rfl Tryd.func79 (by kernel_rfl) rfl #[.int .i64 a2] rfl (by (try simp only [List.map_toArray, List.map_cons, List.map_nil]); first | done | rfl | (simp only [List.length_drop, List.length_take]; rfl)) ?_; (with_reducible refine (spec_FieldSize.calls k a2 t298 _ A5.out).mono ?_); rintro e w' ⟨rfl, ⟨nd, rfl⟩⟩; refine ⟨_, rfl, ?_⟩))
  (try simp only [Act.put, List.setIfInBounds_toArray, List.set_cons_zero, List.set_cons_succ])
  go_cut [23] (fun v23 wc => ∃ (kq : Nat) (x23_5 : Bool), v23 = .bool x23_5 ∧ Aside0 (spec_GetField.j0 kq l0 a1 t297 t298 x23_5 = some (r1, r2, r3)) ∧ Aside0 (kq ≤ k) ∧ Aside0 (Below w.heap.size w wc))
  case first =>
    have H := HC6.out
    clear HC6
    by_cases c7 : t297 = 0
    · rw [if_pos c7] at H
      have c7b0 : (t297 == 0) = true := beq_iff_eq.mpr c7
      have c7b1 : (t297 != 0) = false := bne_eq_false_iff_eq.mpr c7
      clear c7
      (first | rw [c7b0] | (simp only [i64_w, i32_w]; rw [c7b0]) | skip)
      have H' := Aside0.mk H
      clear H
      go_wp2
      go_meet
      case rel => exact ⟨_, (true), (by first | rfl | (simp; done) | (simp [*]; done) | (have e_ : ∀ x_ : Int, wrap64 (x_ % 256) = x_ % 256 := (fun x_ => (by unfold wrap64; omega)); simp [i64_w, IntKind.wrap_u8, e_]; done) | (simp; generalize ByteArray.toList _ = zz_; cases zz_ <;> rfl)), H', ⟨by first | omega | exact Nat.le_refl _⟩, ⟨by repeat (first | (with_reducible first | exact HB.out | apply below_alloc | apply pw_below_drewN | apply below_drew1) | exact HB.out)⟩⟩
    · rw [if_neg c7] at H
      have c7b0 : (t297 == 0) = false := beq_eq_false_iff_ne.mpr c7
      have c7b1 : (t297 != 0) = true := bne_iff_ne.mpr c7
      (first | rw [c7b0] | (simp only [i64_w, i32_w]; rw [c7b0]) | skip)
      have H' := Aside0.mk H
      clear H
      go_wp2
      go_meet
      case rel => exact ⟨_, (decide (a1 < 0)), (by first | rfl | (simp; done) | (simp [*]; done) | (have e_ : ∀ x_ : Int, wrap64 (x_ % 256) = x_ % 256 := (fun x_ => (by unfold wrap64; omega)); simp [i64_w, IntKind.wrap_u8, e_]; done) | (simp; generalize ByteArray.toList _ = zz_; cases zz_ <;> rfl)), H', ⟨by first | omega | exact Nat.le_refl _⟩, ⟨by repeat (first | (with_reducible first | exact HB.out | apply below_alloc | apply pw_below_drewN | apply below_drew1) | exact HB.out)⟩⟩
  case rest =>
    clear HC6
    try clear p2
    try clear c3
    try clear p6
    try clear c7
    try clear c7b0
    try clear c7b1
    obtain ⟨kq, x23_5, rfl, HA, HJ5, HB⟩ := hcut
    cases kq with
    | zero => exact absurd HA.out (by simp [spec_GetField.j0])
    | succ kj5 =>
      have H := HA.out
      clear HA
      simp only [spec_GetField.j0] at H
      by_cases c8 : x23_5 = true
      · subst c8
        have H1 : (some ((⟨#[]⟩ : ByteArray), 0, false)) = some (r1, r2, r3) := by rw [if_pos rfl] at H; exact H
        clear H
        have H := H1
        clear H1
        simp only [Option.some.injEq, Prod.mk.injEq] at H
        obtain ⟨rfl, rfl, rfl⟩ := H
        go_wp2
        go_ret3
        exact ⟨by first | rfl | (simp [errW_none, errW_some] <;> rfl) | (simp [*, errW_none, errW_some] <;> rfl), by repeat (first | (with_reducible first | exact HB.out | apply below_alloc | apply pw_below_drewN | apply below_drew1) | exact HB.out)⟩
      · replace c8 := Bool.eq_false_iff.mpr c8
        subst c8
        have H1 : ((spec_l03Width.f kj5 t297).bind fun t299 => (if t299 > 0 then ((spec_l03Width.f kj5 t297).bind fun t300 => ((spec_GetLen.f kj5 l0 a1 t300).bind fun bt301 => (if bt301.2.2 = true then ((spec_l01In.f bt301.1 1 t298).bind fun t304 => (if t304 = true then (spec_GetField.j1 kj5 l0 bt301.2.1 t297 bt301.1) else (some ((⟨#[]⟩ : ByteArray), 0, false)))) else (some ((⟨#[]⟩ : ByteArray), 0, false))))) else (spec_GetField.j1 kj5 l0 a1 t297 t298))) = some (r1, r2, r3) := by rw [if_neg (show ¬ (false = true) by decide)] at H; exact H
        clear H
        have H := H1
        clear H1
        replace H := Option.bind_eq_some_iff.mp H
        obtain ⟨t299, A90, H⟩ := H
        replace H : (if t299 > 0 then ((spec_l03Width.f kj5 t297).bind fun t300 => ((spec_GetLen.f kj5 l0 a1 t300).bind fun bt301 => (if bt301.2.2 = true then ((spec_l01In.f bt301.1 1 t298).bind fun t304 => (if t304 = true then (spec_GetField.j1 kj5 l0 bt301.2.1 t297 bt301.1) else (some ((⟨#[]⟩ : ByteArray), 0, false)))) else (some ((⟨#[]⟩ : ByteArray), 0, false))))) else (spec_GetField.j1 kj5 l0 a1 t297 t298)) = some (r1, r2, r3) := H
        have A9 := Aside0.mk A90
        clear A90
        have HC10 := Aside0.mk H
        clear H
        go_upto_if 26 with (first | ((with_reducible refine gate_callee (f := 76) rfl ?_); refine goesL_ (some 25) rfl rfl Tryd.func76 (by kernel_rfl) rfl #[.int .i64 t297] rfl (by (try simp only [List.map_toArray, List.map_cons, List.map_nil]); first | done | rfl | (simp only [List.length_drop, List.length_take]; rfl)) ?_; (with_reducible refine (spec_l03Width.calls kj5 t297 t299 _ A9.out).mono ?_); rintro e w' ⟨rfl, ⟨nd, rfl⟩⟩; refine ⟨_, rfl, ?_⟩))
        (try simp only [Act.put, List.setIfInBounds_toArray, List.set_cons_zero, List.set_cons_succ])
        go_cut [1, 10] (fun v1 v10 wc => ∃ (kq : Nat) (x1_9 : Int) (x10_9 : Int), v1 = .int .i64 x1_9 ∧ v10 = .int .i64 x10_9 ∧ Aside0 (spec_GetField.j1 kq l0 x1_9 t297 x10_9 = some (r1, r2, r3)) ∧ Aside0 (kq ≤ kj5) ∧ Aside0 (Below w.heap.size w wc))
        case first =>
          have H := HC10.out
          clear HC10
          by_cases c11 : t299 > 0
          · rw [if_pos c11] at H
            have c11b0 : decide (0 < t299) = true := decide_eq_true c11
            clear c11
            (first | rw [c11b0] | (simp only [i64_w, i32_w]; rw [c11b0]) | skip)
            replace H := Option.bind_eq_some_iff.mp H
            obtain ⟨t300, A120, H⟩ := H
            replace H : ((spec_GetLen.f kj5 l0 a1 t300).bind fun bt301 => (if bt301.2.2 = true then ((spec_l01In.f bt301.1 1 t298).bind fun t304 => (if t304 = true then (spec_GetField.j1 kj5 l0 bt301.2.1 t297 bt301.1) else (some ((⟨#[]⟩ : ByteArray), 0, false)))) else (some ((⟨#[]⟩ : ByteArray), 0, false)))) = some (r1, r2, r3) := H
            have A12 := Aside0.mk A120
            clear A120
            replace H := Option.bind_eq_some_iff.mp H
            obtain ⟨⟨t301, t302, t303⟩, A130, H⟩ := H
            replace H : (if t303 = true then ((spec_l01In.f t301 1 t298).bind fun t304 => (if t304 = true then (spec_GetField.j1 kj5 l0 t302 t297 t301) else (some ((⟨#[]⟩ : ByteArray), 0, false)))) else (some ((⟨#[]⟩ : ByteArray), 0, false))) = some (r1, r2, r3) := H
            have A13 := Aside0.mk A130
            clear A130
            by_cases c14 : t303 = true
            · subst c14
              have H1 : ((spec_l01In.f t301 1 t298).bind fun t304 => (if t304 = true then (spec_GetField.j1 kj5 l0 t302 t297 t301) else (some ((⟨#[]⟩ : ByteArray), 0, false)))) = some (r1, r2, r3) := by rw [if_pos rfl] at H; exact H
              clear H
              have H := H1
              clear H1
              replace H := Option.bind_eq_some_iff.mp H
              obtain ⟨t304, A150, H⟩ := H
              replace H : (if t304 = true then (spec_GetField.j1 kj5 l0 t302 t297 t301) else (some ((⟨#[]⟩ : ByteArray), 0, false))) = some (r1, r2, r3) := H
              have A15 := Aside0.mk A150
              clear A150
              by_cases c16 : t304 = true
              · subst c16
                have H1 : (spec_GetField.j1 kj5 l0 t302 t297 t301) = some (r1, r2, r3) := by rw [if_pos rfl] at H; exact H
                clear H
                have H := H1
                clear H1
                have H' := Aside0.mk H
                clear H
                go_wp2_with (first | ((with_reducible refine gate_callee (f := 76) rfl ?_); refine goesL_ (some 31) rfl rfl Tryd.func76 (by kernel_rfl) rfl #[.int .i64 t297] rfl (by (try simp only [List.map_toArray, List.map_cons, List.map_nil]); first | done | rfl | (simp only [List.length_drop, List.length_take]; rfl)) ?_; (with_reducible refine (spec_l03Width.calls kj5 t297 t300 _ A12.out).mono ?_); rintro e w' ⟨rfl, ⟨nd, rfl⟩⟩; refine ⟨_, rfl, ?_⟩) | ((with_reducible refine gate_callee (f := 30) rfl ?_); refine goesL_ (some 32) rfl rfl Tryd.func30 (by kernel_rfl) rfl #[.slice A0 l0.length c0, .int .i64 a1, .int .i64 t300] rfl (by (try simp only [List.map_toArray, List.map_cons, List.map_nil]); first | done | rfl | (simp only [List.length_drop, List.length_take]; rfl)) ?_; (with_reducible refine (spec_GetLen.calls kj5 _ _ l0 a1 t300 t301 t302 true _ ?side1 ?side2 A13.out).mono ?_); (case side1 => repeat (first | exact (Kd.C_below HR0.out (by repeat (first | (with_reducible first | exact HB.out | apply below_alloc | apply pw_below_drewN | apply below_drew1) | exact HB.out))) | (with_reducible refine Kd.C_alloc ?_ _) | (with_reducible refine Kd.C_drewN ?_ _) | (with_reducible refine Kd.C_drew ?_))); (case side2 => exact HC0.out); rintro e w17 ⟨rfl, hb⟩; refine ⟨_, rfl, ?_⟩; have n0_ := Aside0.mk (below_step (by repeat (first | (with_reducible first | exact HB.out | apply below_alloc | apply pw_below_drewN | apply below_drew1) | exact HB.out)) hb); clear HB; have HB := n0_; clear n0_; (try clear hb); (try clear hb2); (try clear hk); (try clear hi)) | (go_at_call 80; (with_reducible refine (spec_l01In.calls t301 1 t298 true _ A15.out).mono ?_); rintro e w' ⟨rfl, ⟨nd, rfl⟩⟩))
                go_meet
                case rel => exact ⟨_, (t302), (t301), (by first | rfl | (simp; done) | (simp [*]; done) | (have e_ : ∀ x_ : Int, wrap64 (x_ % 256) = x_ % 256 := (fun x_ => (by unfold wrap64; omega)); simp [i64_w, IntKind.wrap_u8, e_]; done) | (simp; generalize ByteArray.toList _ = zz_; cases zz_ <;> rfl)), (by first | rfl | (simp; done) | (simp [*]; done) | (have e_ : ∀ x_ : Int, wrap64 (x_ % 256) = x_ % 256 := (fun x_ => (by unfold wrap64; omega)); simp [i64_w, IntKind.wrap_u8, e_]; done) | (simp; generalize ByteArray.toList _ = zz_; cases zz_ <;> rfl)), H', ⟨by have := HJ5.out; first | omega | exact Nat.le_refl _⟩, ⟨by repeat (first | (with_reducible first | exact HB.out | apply below_alloc | apply pw_below_drewN | apply below_drew1) | exact HB.out)⟩⟩
              · replace c16 := Bool.eq_false_iff.mpr c16
                subst c16
                have H1 : (some ((⟨#[]⟩ : ByteArray), 0, false)) = some (r1, r2, r3) := by rw [if_neg (show ¬ (false = true) by decide)] at H; exact H
                clear H
                have H := H1
                clear H1
                simp only [Option.some.injEq, Prod.mk.injEq] at H
                obtain ⟨rfl, rfl, rfl⟩ := H
                go_wp2_with (first | ((with_reducible refine gate_callee (f := 76) rfl ?_); refine goesL_ (some 31) rfl rfl Tryd.func76 (by kernel_rfl) rfl #[.int .i64 t297] rfl (by (try simp only [List.map_toArray, List.map_cons, List.map_nil]); first | done | rfl | (simp only [List.length_drop, List.length_take]; rfl)) ?_; (with_reducible refine (spec_l03Width.calls kj5 t297 t300 _ A12.out).mono ?_); rintro e w' ⟨rfl, ⟨nd, rfl⟩⟩; refine ⟨_, rfl, ?_⟩) | ((with_reducible refine gate_callee (f := 30) rfl ?_); refine goesL_ (some 32) rfl rfl Tryd.func30 (by kernel_rfl) rfl #[.slice A0 l0.length c0, .int .i64 a1, .int .i64 t300] rfl (by (try simp only [List.map_toArray, List.map_cons, List.map_nil]); first | done | rfl | (simp only [List.length_drop, List.length_take]; rfl)) ?_; (with_reducible refine (spec_GetLen.calls kj5 _ _ l0 a1 t300 t301 t302 true _ ?side1 ?side2 A13.out).mono ?_); (case side1 => repeat (first | exact (Kd.C_below HR0.out (by repeat (first | (with_reducible first | exact HB.out | apply below_alloc | apply pw_below_drewN | apply below_drew1) | exact HB.out))) | (with_reducible refine Kd.C_alloc ?_ _) | (with_reducible refine Kd.C_drewN ?_ _) | (with_reducible refine Kd.C_drew ?_))); (case side2 => exact HC0.out); rintro e w18 ⟨rfl, hb⟩; refine ⟨_, rfl, ?_⟩; have n0_ := Aside0.mk (below_step (by repeat (first | (with_reducible first | exact HB.out | apply below_alloc | apply pw_below_drewN | apply below_drew1) | exact HB.out)) hb); clear HB; have HB := n0_; clear n0_; (try clear hb); (try clear hb2); (try clear hk); (try clear hi)) | (go_at_call 80; (with_reducible refine (spec_l01In.calls t301 1 t298 false _ A15.out).mono ?_); rintro e w' ⟨rfl, ⟨nd, rfl⟩⟩))
                go_ret3
                exact ⟨by first | rfl | (simp [errW_none, errW_some] <;> rfl) | (simp [*, errW_none, errW_some] <;> rfl), by repeat (first | (with_reducible first | exact HB.out | apply below_alloc | apply pw_below_drewN | apply below_drew1) | exact HB.out)⟩
            · replace c14 := Bool.eq_false_iff.mpr c14
              subst c14
              have H1 : (some ((⟨#[]⟩ : ByteArray), 0, false)) = some (r1, r2, r3) := by rw [if_neg (show ¬ (false = true) by decide)] at H; exact H
              clear H
              have H := H1
              clear H1
              simp only [Option.some.injEq, Prod.mk.injEq] at H
              obtain ⟨rfl, rfl, rfl⟩ := H
              go_wp2_with (first | ((with_reducible refine gate_callee (f := 76) rfl ?_); refine goesL_ (some 31) rfl rfl Tryd.func76 (by kernel_rfl) rfl #[.int .i64 t297] rfl (by (try simp only [List.map_toArray, List.map_cons, List.map_nil]); first | done | rfl | (simp only [List.length_drop, List.length_take]; rfl)) ?_; (with_reducible refine (spec_l03Width.calls kj5 t297 t300 _ A12.out).mono ?_); rintro e w' ⟨rfl, ⟨nd, rfl⟩⟩; refine ⟨_, rfl, ?_⟩) | ((with_reducible refine gate_callee (f := 30) rfl ?_); refine goesL_ (some 32) rfl rfl Tryd.func30 (by kernel_rfl) rfl #[.slice A0 l0.length c0, .int .i64 a1, .int .i64 t300] rfl (by (try simp only [List.map_toArray, List.map_cons, List.map_nil]); first | done | rfl | (simp only [List.length_drop, List.length_take]; rfl)) ?_; (with_reducible refine (spec_GetLen.calls kj5 _ _ l0 a1 t300 t301 t302 false _ ?side1 ?side2 A13.out).mono ?_); (case side1 => repeat (first | exact (Kd.C_below HR0.out (by repeat (first | (with_reducible first | exact HB.out | apply below_alloc | apply pw_below_drewN | apply below_drew1) | exact HB.out))) | (with_reducible refine Kd.C_alloc ?_ _) | (with_reducible refine Kd.C_drewN ?_ _) | (with_reducible refine Kd.C_drew ?_))); (case side2 => exact HC0.out); rintro e w19 ⟨rfl, hb⟩; refine ⟨_, rfl, ?_⟩; have n0_ := Aside0.mk (below_step (by repeat (first | (with_reducible first | exact HB.out | apply below_alloc | apply pw_below_drewN | apply below_drew1) | exact HB.out)) hb); clear HB; have HB := n0_; clear n0_; (try clear hb); (try clear hb2); (try clear hk); (try clear hi)))
              go_ret3
              exact ⟨by first | rfl | (simp [errW_none, errW_some] <;> rfl) | (simp [*, errW_none, errW_some] <;> rfl), by repeat (first | (with_reducible first | exact HB.out | apply below_alloc | apply pw_below_drewN | apply below_drew1) | exact HB.out)⟩
          · rw [if_neg c11] at H
            have c11b0 : decide (0 < t299) = false := decide_eq_false c11
            clear c11
            (first | rw [c11b0] | (simp only [i64_w, i32_w]; rw [c11b0]) | skip)
            have H' := Aside0.mk H
            clear H
            go_wp2
            go_meet
            case rel => exact ⟨_, (a1), (t298), (by first | rfl | (simp; done) | (simp [*]; done) | (have e_ : ∀ x_ : Int, wrap64 (x_ % 256) = x_ % 256 := (fun x_ => (by unfold wrap64; omega)); simp [i64_w, IntKind.wrap_u8, e_]; done) | (simp; generalize ByteArray.toList _ = zz_; cases zz_ <;> rfl)), (by first | rfl | (simp; done) | (simp [*]; done) | (have e_ : ∀ x_ : Int, wrap64 (x_ % 256) = x_ % 256 := (fun x_ => (by unfold wrap64; omega)); simp [i64_w, IntKind.wrap_u8, e_]; done) | (simp; generalize ByteArray.toList _ = zz_; cases zz_ <;> rfl)), H', ⟨by have := HJ5.out; first | omega | exact Nat.le_refl _⟩, ⟨by repeat (first | (with_reducible first | exact HB.out | apply below_alloc | apply pw_below_drewN | apply below_drew1) | exact HB.out)⟩⟩
        case rest =>
          clear HC10
          try clear c1
          try clear p2
          try clear c3
          try clear p6
          try clear c7
          try clear c7b0
          try clear c7b1
          try clear c8
          try clear c11
          try clear c11b0
          try clear c14
          try clear c16
          try clear p2
          try clear p6
          obtain ⟨kq, x1_9, x10_9, rfl, rfl, HA, HJ9, HB⟩ := hcut
          cases kq with
          | zero => exact absurd HA.out (by simp [spec_GetField.j1])
          | succ kj9 =>
            have H := HA.out
            clear HA
            simp only [spec_GetField.j1] at H
            have HC20 := Aside0.mk H
            clear H
            go_upto_region 11 with (fail)
            go_cut [51] (fun v51 wc => ∃ (kq : Nat) (x51_19 : Bool), v51 = .bool x51_19 ∧ Aside0 (spec_GetField.j2 kq l0 x1_9 x10_9 x51_19 = some (r1, r2, r3)) ∧ Aside0 (kq ≤ kj9) ∧ Aside0 (Below w.heap.size w wc))
            case first =>
              have H := HC20.out
              clear HC20
              by_cases c21 : t297 = 1
              · rw [if_pos c21] at H
                have c21b0 : (t297 == 1) = true := beq_iff_eq.mpr c21
                have c21b1 : (t297 != 1) = false := bne_eq_false_iff_eq.mpr c21
                clear c21
                (first | rw [c21b0] | (simp only [i64_w, i32_w]; rw [c21b0]) | skip)
                have H' := Aside0.mk H
                clear H
                go_wp2
                go_meet
                case rel => exact ⟨_, (true), (by first | rfl | (simp; done) | (simp [*]; done) | (have e_ : ∀ x_ : Int, wrap64 (x_ % 256) = x_ % 256 := (fun x_ => (by unfold wrap64; omega)); simp [i64_w, IntKind.wrap_u8, e_]; done) | (simp; generalize ByteArray.toList _ = zz_; cases zz_ <;> rfl)), H', ⟨by have := HJ5.out; have := HJ9.out; first | omega | exact Nat.le_refl _⟩, ⟨by repeat (first | (with_reducible first | exact HB.out | apply below_alloc | apply pw_below_drewN | apply below_drew1) | exact HB.out)⟩⟩
              · rw [if_neg c21] at H
                have c21b0 : (t297 == 1) = false := beq_eq_false_iff_ne.mpr c21
                have c21b1 : (t297 != 1) = true := bne_iff_ne.mpr c21
                (first | rw [c21b0] | (simp only [i64_w, i32_w]; rw [c21b0]) | skip)
                have H' := Aside0.mk H
                clear H
                go_wp2
                go_meet
                case rel => exact ⟨_, ((t297 == 3)), (by first | rfl | (simp; done) | (simp [*]; done) | (have e_ : ∀ x_ : Int, wrap64 (x_ % 256) = x_ % 256 := (fun x_ => (by unfold wrap64; omega)); simp [i64_w, IntKind.wrap_u8, e_]; done) | (simp; generalize ByteArray.toList _ = zz_; cases zz_ <;> rfl)), H', ⟨by have := HJ5.out; have := HJ9.out; first | omega | exact Nat.le_refl _⟩, ⟨by repeat (first | (with_reducible first | exact HB.out | apply below_alloc | apply pw_below_drewN | apply below_drew1) | exact HB.out)⟩⟩
            case rest =>
              clear HC20
              try clear c1
              try clear c2
              try clear p2
              try clear c3
              try clear p6
              try clear c7
              try clear c7b0
              try clear c7b1
              try clear c8
              try clear c11
              try clear c11b0
              try clear c14
              try clear c16
              try clear c21
              try clear c21b0
              try clear c21b1
              try clear p2
              try clear p6
              obtain ⟨kq, x51_19, rfl, HA, HJ19, HB⟩ := hcut
              cases kq with
              | zero => exact absurd HA.out (by simp [spec_GetField.j2])
              | succ kj19 =>
                have H := HA.out
                clear HA
                simp only [spec_GetField.j2] at H
                by_cases c22 : x51_19 = true
                · subst c22
                  have H1 : ((spec_GetBcd.f kj19 l0 x1_9 x10_9).bind fun bt305 => (some (bt305.1, bt305.2.1, bt305.2.2))) = some (r1, r2, r3) := by rw [if_pos rfl] at H; exact H
                  clear H
                  have H := H1
                  clear H1
                  replace H := Option.bind_eq_some_iff.mp H
                  obtain ⟨⟨t305, t306, t307⟩, A230, H⟩ := H
                  replace H : (some (t305, t306, t307)) = some (r1, r2, r3) := H
                  have A23 := Aside0.mk A230
                  clear A230
                  simp only [Option.some.injEq, Prod.mk.injEq] at H
                  obtain ⟨rfl, rfl, rfl⟩ := H
                  go_wp2_with (first | ((with_reducible refine gate_callee (f := 73) rfl ?_); refine goesL_ (some 55) rfl rfl Tryd.func73 (by kernel_rfl) rfl #[.slice A0 l0.length c0, .int .i64 x1_9, .int .i64 x10_9] rfl (by (try simp only [List.map_toArray, List.map_cons, List.map_nil]); first | done | rfl | (simp only [List.length_drop, List.length_take]; rfl)) ?_; (with_reducible refine (spec_GetBcd.calls kj19 _ _ l0 x1_9 x10_9 t305 t306 t307 _ ?side1 ?side2 A23.out).mono ?_); (case side1 => repeat (first | exact (Kd.C_below HR0.out HB.out) | (with_reducible refine Kd.C_alloc ?_ _) | (with_reducible refine Kd.C_drewN ?_ _) | (with_reducible refine Kd.C_drew ?_))); (case side2 => exact HC0.out); rintro e w24 ⟨rfl, hb⟩; refine ⟨_, rfl, ?_⟩; have n0_ := Aside0.mk (below_step (by repeat (first | (with_reducible first | exact HB.out | apply below_alloc | apply pw_below_drewN | apply below_drew1) | exact HB.out)) hb); clear HB; have HB := n0_; clear n0_; (try clear hb); (try clear hb2); (try clear hk); (try clear hi)))
                  go_ret3
                  exact ⟨by first | rfl | (simp [errW_none, errW_some] <;> rfl) | (simp [*, errW_none, errW_some] <;> rfl), by repeat (first | (with_reducible first | exact HB.out | apply below_alloc | apply pw_below_drewN | apply below_drew1) | exact HB.out)⟩
                · replace c22 := Bool.eq_false_iff.mpr c22
                  subst c22
                  have H1 : (if x1_9 > (l0.length : Int) then (some ((⟨#[]⟩ : ByteArray), 0, false)) else (if x10_9 > (wrap64 ((l0.length : Int) - x1_9)) then (some ((⟨#[]⟩ : ByteArray), 0, false)) else (if 0 ≤ x1_9 then (if x1_9 ≤ (wrap64 (x1_9 + x10_9)) then (if (wrap64 (x1_9 + x10_9)) ≤ (l0.length : Int) then ((spec_Printable.f kj19 (strOfNums ((l0.take ((wrap64 (x1_9 + x10_9)) : Int).toNat).drop (x1_9 : Int).toNat))).bind fun t309 => (if t309 = true then (some (strOfNums ((l0.take ((wrap64 (x1_9 + x10_9)) : Int).toNat).drop (x1_9 : Int).toNat), wrap64 (x1_9 + x10_9), true)) else (some ((⟨#[]⟩ : ByteArray), 0, false)))) else (none)) else (none)) else (none)))) = some (r1, r2, r3) := by rw [if_neg (show ¬ (false = true) by decide)] at H; exact H
                  clear H
                  have H := H1
                  clear H1
                  by_cases c25 : x1_9 > (l0.length : Int)
                  · rw [if_pos c25] at H
                    have c25b0 : decide ((l0.length : Int) < x1_9) = true := decide_eq_true c25
                    clear c25
                    simp only [Option.some.injEq, Prod.mk.injEq] at H
                    obtain ⟨rfl, rfl, rfl⟩ := H
                    go_wp2
                    go_ret3
                    exact ⟨by first | rfl | (simp [errW_none, errW_some] <;> rfl) | (simp [*, errW_none, errW_some] <;> rfl), by repeat (first | (with_reducible first | exact HB.out | apply below_alloc | apply pw_below_drewN | apply below_drew1) | exact HB.out)⟩
                  · rw [if_neg c25] at H
                    have c25b0 : decide ((l0.length : Int) < x1_9) = false := decide_eq_false c25
                    clear c25
                    by_cases c26 : x10_9 > (wrap64 ((l0.length : Int) - x1_9))
                    · rw [if_pos c26] at H
                      have c26b0 : decide ((wrap64 ((l0.length : Int) - x1_9)) < x10_9) = true := decide_eq_true c26
                      clear c26
                      simp only [Option.some.injEq, Prod.mk.injEq] at H
                      obtain ⟨rfl, rfl, rfl⟩ := H
                      go_wp2
                      go_ret3
                      exact ⟨by first | rfl | (simp [errW_none, errW_some] <;> rfl) | (simp [*, errW_none, errW_some] <;> rfl), by repeat (first | (with_reducible first | exact HB.out | apply below_alloc | apply pw_below_drewN | apply below_drew1) | exact HB.out)⟩
                    · rw [if_neg c26] at H
                      have c26b0 : decide ((wrap64 ((l0.length : Int) - x1_9)) < x10_9) = false := decide_eq_false c26
                      clear c26
                      by_cases c27 : 0 ≤ x1_9
                      · rw [if_pos c27] at H
                        have c27b0 := eq_true c27
                        have c27b1 : decide (0 ≤ x1_9) = true := decide_eq_true c27
                        clear c27
                        by_cases c28 : x1_9 ≤ (wrap64 (x1_9 + x10_9))
                        · rw [if_pos c28] at H
                          have c28b0 := eq_true c28
                          have c28b1 : decide (x1_9 ≤ (wrap64 (x1_9 + x10_9))) = true := decide_eq_true c28
                          by_cases c29 : (wrap64 (x1_9 + x10_9)) ≤ (l0.length : Int)
                          · rw [if_pos c29] at H
                            have c29b0 := eq_true c29
                            have c29b1 : decide ((wrap64 (x1_9 + x10_9)) ≤ (l0.length : Int)) = true := decide_eq_true c29
                            replace H := Option.bind_eq_some_iff.mp H
                            obtain ⟨t309, A300, H⟩ := H
                            replace H : (if t309 = true then (some (strOfNums ((l0.take ((wrap64 (x1_9 + x10_9)) : Int).toNat).drop (x1_9 : Int).toNat), wrap64 (x1_9 + x10_9), true)) else (some ((⟨#[]⟩ : ByteArray), 0, false))) = some (r1, r2, r3) := H
                            have A30 := Aside0.mk A300
                            clear A300
                            by_cases c31 : t309 = true
                            · subst c31
                              have H1 : (some (strOfNums ((l0.take ((wrap64 (x1_9 + x10_9)) : Int).toNat).drop (x1_9 : Int).toNat), wrap64 (x1_9 + x10_9), true)) = some (r1, r2, r3) := by rw [if_pos rfl] at H; exact H
                              clear H
                              have H := H1
                              clear H1
                              have c32b0 := eq_true (of_decide_eq_true (by first | (with_reducible assumption) | assumption) : 0 ≤ x1_9)
                              have c33b0 := eq_true (of_decide_eq_true (by first | (with_reducible assumption) | assumption) : x1_9 ≤ (wrap64 (x1_9 + x10_9)))
                              have c34b0 := eq_true (of_decide_eq_true (by first | (with_reducible assumption) | assumption) : (wrap64 (x1_9 + x10_9)) ≤ (l0.length : Int))
                              simp only [Option.some.injEq, Prod.mk.injEq] at H
                              obtain ⟨rfl, rfl, rfl⟩ := H
                              obtain ⟨i035, hi035, _, hsz35, _⟩ := info_parts info5
                              obtain ⟨A35, hcut35, hA35, hC35⟩ := print_mid_of (P := Tryd.prog) (Value.int .u8) 0 29 5 .i64 .i64 Tryd.underlying29 hi035 hsz35 A0 c0 l0 x1_9 (wrap64 (x1_9 + x10_9)) (of_decide_eq_true (by first | (with_reducible assumption) | assumption)) (by first | omega | exact of_decide_eq_true (by first | (with_reducible assumption) | assumption)) (of_decide_eq_true (by first | (with_reducible assumption) | assumption)) HC0.out
                              have HR308 := Aside0.mk (Kd.C_of_reads (h1 := fun _ => rfl) (hA35 _ (Kd.reads_of_C HR0.out)))
                              have HC308 := Aside0.mk hC35
                              clear hA35 hC35 hi035 hsz35
                              have hcv36 := Kd.C_string (P := Tryd.prog) (A := A35) (c := (c0 - x1_9.toNat)) Tryd.underlying29 Tryd.underlying5 Tryd.underlying9 (Kd.C_below HR308.out HB.out)
                              (try (have hl_ := (show ((l0.take ((wrap64 (x1_9 + x10_9)) : Int).toNat).drop (x1_9 : Int).toNat).length = ((wrap64 (x1_9 + x10_9)).toNat - x1_9.toNat) from (by rw [List.length_drop, List.length_take]; have h_ : ((wrap64 (x1_9 + x10_9)) : Int) ≤ (l0.length : Int) := of_decide_eq_true (by first | (with_reducible assumption) | assumption); omega)); have hcvl37 := Kd.C_string (P := Tryd.prog) (A := A35) (c := (c0 - x1_9.toNat)) Tryd.underlying29 Tryd.underlying5 Tryd.underlying9 (Kd.C_below HR308.out HB.out); rw [hl_] at hcvl37; clear hl_))
                              (try (have hl_ := (show ((l0.take ((wrap64 (x1_9 + x10_9)) : Int).toNat).drop (x1_9 : Int).toNat).length = ((wrap64 (x1_9 + x10_9)).toNat - x1_9.toNat) from (by rw [List.length_drop, List.length_take]; have h_ : ((wrap64 (x1_9 + x10_9)) : Int) ≤ (l0.length : Int) := of_decide_eq_true (by first | (with_reducible assumption) | assumption); omega)); have hcvm38 := fun (nq_ : Nat) => Kd.C_string (P := Tryd.prog) (A := A35) (c := (c0 - x1_9.toNat)) Tryd.underlying29 Tryd.underlying5 Tryd.underlying9 (Kd.C_drewN (Kd.C_below HR308.out HB.out) nq_); simp only [hl_] at hcvm38; clear hl_))
                              go_wp2_with (first | (go_at_call 81; (with_reducible refine (spec_Printable.calls kj19 (strOfNums ((l0.take ((wrap64 (x1_9 + x10_9)) : Int).toNat).drop (x1_9 : Int).toNat)) true _ A30.out).mono ?_); rintro e w' ⟨rfl, ⟨nd, rfl⟩⟩; obtain ⟨i039, hi039, _, hsz39, _⟩ := info_parts info5; obtain ⟨A39, hcut39, hA39, hC39⟩ := print_mid_of (P := Tryd.prog) (Value.int .u8) 0 29 5 .i64 .i64 Tryd.underlying29 hi039 hsz39 A0 c0 l0 x1_9 (wrap64 (x1_9 + x10_9)) (of_decide_eq_true (by first | (with_reducible assumption) | assumption)) (by first | omega | exact of_decide_eq_true (by first | (with_reducible assumption) | assumption)) (of_decide_eq_true (by first | (with_reducible assumption) | assumption)) HC0.out; have HR310 := Aside0.mk (Kd.C_of_reads (h1 := fun _ => rfl) (hA39 _ (Kd.reads_of_C HR0.out))); have HC310 := Aside0.mk hC39; clear hA39 hC39 hi039 hsz39; have hcv40 := Kd.C_string (P := Tryd.prog) (A := A39) (c := (c0 - x1_9.toNat)) Tryd.underlying29 Tryd.underlying5 Tryd.underlying9 (Kd.C_below HR310.out HB.out); (try (have hcvd41 := fun (nq_ : Nat) => Kd.C_string (P := Tryd.prog) (A := A39) (c := (c0 - x1_9.toNat)) Tryd.underlying29 Tryd.underlying5 Tryd.underlying9 (Kd.C_drewN (Kd.C_below HR310.out HB.out) nq_))); (try (have hl_ := (show ((l0.take ((wrap64 (x1_9 + x10_9)) : Int).toNat).drop (x1_9 : Int).toNat).length = ((wrap64 (x1_9 + x10_9)).toNat - x1_9.toNat) from (by rw [List.length_drop, List.length_take]; have h_ : ((wrap64 (x1_9 + x10_9)) : Int) ≤ (l0.length : Int) := of_decide_eq_true (by first | (with_reducible assumption) | assumption); omega)); have hcvl42 := Kd.C_string (P := Tryd.prog) (A := A39) (c := (c0 - x1_9.toNat)) Tryd.underlying29 Tryd.underlying5 Tryd.underlying9 (Kd.C_below HR310.out HB.out); rw [hl_] at hcvl42; clear hl_)); (try (have hl_ := (show ((l0.take ((wrap64 (x1_9 + x10_9)) : Int).toNat).drop (x1_9 : Int).toNat).length = ((wrap64 (x1_9 + x10_9)).toNat - x1_9.toNat) from (by rw [List.length_drop, List.length_take]; have h_ : ((wrap64 (x1_9 + x10_9)) : Int) ≤ (l0.length : Int) := of_decide_eq_true (by first | (with_reducible assumption) | assumption); omega)); have hcvm43 := fun (nq_ : Nat) => Kd.C_string (P := Tryd.prog) (A := A39) (c := (c0 - x1_9.toNat)) Tryd.underlying29 Tryd.underlying5 Tryd.underlying9 (Kd.C_drewN (Kd.C_below HR310.out HB.out) nq_); simp only [hl_] at hcvm43; clear hl_))))
                              go_ret3
                              exact ⟨by first | rfl | (simp [errW_none, errW_some] <;> rfl) | (simp [*, errW_none, errW_some] <;> rfl), by repeat (first | (with_reducible first | exact HB.out | apply below_alloc | apply pw_below_drewN | apply below_drew1) | exact HB.out)⟩
                            · replace c31 := Bool.eq_false_iff.mpr c31
                              subst c31
                              have H1 : (some ((⟨#[]⟩ : ByteArray), 0, false)) = some (r1, r2, r3) := by rw [if_neg (show ¬ (false = true) by decide)] at H; exact H
                              clear H
                              have H := H1
                              clear H1
                              simp only [Option.some.injEq, Prod.mk.injEq] at H
                              obtain ⟨rfl, rfl, rfl⟩ := H
                              obtain ⟨i044, hi044, _, hsz44, _⟩ := info_parts info5
                              obtain ⟨A44, hcut44, hA44, hC44⟩ := print_mid_of (P := Tryd.prog) (Value.int .u8) 0 29 5 .i64 .i64 Tryd.underlying29 hi044 hsz44 A0 c0 l0 x1_9 (wrap64 (x1_9 + x10_9)) (of_decide_eq_true (by first | (with_reducible assumption) | assumption)) (by first | omega | exact of_decide_eq_true (by first | (with_reducible assumption) | assumption)) (of_decide_eq_true (by first | (with_reducible assumption) | assumption)) HC0.out
                              have HR308 := Aside0.mk (Kd.C_of_reads (h1 := fun _ => rfl) (hA44 _ (Kd.reads_of_C HR0.out)))
                              have HC308 := Aside0.mk hC44
                              clear hA44 hC44 hi044 hsz44
                              have hcv45 := Kd.C_string (P := Tryd.prog) (A := A44) (c := (c0 - x1_9.toNat)) Tryd.underlying29 Tryd.underlying5 Tryd.underlying9 (Kd.C_below HR308.out HB.out)
                              (try (have hl_ := (show ((l0.take ((wrap64 (x1_9 + x10_9)) : Int).toNat).drop (x1_9 : Int).toNat).length = ((wrap64 (x1_9 + x10_9)).toNat - x1_9.toNat) from (by rw [List.length_drop, List.length_take]; have h_ : ((wrap64 (x1_9 + x10_9)) : Int) ≤ (l0.length : Int) := of_decide_eq_true (by first | (with_reducible assumption) | assumption); omega)); have hcvl46 := Kd.C_string (P := Tryd.prog) (A := A44) (c := (c0 - x1_9.toNat)) Tryd.underlying29 Tryd.underlying5 Tryd.underlying9 (Kd.C_below HR308.out HB.out); rw [hl_] at hcvl46; clear hl_))
                              (try (have hl_ := (show ((l0.take ((wrap64 (x1_9 + x10_9)) : Int).toNat).drop (x1_9 : Int).toNat).length = ((wrap64 (x1_9 + x10_9)).toNat - x1_9.toNat) from (by rw [List.length_drop, List.length_take]; have h_ : ((wrap64 (x1_9 + x10_9)) : Int) ≤ (l0.length : Int) := of_decide_eq_true (by first | (with_reducible assumption) | assumption); omega)); have hcvm47 := fun (nq_ : Nat) => Kd.C_string (P := Tryd.prog) (A := A44) (c := (c0 - x1_9.toNat)) Tryd.underlying29 Tryd.underlying5 Tryd.underlying9 (Kd.C_drewN (Kd.C_below HR308.out HB.out) nq_); simp only [hl_] at hcvm47; clear hl_))
                              go_wp2_with (first | (go_at_call 81; (with_reducible refine (spec_Printable.calls kj19 (strOfNums ((l0.take ((wrap64 (x1_9 + x10_9)) : Int).toNat).drop (x1_9 : Int).toNat)) false _ A30.out).mono ?_); rintro e w' ⟨rfl, ⟨nd, rfl⟩⟩))
                              go_ret3
                              exact ⟨by first | rfl | (simp [errW_none, errW_some] <;> rfl) | (simp [*, errW_none, errW_some] <;> rfl), by repeat (first | (with_reducible first | exact HB.out | apply below_alloc | apply pw_below_drewN | apply below_drew1) | exact HB.out)⟩
                          · rw [if_neg c29] at H
                            exact absurd H (by simp)
                        · rw [if_neg c28] at H
                          exact absurd H (by simp)
                      · rw [if_neg c27] at H
                        exact absurd H (by simp)

end Go.Proofs.YtiglmmofapcefaaDoor.Q
