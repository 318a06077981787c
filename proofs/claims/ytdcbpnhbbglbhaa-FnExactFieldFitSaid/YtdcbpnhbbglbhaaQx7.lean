-- Written by a program of this session (wip/mkprint.py, after the kit's print). Lean checks it.
import Derived.Test.YtdcbpnhbbglbhaaQx0
import Derived.Test.YtdcbpnhbbglbhaaQx2
import Derived.Test.YtdcbpnhbbglbhaaQx3
import Derived.Test.YtdcbpnhbbglbhaaQx6
namespace Go.Proofs.Ytdcbpnhbbglbhaa.Q
open Go.RowKit Go.Proofs.YtdcbpnhbbglbhaaW.PrintWords Go.Proofs.YtdcbpnhbbglbhaaW.PrintLast Go.Proofs.YtdcbpnhbbglbhaaW.PrintMore
attribute [local go_sem] max2_int min2_int max_two min_two max_three min_three max_four min_four   -- for this text's walks alone
set_option linter.unusedVariables false
set_option linter.unusedSimpArgs false

/-! ### spec_FieldFit: function 7 -/
mutual
def spec_FieldFit.j1 : Nat → Int → ByteArray → Option (ByteArray)
  | 0, _, _ => none
  | k + 1, x0, x1 => spec_FieldFit.l1 k x0 x1
def spec_FieldFit.l1 : Nat → Int → ByteArray → Option (ByteArray)
  | 0, _, _ => none
  | k + 1, x0, x1 => (spec_FieldSize.f k x0).bind fun t110 => (if (x1.size : Int) < t110 then ((spec_FieldKind.f k x0).bind fun t111 => (if t111 = 2 then (if x1.size + 1 ≤ 9223372036854775807 then (spec_FieldFit.l1 k x0 (x1 ++ (⟨#[32]⟩ : ByteArray))) else (none)) else ((spec_FieldOk.f k x0 x1).bind fun t112 => (if t112 = true then (some x1) else (some (⟨#[]⟩ : ByteArray)))))) else ((spec_FieldOk.f k x0 x1).bind fun t113 => (if t113 = true then (some x1) else (some (⟨#[]⟩ : ByteArray)))))
def spec_FieldFit.l0 : Nat → Int → ByteArray → Option (ByteArray)
  | 0, _, _ => none
  | k + 1, x0, x1 => (spec_FieldSize.f k x0).bind fun t108 => (if (x1.size : Int) < t108 then ((spec_FieldKind.f k x0).bind fun t109 => (if t109 = 1 then (if 1 + x1.size ≤ 9223372036854775807 then (spec_FieldFit.l0 k x0 ((⟨#[48]⟩ : ByteArray) ++ x1)) else (none)) else (spec_FieldFit.j1 k x0 x1))) else (spec_FieldFit.j1 k x0 x1))
end
def spec_FieldFit.f (k : Nat) (a0 : Int) (a1 : ByteArray) : Option (ByteArray) := spec_FieldFit.l0 k a0 a1
theorem spec_FieldFit.mono_l : ∀ k, (∀ y0 y1, LeO (spec_FieldFit.j1 k y0 y1) (spec_FieldFit.j1 (k + 1) y0 y1)) ∧ (∀ y0 y1, LeO (spec_FieldFit.l1 k y0 y1) (spec_FieldFit.l1 (k + 1) y0 y1)) ∧ (∀ y0 y1, LeO (spec_FieldFit.l0 k y0 y1) (spec_FieldFit.l0 (k + 1) y0 y1))
  | 0 => ⟨fun _ _ r h => by simp [spec_FieldFit.j1] at h, fun _ _ r h => by simp [spec_FieldFit.l1] at h, fun _ _ r h => by simp [spec_FieldFit.l0] at h⟩
  | k + 1 => by
    obtain ⟨ih0, ih1, ih2⟩ := spec_FieldFit.mono_l k
    refine ⟨?_, ?_, ?_⟩
    · intro y0 y1
      unfold spec_FieldFit.j1
      repeat' first
      | (with_reducible exact ih0 _ _)
      | (with_reducible exact ih1 _ _)
      | (with_reducible exact ih2 _ _)
      | (with_reducible exact spec_FieldKind.mono _ _)
      | (with_reducible exact spec_FieldOk.mono _ _ _)
      | (with_reducible exact spec_FieldSize.mono _ _)
      | (with_reducible exact LeO.refl _)
      | (with_reducible exact LeO.none _)
      | (with_reducible refine LeO.ite ?_ ?_)
      | (with_reducible refine LeO.bind ?_ (fun _ => ?_))
      | exact ih0 _ _
      | exact ih1 _ _
      | exact ih2 _ _
      | exact spec_FieldKind.mono _ _
      | exact spec_FieldOk.mono _ _ _
      | exact spec_FieldSize.mono _ _
      | exact LeO.none _
      | refine LeO.ite ?_ ?_
      | refine LeO.bind ?_ (fun _ => ?_)
    · intro y0 y1
      unfold spec_FieldFit.l1
      repeat' first
      | (with_reducible exact ih0 _ _)
      | (with_reducible exact ih1 _ _)
      | (with_reducible exact ih2 _ _)
      | (with_reducible exact spec_FieldKind.mono _ _)
      | (with_reducible exact spec_FieldOk.mono _ _ _)
      | (with_reducible exact spec_FieldSize.mono _ _)
      | (with_reducible exact LeO.refl _)
      | (with_reducible exact LeO.none _)
      | (with_reducible refine LeO.ite ?_ ?_)
      | (with_reducible refine LeO.bind ?_ (fun _ => ?_))
      | exact ih0 _ _
      | exact ih1 _ _
      | exact ih2 _ _
      | exact spec_FieldKind.mono _ _
      | exact spec_FieldOk.mono _ _ _
      | exact spec_FieldSize.mono _ _
      | exact LeO.none _
      | refine LeO.ite ?_ ?_
      | refine LeO.bind ?_ (fun _ => ?_)
    · intro y0 y1
      unfold spec_FieldFit.l0
      repeat' first
      | (with_reducible exact ih0 _ _)
      | (with_reducible exact ih1 _ _)
      | (with_reducible exact ih2 _ _)
      | (with_reducible exact spec_FieldKind.mono _ _)
      | (with_reducible exact spec_FieldOk.mono _ _ _)
      | (with_reducible exact spec_FieldSize.mono _ _)
      | (with_reducible exact LeO.refl _)
      | (with_reducible exact LeO.none _)
      | (with_reducible refine LeO.ite ?_ ?_)
      | (with_reducible refine LeO.bind ?_ (fun _ => ?_))
      | exact ih0 _ _
      | exact ih1 _ _
      | exact ih2 _ _
      | exact spec_FieldKind.mono _ _
      | exact spec_FieldOk.mono _ _ _
      | exact spec_FieldSize.mono _ _
      | exact LeO.none _
      | refine LeO.ite ?_ ?_
      | refine LeO.bind ?_ (fun _ => ?_)
theorem spec_FieldFit.mono : ∀ a0 a1 k, LeO (spec_FieldFit.f k a0 a1) (spec_FieldFit.f (k + 1) a0 a1) := by
  intro a0 a1 k
  obtain ⟨ih0, ih1, ih2⟩ := spec_FieldFit.mono_l k
  unfold spec_FieldFit.f
  repeat' first
      | (with_reducible exact ih0 _ _)
      | (with_reducible exact ih1 _ _)
      | (with_reducible exact ih2 _ _)
      | (with_reducible exact spec_FieldKind.mono _ _)
      | (with_reducible exact spec_FieldOk.mono _ _ _)
      | (with_reducible exact spec_FieldSize.mono _ _)
      | (with_reducible exact LeO.refl _)
      | (with_reducible exact LeO.none _)
      | (with_reducible refine LeO.ite ?_ ?_)
      | (with_reducible refine LeO.bind ?_ (fun _ => ?_))
      | exact ih0 _ _
      | exact ih1 _ _
      | exact ih2 _ _
      | exact spec_FieldKind.mono _ _
      | exact spec_FieldOk.mono _ _ _
      | exact spec_FieldSize.mono _ _
      | exact LeO.none _
      | refine LeO.ite ?_ ?_
      | refine LeO.bind ?_ (fun _ => ?_)
set_option maxHeartbeats 8000000 in
set_option maxRecDepth 100000 in
theorem spec_FieldFit.calls (k : Nat) (a0 : Int) (a1 : ByteArray) (r : ByteArray) (w : World) (h : spec_FieldFit.f k a0 a1 = some r) :
    Calls Try.prog 7 #[.int .i64 a0, .string a1] w fun e w' => e = .returned (.string r) ∧ Drawn0 w w' := by
  have H : (spec_FieldFit.l0 k a0 a1) = some r := h
  clear h
  have HC3 := Aside0.mk H
  clear H
  go_enter Try.func7, Try.ntmps7
  go_upto_block 0 with (fail)
  go_cut [1] (fun v1 wc => ∃ (kq : Nat) (x1_2 : ByteArray), v1 = .string x1_2 ∧ Aside0 (spec_FieldFit.j1 kq a0 x1_2 = some r) ∧ Aside0 (kq ≤ k) ∧ Drawn0 w wc)
  case first =>
    have H := HC3.out
    clear HC3
    have H' := Aside0.mk H
    clear H
    go_wp2
    go_loopg [1] k (fun kq v1 w' => ∃ (x1_1 : ByteArray), v1 = .string x1_1 ∧ Aside0 (spec_FieldFit.l0 kq a0 x1_1 = some r) ∧ Aside0 (kq ≤ k) ∧ Drawn0 w w')
    case atStart => exact ⟨(a1), (by first | rfl | (simp; done) | (simp [*]; done) | (have e_ : ∀ x_ : Int, wrap64 (x_ % 256) = x_ % 256 := (fun x_ => (by unfold wrap64; omega)); simp [i64_w, IntKind.wrap_u8, e_]; done) | (simp; generalize ByteArray.toList _ = zz_; cases zz_ <;> rfl)), H', ⟨Nat.le_refl _⟩, by repeat (first | exact Drawn0.refl _ | apply Drawn0.step)⟩
    case round =>
      clear H'
      try clear p2
      obtain ⟨x1_1, rfl, HA, HK1, ⟨m1, rfl⟩⟩ := hrel
      cases gk with
      | zero => exact absurd HA.out (by simp [spec_FieldFit.l0])
      | succ k1 =>
        have H := HA.out
        clear HA
        simp only [spec_FieldFit.l0] at H
        replace H := Option.bind_eq_some_iff.mp H
        obtain ⟨t108, A40, H⟩ := H
        replace H : (if (x1_1.size : Int) < t108 then ((spec_FieldKind.f k1 a0).bind fun t109 => (if t109 = 1 then (if 1 + x1_1.size ≤ 9223372036854775807 then (spec_FieldFit.l0 k1 a0 ((⟨#[48]⟩ : ByteArray) ++ x1_1)) else (none)) else (spec_FieldFit.j1 k1 a0 x1_1))) else (spec_FieldFit.j1 k1 a0 x1_1)) = some r := H
        have A4 := Aside0.mk A40
        clear A40
        by_cases c5 : (x1_1.size : Int) < t108
        · rw [if_pos c5] at H
          have c5b0 : decide ((x1_1.size : Int) < t108) = true := decide_eq_true c5
          clear c5
          (first | rw [c5b0] | (simp only [i64_w, i32_w]; rw [c5b0]) | skip)
          replace H := Option.bind_eq_some_iff.mp H
          obtain ⟨t109, A60, H⟩ := H
          replace H : (if t109 = 1 then (if 1 + x1_1.size ≤ 9223372036854775807 then (spec_FieldFit.l0 k1 a0 ((⟨#[48]⟩ : ByteArray) ++ x1_1)) else (none)) else (spec_FieldFit.j1 k1 a0 x1_1)) = some r := H
          have A6 := Aside0.mk A60
          clear A60
          by_cases c7 : t109 = 1
          · rw [if_pos c7] at H
            have c7b0 : (t109 == 1) = true := beq_iff_eq.mpr c7
            have c7b1 : (t109 != 1) = false := bne_eq_false_iff_eq.mpr c7
            clear c7
            by_cases c8 : 1 + x1_1.size ≤ 9223372036854775807
            · rw [if_pos c8] at H
              have c8b0 := eq_true c8
              have c8b1 : decide (1 + x1_1.size ≤ 9223372036854775807) = true := decide_eq_true c8
              try have c8b2 : (9223372036854775807 < 1 + x1_1.size) = False := eq_false (Nat.not_lt.2 c8)
              try (have c8b3 := c8b2; simp only [ByteArray.size_append, ByteArray.size_extract, Nat.sub_zero, Nat.min_self] at c8b3)
              have H' := Aside0.mk H
              clear H
              go_wp2_with (first | ((with_reducible refine gate_callee (f := 24) rfl ?_); refine goesL_ (some 8) rfl rfl Try.func24 (by kernel_rfl) rfl #[.int .i64 a0] rfl (by (try simp only [List.map_toArray, List.map_cons, List.map_nil]); first | done | rfl | (simp only [List.length_drop, List.length_take]; rfl)) ?_; (with_reducible refine (spec_FieldSize.calls k1 a0 t108 _ A4.out).mono ?_); rintro e w' ⟨rfl, ⟨nd, rfl⟩⟩; refine ⟨_, rfl, ?_⟩) | (go_at_call 25; (with_reducible refine (spec_FieldKind.calls k1 a0 t109 _ A6.out).mono ?_); rintro e w' ⟨rfl, ⟨nd, rfl⟩⟩))
              go_roundg k1
              case measure => have := HK1.out; omega
              case rel => exact ⟨((⟨#[48]⟩ : ByteArray) ++ x1_1), (by first | rfl | (simp; done) | (simp [*]; done) | (have e_ : ∀ x_ : Int, wrap64 (x_ % 256) = x_ % 256 := (fun x_ => (by unfold wrap64; omega)); simp [i64_w, IntKind.wrap_u8, e_]; done) | (simp; generalize ByteArray.toList _ = zz_; cases zz_ <;> rfl)), H', ⟨by have := HK1.out; omega⟩, by repeat (first | exact Drawn0.refl _ | apply Drawn0.step)⟩
            · rw [if_neg c8] at H
              exact absurd H (by simp)
          · rw [if_neg c7] at H
            have c7b0 : (t109 == 1) = false := beq_eq_false_iff_ne.mpr c7
            have c7b1 : (t109 != 1) = true := bne_iff_ne.mpr c7
            have H' := Aside0.mk H
            clear H
            go_wp2_with (first | ((with_reducible refine gate_callee (f := 24) rfl ?_); refine goesL_ (some 8) rfl rfl Try.func24 (by kernel_rfl) rfl #[.int .i64 a0] rfl (by (try simp only [List.map_toArray, List.map_cons, List.map_nil]); first | done | rfl | (simp only [List.length_drop, List.length_take]; rfl)) ?_; (with_reducible refine (spec_FieldSize.calls k1 a0 t108 _ A4.out).mono ?_); rintro e w' ⟨rfl, ⟨nd, rfl⟩⟩; refine ⟨_, rfl, ?_⟩) | (go_at_call 25; (with_reducible refine (spec_FieldKind.calls k1 a0 t109 _ A6.out).mono ?_); rintro e w' ⟨rfl, ⟨nd, rfl⟩⟩))
            go_meet
            case rel => exact ⟨_, (x1_1), (by first | rfl | (simp; done) | (simp [*]; done) | (have e_ : ∀ x_ : Int, wrap64 (x_ % 256) = x_ % 256 := (fun x_ => (by unfold wrap64; omega)); simp [i64_w, IntKind.wrap_u8, e_]; done) | (simp; generalize ByteArray.toList _ = zz_; cases zz_ <;> rfl)), H', ⟨by have := HK1.out; first | omega | exact Nat.le_refl _⟩, by repeat (first | exact Drawn0.refl _ | apply Drawn0.step)⟩
        · rw [if_neg c5] at H
          have c5b0 : decide ((x1_1.size : Int) < t108) = false := decide_eq_false c5
          clear c5
          (first | rw [c5b0] | (simp only [i64_w, i32_w]; rw [c5b0]) | skip)
          have H' := Aside0.mk H
          clear H
          go_wp2_with (first | ((with_reducible refine gate_callee (f := 24) rfl ?_); refine goesL_ (some 8) rfl rfl Try.func24 (by kernel_rfl) rfl #[.int .i64 a0] rfl (by (try simp only [List.map_toArray, List.map_cons, List.map_nil]); first | done | rfl | (simp only [List.length_drop, List.length_take]; rfl)) ?_; (with_reducible refine (spec_FieldSize.calls k1 a0 t108 _ A4.out).mono ?_); rintro e w' ⟨rfl, ⟨nd, rfl⟩⟩; refine ⟨_, rfl, ?_⟩))
          go_meet
          case rel => exact ⟨_, (x1_1), (by first | rfl | (simp; done) | (simp [*]; done) | (have e_ : ∀ x_ : Int, wrap64 (x_ % 256) = x_ % 256 := (fun x_ => (by unfold wrap64; omega)); simp [i64_w, IntKind.wrap_u8, e_]; done) | (simp; generalize ByteArray.toList _ = zz_; cases zz_ <;> rfl)), H', ⟨by have := HK1.out; first | omega | exact Nat.le_refl _⟩, by repeat (first | exact Drawn0.refl _ | apply Drawn0.step)⟩
  case rest =>
    clear HC3
    try clear c2
    try clear p2
    try clear c5
    try clear c5b0
    try clear p6
    try clear c7
    try clear c7b0
    try clear c7b1
    try clear c8
    try clear c8b0
    try clear c8b1
    try clear c8b2
    try clear p2
    obtain ⟨kq, x1_2, rfl, HA, HJ2, ⟨mc2, rfl⟩⟩ := hcut
    cases kq with
    | zero => exact absurd HA.out (by simp [spec_FieldFit.j1])
    | succ kj2 =>
      have H := HA.out
      clear HA
      simp only [spec_FieldFit.j1] at H
      have H' := Aside0.mk H
      clear H
      go_wp2
      go_loopg [1] kj2 (fun kq v1 w' => ∃ (x1_2 : ByteArray), v1 = .string x1_2 ∧ Aside0 (spec_FieldFit.l1 kq a0 x1_2 = some r) ∧ Aside0 (kq ≤ kj2) ∧ Drawn0 w w')
      case atStart => exact ⟨(x1_2), (by first | rfl | (simp; done) | (simp [*]; done) | (have e_ : ∀ x_ : Int, wrap64 (x_ % 256) = x_ % 256 := (fun x_ => (by unfold wrap64; omega)); simp [i64_w, IntKind.wrap_u8, e_]; done) | (simp; generalize ByteArray.toList _ = zz_; cases zz_ <;> rfl)), H', ⟨Nat.le_refl _⟩, by repeat (first | exact Drawn0.refl _ | apply Drawn0.step)⟩
      case round =>
        clear H'
        try clear c2
        try clear p2
        try clear c5
        try clear c5b0
        try clear p6
        try clear c7
        try clear c7b0
        try clear c7b1
        try clear c8
        try clear c8b0
        try clear c8b1
        try clear c8b2
        try clear p2
        try clear p6
        obtain ⟨x1_2, rfl, HA, HK2, ⟨m2, rfl⟩⟩ := hrel
        cases gk with
        | zero => exact absurd HA.out (by simp [spec_FieldFit.l1])
        | succ k2 =>
          have H := HA.out
          clear HA
          simp only [spec_FieldFit.l1] at H
          replace H := Option.bind_eq_some_iff.mp H
          obtain ⟨t110, A90, H⟩ := H
          replace H : (if (x1_2.size : Int) < t110 then ((spec_FieldKind.f k2 a0).bind fun t111 => (if t111 = 2 then (if x1_2.size + 1 ≤ 9223372036854775807 then (spec_FieldFit.l1 k2 a0 (x1_2 ++ (⟨#[32]⟩ : ByteArray))) else (none)) else ((spec_FieldOk.f k2 a0 x1_2).bind fun t112 => (if t112 = true then (some x1_2) else (some (⟨#[]⟩ : ByteArray)))))) else ((spec_FieldOk.f k2 a0 x1_2).bind fun t113 => (if t113 = true then (some x1_2) else (some (⟨#[]⟩ : ByteArray))))) = some r := H
          have A9 := Aside0.mk A90
          clear A90
          by_cases c10 : (x1_2.size : Int) < t110
          · rw [if_pos c10] at H
            have c10b0 : decide ((x1_2.size : Int) < t110) = true := decide_eq_true c10
            clear c10
            replace H := Option.bind_eq_some_iff.mp H
            obtain ⟨t111, A110, H⟩ := H
            replace H : (if t111 = 2 then (if x1_2.size + 1 ≤ 9223372036854775807 then (spec_FieldFit.l1 k2 a0 (x1_2 ++ (⟨#[32]⟩ : ByteArray))) else (none)) else ((spec_FieldOk.f k2 a0 x1_2).bind fun t112 => (if t112 = true then (some x1_2) else (some (⟨#[]⟩ : ByteArray))))) = some r := H
            have A11 := Aside0.mk A110
            clear A110
            by_cases c12 : t111 = 2
            · rw [if_pos c12] at H
              have c12b0 : (t111 == 2) = true := beq_iff_eq.mpr c12
              have c12b1 : (t111 != 2) = false := bne_eq_false_iff_eq.mpr c12
              clear c12
              by_cases c13 : x1_2.size + 1 ≤ 9223372036854775807
              · rw [if_pos c13] at H
                have c13b0 := eq_true c13
                have c13b1 : decide (x1_2.size + 1 ≤ 9223372036854775807) = true := decide_eq_true c13
                try have c13b2 : (9223372036854775807 < x1_2.size + 1) = False := eq_false (Nat.not_lt.2 c13)
                try (have c13b3 := c13b2; simp only [ByteArray.size_append, ByteArray.size_extract, Nat.sub_zero, Nat.min_self] at c13b3)
                have H' := Aside0.mk H
                clear H
                go_wp2_with (first | ((with_reducible refine gate_callee (f := 24) rfl ?_); refine goesL_ (some 20) rfl rfl Try.func24 (by kernel_rfl) rfl #[.int .i64 a0] rfl (by (try simp only [List.map_toArray, List.map_cons, List.map_nil]); first | done | rfl | (simp only [List.length_drop, List.length_take]; rfl)) ?_; (with_reducible refine (spec_FieldSize.calls k2 a0 t110 _ A9.out).mono ?_); rintro e w' ⟨rfl, ⟨nd, rfl⟩⟩; refine ⟨_, rfl, ?_⟩) | (go_at_call 25; (with_reducible refine (spec_FieldKind.calls k2 a0 t111 _ A11.out).mono ?_); rintro e w' ⟨rfl, ⟨nd, rfl⟩⟩))
                go_roundg k2
                case measure => have := HJ2.out; have := HK2.out; omega
                case rel => exact ⟨(x1_2 ++ (⟨#[32]⟩ : ByteArray)), (by first | rfl | (simp; done) | (simp [*]; done) | (have e_ : ∀ x_ : Int, wrap64 (x_ % 256) = x_ % 256 := (fun x_ => (by unfold wrap64; omega)); simp [i64_w, IntKind.wrap_u8, e_]; done) | (simp; generalize ByteArray.toList _ = zz_; cases zz_ <;> rfl)), H', ⟨by have := HJ2.out; have := HK2.out; omega⟩, by repeat (first | exact Drawn0.refl _ | apply Drawn0.step)⟩
              · rw [if_neg c13] at H
                exact absurd H (by simp)
            · rw [if_neg c12] at H
              have c12b0 : (t111 == 2) = false := beq_eq_false_iff_ne.mpr c12
              have c12b1 : (t111 != 2) = true := bne_iff_ne.mpr c12
              replace H := Option.bind_eq_some_iff.mp H
              obtain ⟨t112, A140, H⟩ := H
              replace H : (if t112 = true then (some x1_2) else (some (⟨#[]⟩ : ByteArray))) = some r := H
              have A14 := Aside0.mk A140
              clear A140
              by_cases c15 : t112 = true
              · subst c15
                have H1 : (some x1_2) = some r := by rw [if_pos rfl] at H; exact H
                clear H
                have H := H1
                clear H1
                obtain rfl := Option.some.inj H
                go_wp2_with (first | ((with_reducible refine gate_callee (f := 24) rfl ?_); refine goesL_ (some 20) rfl rfl Try.func24 (by kernel_rfl) rfl #[.int .i64 a0] rfl (by (try simp only [List.map_toArray, List.map_cons, List.map_nil]); first | done | rfl | (simp only [List.length_drop, List.length_take]; rfl)) ?_; (with_reducible refine (spec_FieldSize.calls k2 a0 t110 _ A9.out).mono ?_); rintro e w' ⟨rfl, ⟨nd, rfl⟩⟩; refine ⟨_, rfl, ?_⟩) | (go_at_call 25; (with_reducible refine (spec_FieldKind.calls k2 a0 t111 _ A11.out).mono ?_); rintro e w' ⟨rfl, ⟨nd, rfl⟩⟩) | ((with_reducible refine gate_callee (f := 26) rfl ?_); refine goesL_ (some 31) rfl rfl Try.func26 (by kernel_rfl) rfl #[.int .i64 a0, .string x1_2] rfl (by (try simp only [List.map_toArray, List.map_cons, List.map_nil]); first | done | rfl | (simp only [List.length_drop, List.length_take]; rfl)) ?_; (with_reducible refine (spec_FieldOk.calls k2 a0 x1_2 true _ A14.out).mono ?_); rintro e w' ⟨rfl, ⟨nd, rfl⟩⟩; refine ⟨_, rfl, ?_⟩))
                go_ret
                exact ⟨by first | rfl | (simp; done) | (simp [*]; done) | (have e_ : ∀ x_ : Int, wrap64 (x_ % 256) = x_ % 256 := (fun x_ => (by unfold wrap64; omega)); simp [i64_w, IntKind.wrap_u8, e_]; done) | (simp; generalize ByteArray.toList _ = zz_; cases zz_ <;> rfl), by repeat (first | exact Drawn0.refl _ | apply Drawn0.step)⟩
              · replace c15 := Bool.eq_false_iff.mpr c15
                subst c15
                have H1 : (some (⟨#[]⟩ : ByteArray)) = some r := by rw [if_neg (show ¬ (false = true) by decide)] at H; exact H
                clear H
                have H := H1
                clear H1
                obtain rfl := Option.some.inj H
                go_wp2_with (first | ((with_reducible refine gate_callee (f := 24) rfl ?_); refine goesL_ (some 20) rfl rfl Try.func24 (by kernel_rfl) rfl #[.int .i64 a0] rfl (by (try simp only [List.map_toArray, List.map_cons, List.map_nil]); first | done | rfl | (simp only [List.length_drop, List.length_take]; rfl)) ?_; (with_reducible refine (spec_FieldSize.calls k2 a0 t110 _ A9.out).mono ?_); rintro e w' ⟨rfl, ⟨nd, rfl⟩⟩; refine ⟨_, rfl, ?_⟩) | (go_at_call 25; (with_reducible refine (spec_FieldKind.calls k2 a0 t111 _ A11.out).mono ?_); rintro e w' ⟨rfl, ⟨nd, rfl⟩⟩) | ((with_reducible refine gate_callee (f := 26) rfl ?_); refine goesL_ (some 31) rfl rfl Try.func26 (by kernel_rfl) rfl #[.int .i64 a0, .string x1_2] rfl (by (try simp only [List.map_toArray, List.map_cons, List.map_nil]); first | done | rfl | (simp only [List.length_drop, List.length_take]; rfl)) ?_; (with_reducible refine (spec_FieldOk.calls k2 a0 x1_2 false _ A14.out).mono ?_); rintro e w' ⟨rfl, ⟨nd, rfl⟩⟩; refine ⟨_, rfl, ?_⟩))
                go_ret
                exact ⟨by first | rfl | (simp; done) | (simp [*]; done) | (have e_ : ∀ x_ : Int, wrap64 (x_ % 256) = x_ % 256 := (fun x_ => (by unfold wrap64; omega)); simp [i64_w, IntKind.wrap_u8, e_]; done) | (simp; generalize ByteArray.toList _ = zz_; cases zz_ <;> rfl), by repeat (first | exact Drawn0.refl _ | apply Drawn0.step)⟩
          · rw [if_neg c10] at H
            have c10b0 : decide ((x1_2.size : Int) < t110) = false := decide_eq_false c10
            clear c10
            replace H := Option.bind_eq_some_iff.mp H
            obtain ⟨t113, A160, H⟩ := H
            replace H : (if t113 = true then (some x1_2) else (some (⟨#[]⟩ : ByteArray))) = some r := H
            have A16 := Aside0.mk A160
            clear A160
            by_cases c17 : t113 = true
            · subst c17
              have H1 : (some x1_2) = some r := by rw [if_pos rfl] at H; exact H
              clear H
              have H := H1
              clear H1
              obtain rfl := Option.some.inj H
              go_wp2_with (first | ((with_reducible refine gate_callee (f := 24) rfl ?_); refine goesL_ (some 20) rfl rfl Try.func24 (by kernel_rfl) rfl #[.int .i64 a0] rfl (by (try simp only [List.map_toArray, List.map_cons, List.map_nil]); first | done | rfl | (simp only [List.length_drop, List.length_take]; rfl)) ?_; (with_reducible refine (spec_FieldSize.calls k2 a0 t110 _ A9.out).mono ?_); rintro e w' ⟨rfl, ⟨nd, rfl⟩⟩; refine ⟨_, rfl, ?_⟩) | ((with_reducible refine gate_callee (f := 26) rfl ?_); refine goesL_ (some 31) rfl rfl Try.func26 (by kernel_rfl) rfl #[.int .i64 a0, .string x1_2] rfl (by (try simp only [List.map_toArray, List.map_cons, List.map_nil]); first | done | rfl | (simp only [List.length_drop, List.length_take]; rfl)) ?_; (with_reducible refine (spec_FieldOk.calls k2 a0 x1_2 true _ A16.out).mono ?_); rintro e w' ⟨rfl, ⟨nd, rfl⟩⟩; refine ⟨_, rfl, ?_⟩))
              go_ret
              exact ⟨by first | rfl | (simp; done) | (simp [*]; done) | (have e_ : ∀ x_ : Int, wrap64 (x_ % 256) = x_ % 256 := (fun x_ => (by unfold wrap64; omega)); simp [i64_w, IntKind.wrap_u8, e_]; done) | (simp; generalize ByteArray.toList _ = zz_; cases zz_ <;> rfl), by repeat (first | exact Drawn0.refl _ | apply Drawn0.step)⟩
            · replace c17 := Bool.eq_false_iff.mpr c17
              subst c17
              have H1 : (some (⟨#[]⟩ : ByteArray)) = some r := by rw [if_neg (show ¬ (false = true) by decide)] at H; exact H
              clear H
              have H := H1
              clear H1
              obtain rfl := Option.some.inj H
              go_wp2_with (first | ((with_reducible refine gate_callee (f := 24) rfl ?_); refine goesL_ (some 20) rfl rfl Try.func24 (by kernel_rfl) rfl #[.int .i64 a0] rfl (by (try simp only [List.map_toArray, List.map_cons, List.map_nil]); first | done | rfl | (simp only [List.length_drop, List.length_take]; rfl)) ?_; (with_reducible refine (spec_FieldSize.calls k2 a0 t110 _ A9.out).mono ?_); rintro e w' ⟨rfl, ⟨nd, rfl⟩⟩; refine ⟨_, rfl, ?_⟩) | ((with_reducible refine gate_callee (f := 26) rfl ?_); refine goesL_ (some 31) rfl rfl Try.func26 (by kernel_rfl) rfl #[.int .i64 a0, .string x1_2] rfl (by (try simp only [List.map_toArray, List.map_cons, List.map_nil]); first | done | rfl | (simp only [List.length_drop, List.length_take]; rfl)) ?_; (with_reducible refine (spec_FieldOk.calls k2 a0 x1_2 false _ A16.out).mono ?_); rintro e w' ⟨rfl, ⟨nd, rfl⟩⟩; refine ⟨_, rfl, ?_⟩))
              go_ret
              exact ⟨by first | rfl | (simp; done) | (simp [*]; done) | (have e_ : ∀ x_ : Int, wrap64 (x_ % 256) = x_ % 256 := (fun x_ => (by unfold wrap64; omega)); simp [i64_w, IntKind.wrap_u8, e_]; done) | (simp; generalize ByteArray.toList _ = zz_; cases zz_ <;> rfl), by repeat (first | exact Drawn0.refl _ | apply Drawn0.step)⟩

end Go.Proofs.Ytdcbpnhbbglbhaa.Q
