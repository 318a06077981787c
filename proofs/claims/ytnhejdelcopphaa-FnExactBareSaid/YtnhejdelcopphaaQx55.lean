-- Written by a program of this session (wip/mkprint.py, after the kit's print). Lean checks it.
import Derived.Test.YtnhejdelcopphaaQx0
import Derived.Test.YtnhejdelcopphaaQx4
import Derived.Test.YtnhejdelcopphaaQx50
namespace Go.Proofs.Ytnhejdelcopphaa.Q
open Go.RowKit Go.Proofs.YtnhejdelcopphaaW.PrintWords Go.Proofs.YtnhejdelcopphaaW.PrintLast Go.Proofs.YtnhejdelcopphaaW.PrintMore
attribute [local go_sem] max2_int min2_int max_two min_two max_three min_three max_four min_four   -- for this text's walks alone
set_option linter.unusedVariables false
set_option linter.unusedSimpArgs false

/-! ### impl_ReplyMti: function 70 -/
def impl_ReplyMti.f (k : Nat) (a0 : ByteArray) : Option (ByteArray) := (impl_isWide.f k a0 4).bind fun t542 => (if t542 = true then (if 2 < (a0.size : Int) then (if ((((bt a0 2) - 48) % 256) % 2) = 1 then (some (⟨#[]⟩ : ByteArray)) else (if 0 ≤ 2 then (if 2 ≤ (a0.size : Int) then (if (a0.extract 0 2).size + (Utf8.encode (((bt a0 2) + 1) % 256)).size ≤ 9223372036854775807 then (if 3 ≤ (a0.size : Int) then (if ((a0.extract 0 2) ++ (Utf8.encode (((bt a0 2) + 1) % 256))).size + (a0.extract 3 a0.size).size ≤ 9223372036854775807 then (some (((a0.extract 0 2) ++ (Utf8.encode (((bt a0 2) + 1) % 256))) ++ (a0.extract 3 a0.size))) else (none)) else (none)) else (none)) else (none)) else (none))) else (none)) else (some (⟨#[]⟩ : ByteArray)))
theorem impl_ReplyMti.mono : ∀ a0 k, LeO (impl_ReplyMti.f k a0) (impl_ReplyMti.f (k + 1) a0) := by
  intro a0 k
  unfold impl_ReplyMti.f
  repeat' first
      | (with_reducible exact impl_isWide.mono _ _ _)
      | (with_reducible exact LeO.refl _)
      | (with_reducible exact LeO.none _)
      | (with_reducible refine LeO.ite ?_ ?_)
      | (with_reducible refine LeO.bind ?_ (fun _ => ?_))
      | exact impl_isWide.mono _ _ _
      | exact LeO.none _
      | refine LeO.ite ?_ ?_
      | refine LeO.bind ?_ (fun _ => ?_)
set_option maxHeartbeats 8000000 in
set_option maxRecDepth 100000 in
theorem impl_ReplyMti.calls (k : Nat) (a0 : ByteArray) (r : ByteArray) (w : World) (h : impl_ReplyMti.f k a0 = some r) :
    Calls Try.prog 70 #[.string a0] w fun e w' => e = .returned (.string r) ∧ Drawn0 w w' := by
  have H : ((impl_isWide.f k a0 4).bind fun t542 => (if t542 = true then (if 2 < (a0.size : Int) then (if ((((bt a0 2) - 48) % 256) % 2) = 1 then (some (⟨#[]⟩ : ByteArray)) else (if 0 ≤ 2 then (if 2 ≤ (a0.size : Int) then (if (a0.extract 0 2).size + (Utf8.encode (((bt a0 2) + 1) % 256)).size ≤ 9223372036854775807 then (if 3 ≤ (a0.size : Int) then (if ((a0.extract 0 2) ++ (Utf8.encode (((bt a0 2) + 1) % 256))).size + (a0.extract 3 a0.size).size ≤ 9223372036854775807 then (some (((a0.extract 0 2) ++ (Utf8.encode (((bt a0 2) + 1) % 256))) ++ (a0.extract 3 a0.size))) else (none)) else (none)) else (none)) else (none)) else (none))) else (none)) else (some (⟨#[]⟩ : ByteArray)))) = some r := h
  clear h
  replace H := Option.bind_eq_some_iff.mp H
  obtain ⟨t542, A20, H⟩ := H
  replace H : (if t542 = true then (if 2 < (a0.size : Int) then (if ((((bt a0 2) - 48) % 256) % 2) = 1 then (some (⟨#[]⟩ : ByteArray)) else (if 0 ≤ 2 then (if 2 ≤ (a0.size : Int) then (if (a0.extract 0 2).size + (Utf8.encode (((bt a0 2) + 1) % 256)).size ≤ 9223372036854775807 then (if 3 ≤ (a0.size : Int) then (if ((a0.extract 0 2) ++ (Utf8.encode (((bt a0 2) + 1) % 256))).size + (a0.extract 3 a0.size).size ≤ 9223372036854775807 then (some (((a0.extract 0 2) ++ (Utf8.encode (((bt a0 2) + 1) % 256))) ++ (a0.extract 3 a0.size))) else (none)) else (none)) else (none)) else (none)) else (none))) else (none)) else (some (⟨#[]⟩ : ByteArray))) = some r := H
  have A2 := Aside0.mk A20
  clear A20
  by_cases c3 : t542 = true
  · subst c3
    have H1 : (if 2 < (a0.size : Int) then (if ((((bt a0 2) - 48) % 256) % 2) = 1 then (some (⟨#[]⟩ : ByteArray)) else (if 0 ≤ 2 then (if 2 ≤ (a0.size : Int) then (if (a0.extract 0 2).size + (Utf8.encode (((bt a0 2) + 1) % 256)).size ≤ 9223372036854775807 then (if 3 ≤ (a0.size : Int) then (if ((a0.extract 0 2) ++ (Utf8.encode (((bt a0 2) + 1) % 256))).size + (a0.extract 3 a0.size).size ≤ 9223372036854775807 then (some (((a0.extract 0 2) ++ (Utf8.encode (((bt a0 2) + 1) % 256))) ++ (a0.extract 3 a0.size))) else (none)) else (none)) else (none)) else (none)) else (none))) else (none)) = some r := by rw [if_pos rfl] at H; exact H
    clear H
    have H := H1
    clear H1
    by_cases c4 : 2 < (a0.size : Int)
    · rw [if_pos c4] at H
      have c4b0 : decide (2 < (a0.size : Int)) = true := decide_eq_true c4
      have c4b1 : decide (2 < a0.size) = true := decide_eq_true (by omega)
      clear c4
      by_cases c6 : ((((bt a0 2) - 48) % 256) % 2) = 1
      · rw [if_pos c6] at H
        have c6b0 : (((((bt a0 2) - 48) % 256) % 2) == 1) = true := beq_iff_eq.mpr c6
        have c6b1 : (((((bt a0 2) - 48) % 256) % 2) != 1) = false := bne_eq_false_iff_eq.mpr c6
        clear c6
        obtain rfl := Option.some.inj H
        go_enter Try.func70, Try.ntmps70
        go_wp2_with (first | (go_at_call 67; (with_reducible refine (impl_isWide.calls k a0 4 true _ A2.out).mono ?_); rintro e w' ⟨rfl, ⟨nd, rfl⟩⟩; (try first | exact ⟨rfl, _, World.drewN_drewN _ _ _⟩ | exact ⟨rfl, _, Eq.trans (World.drewN_drewN _ _ _) (congrArg (World.drewN _) (Nat.add_assoc _ _ _))⟩); have p5 : 0 ≤ (2 : Int) := (by omega); have q5 : 2 < a0.size := (by have : (2 : Int) < (a0.size : Int) := of_decide_eq_true (by first | (with_reducible assumption) | assumption); omega); have hx5 : ∀ h : 2 < a0.size, ((a0[2]'h).toNat : Int) = bt a0 2 := bt_at a0 2; clear p5; have qi5 : (2 < (a0.size : Int)) = True := eq_true (of_decide_eq_true (by first | (with_reducible assumption) | assumption)); replace q5 := eq_true q5))
        repeat (go_quiet (first | (go_at_call 67; (with_reducible refine (impl_isWide.calls k a0 4 true _ A2.out).mono ?_); rintro e w' ⟨rfl, ⟨nd, rfl⟩⟩; (try first | exact ⟨rfl, _, World.drewN_drewN _ _ _⟩ | exact ⟨rfl, _, Eq.trans (World.drewN_drewN _ _ _) (congrArg (World.drewN _) (Nat.add_assoc _ _ _))⟩); have p5 : 0 ≤ (2 : Int) := (by omega); have q5 : 2 < a0.size := (by have : (2 : Int) < (a0.size : Int) := of_decide_eq_true (by first | (with_reducible assumption) | assumption); omega); have hx5 : ∀ h : 2 < a0.size, ((a0[2]'h).toNat : Int) = bt a0 2 := bt_at a0 2; clear p5; have qi5 : (2 < (a0.size : Int)) = True := eq_true (of_decide_eq_true (by first | (with_reducible assumption) | assumption)); replace q5 := eq_true q5)); try go_wp2_with (first | (go_at_call 67; (with_reducible refine (impl_isWide.calls k a0 4 true _ A2.out).mono ?_); rintro e w' ⟨rfl, ⟨nd, rfl⟩⟩; (try first | exact ⟨rfl, _, World.drewN_drewN _ _ _⟩ | exact ⟨rfl, _, Eq.trans (World.drewN_drewN _ _ _) (congrArg (World.drewN _) (Nat.add_assoc _ _ _))⟩); have p5 : 0 ≤ (2 : Int) := (by omega); have q5 : 2 < a0.size := (by have : (2 : Int) < (a0.size : Int) := of_decide_eq_true (by first | (with_reducible assumption) | assumption); omega); have hx5 : ∀ h : 2 < a0.size, ((a0[2]'h).toNat : Int) = bt a0 2 := bt_at a0 2; clear p5; have qi5 : (2 < (a0.size : Int)) = True := eq_true (of_decide_eq_true (by first | (with_reducible assumption) | assumption)); replace q5 := eq_true q5)))
        go_ret
        exact ⟨by first | rfl | (simp; done) | (simp [*]; done) | (have e_ : ∀ x_ : Int, wrap64 (x_ % 256) = x_ % 256 := (fun x_ => (by unfold wrap64; omega)); simp [i64_w, IntKind.wrap_u8, e_]; done) | (simp; generalize ByteArray.toList _ = zz_; cases zz_ <;> rfl), by repeat (first | exact Drawn0.refl _ | apply Drawn0.step)⟩
      · rw [if_neg c6] at H
        have c6b0 : (((((bt a0 2) - 48) % 256) % 2) == 1) = false := beq_eq_false_iff_ne.mpr c6
        have c6b1 : (((((bt a0 2) - 48) % 256) % 2) != 1) = true := bne_iff_ne.mpr c6
        by_cases c7 : 0 ≤ 2
        · rw [if_pos c7] at H
          have c7b0 := eq_true c7
          have c7b1 : decide (0 ≤ 2) = true := decide_eq_true c7
          clear c7
          by_cases c8 : 2 ≤ (a0.size : Int)
          · rw [if_pos c8] at H
            have c8b0 := eq_true c8
            have c8b1 : decide (2 ≤ (a0.size : Int)) = true := decide_eq_true c8
            clear c8
            by_cases c10 : (a0.extract 0 2).size + (Utf8.encode (((bt a0 2) + 1) % 256)).size ≤ 9223372036854775807
            · rw [if_pos c10] at H
              have c10b0 := eq_true c10
              have c10b1 : decide ((a0.extract 0 2).size + (Utf8.encode (((bt a0 2) + 1) % 256)).size ≤ 9223372036854775807) = true := decide_eq_true c10
              try have c10b2 : (9223372036854775807 < (a0.extract 0 2).size + (Utf8.encode (((bt a0 2) + 1) % 256)).size) = False := eq_false (Nat.not_lt.2 c10)
              try (have c10b3 := c10b2; simp only [ByteArray.size_append, ByteArray.size_extract, Nat.sub_zero, Nat.min_self] at c10b3)
              by_cases c11 : 3 ≤ (a0.size : Int)
              · rw [if_pos c11] at H
                have c11b0 := eq_true c11
                have c11b1 : decide (3 ≤ (a0.size : Int)) = true := decide_eq_true c11
                clear c11
                by_cases c12 : ((a0.extract 0 2) ++ (Utf8.encode (((bt a0 2) + 1) % 256))).size + (a0.extract 3 a0.size).size ≤ 9223372036854775807
                · rw [if_pos c12] at H
                  have c12b0 := eq_true c12
                  have c12b1 : decide (((a0.extract 0 2) ++ (Utf8.encode (((bt a0 2) + 1) % 256))).size + (a0.extract 3 a0.size).size ≤ 9223372036854775807) = true := decide_eq_true c12
                  try have c12b2 : (9223372036854775807 < ((a0.extract 0 2) ++ (Utf8.encode (((bt a0 2) + 1) % 256))).size + (a0.extract 3 a0.size).size) = False := eq_false (Nat.not_lt.2 c12)
                  try (have c12b3 := c12b2; simp only [ByteArray.size_append, ByteArray.size_extract, Nat.sub_zero, Nat.min_self] at c12b3)
                  obtain rfl := Option.some.inj H
                  go_enter Try.func70, Try.ntmps70
                  go_wp2_with (first | (go_at_call 67; (with_reducible refine (impl_isWide.calls k a0 4 true _ A2.out).mono ?_); rintro e w' ⟨rfl, ⟨nd, rfl⟩⟩; (try first | exact ⟨rfl, _, World.drewN_drewN _ _ _⟩ | exact ⟨rfl, _, Eq.trans (World.drewN_drewN _ _ _) (congrArg (World.drewN _) (Nat.add_assoc _ _ _))⟩); have p5 : 0 ≤ (2 : Int) := (by omega); have q5 : 2 < a0.size := (by have : (2 : Int) < (a0.size : Int) := of_decide_eq_true (by first | (with_reducible assumption) | assumption); omega); have hx5 : ∀ h : 2 < a0.size, ((a0[2]'h).toNat : Int) = bt a0 2 := bt_at a0 2; clear p5; have qi5 : (2 < (a0.size : Int)) = True := eq_true (of_decide_eq_true (by first | (with_reducible assumption) | assumption)); replace q5 := eq_true q5; have p9 : 0 ≤ (2 : Int) := (by omega); have q9 : 2 < a0.size := (by have : (2 : Int) < (a0.size : Int) := of_decide_eq_true (by first | (with_reducible assumption) | assumption); omega); have hx9 : ∀ h : 2 < a0.size, ((a0[2]'h).toNat : Int) = bt a0 2 := bt_at a0 2; clear p9; have qi9 : (2 < (a0.size : Int)) = True := eq_true (of_decide_eq_true (by first | (with_reducible assumption) | assumption)); replace q9 := eq_true q9))
                  repeat (go_quiet (first | (go_at_call 67; (with_reducible refine (impl_isWide.calls k a0 4 true _ A2.out).mono ?_); rintro e w' ⟨rfl, ⟨nd, rfl⟩⟩; (try first | exact ⟨rfl, _, World.drewN_drewN _ _ _⟩ | exact ⟨rfl, _, Eq.trans (World.drewN_drewN _ _ _) (congrArg (World.drewN _) (Nat.add_assoc _ _ _))⟩); have p5 : 0 ≤ (2 : Int) := (by omega); have q5 : 2 < a0.size := (by have : (2 : Int) < (a0.size : Int) := of_decide_eq_true (by first | (with_reducible assumption) | assumption); omega); have hx5 : ∀ h : 2 < a0.size, ((a0[2]'h).toNat : Int) = bt a0 2 := bt_at a0 2; clear p5; have qi5 : (2 < (a0.size : Int)) = True := eq_true (of_decide_eq_true (by first | (with_reducible assumption) | assumption)); replace q5 := eq_true q5; have p9 : 0 ≤ (2 : Int) := (by omega); have q9 : 2 < a0.size := (by have : (2 : Int) < (a0.size : Int) := of_decide_eq_true (by first | (with_reducible assumption) | assumption); omega); have hx9 : ∀ h : 2 < a0.size, ((a0[2]'h).toNat : Int) = bt a0 2 := bt_at a0 2; clear p9; have qi9 : (2 < (a0.size : Int)) = True := eq_true (of_decide_eq_true (by first | (with_reducible assumption) | assumption)); replace q9 := eq_true q9)); try go_wp2_with (first | (go_at_call 67; (with_reducible refine (impl_isWide.calls k a0 4 true _ A2.out).mono ?_); rintro e w' ⟨rfl, ⟨nd, rfl⟩⟩; (try first | exact ⟨rfl, _, World.drewN_drewN _ _ _⟩ | exact ⟨rfl, _, Eq.trans (World.drewN_drewN _ _ _) (congrArg (World.drewN _) (Nat.add_assoc _ _ _))⟩); have p5 : 0 ≤ (2 : Int) := (by omega); have q5 : 2 < a0.size := (by have : (2 : Int) < (a0.size : Int) := of_decide_eq_true (by first | (with_reducible assumption) | assumption); omega); have hx5 : ∀ h : 2 < a0.size, ((a0[2]'h).toNat : Int) = bt a0 2 := bt_at a0 2; clear p5; have qi5 : (2 < (a0.size : Int)) = True := eq_true (of_decide_eq_true (by first | (with_reducible assumption) | assumption)); replace q5 := eq_true q5; have p9 : 0 ≤ (2 : Int) := (by omega); have q9 : 2 < a0.size := (by have : (2 : Int) < (a0.size : Int) := of_decide_eq_true (by first | (with_reducible assumption) | assumption); omega); have hx9 : ∀ h : 2 < a0.size, ((a0[2]'h).toNat : Int) = bt a0 2 := bt_at a0 2; clear p9; have qi9 : (2 < (a0.size : Int)) = True := eq_true (of_decide_eq_true (by first | (with_reducible assumption) | assumption)); replace q9 := eq_true q9)))
                  go_ret
                  exact ⟨by first | rfl | (simp; done) | (simp [*]; done) | (have e_ : ∀ x_ : Int, wrap64 (x_ % 256) = x_ % 256 := (fun x_ => (by unfold wrap64; omega)); simp [i64_w, IntKind.wrap_u8, e_]; done) | (simp; generalize ByteArray.toList _ = zz_; cases zz_ <;> rfl), by repeat (first | exact Drawn0.refl _ | apply Drawn0.step)⟩
                · rw [if_neg c12] at H
                  exact absurd H (by simp)
              · rw [if_neg c11] at H
                exact absurd H (by simp)
            · rw [if_neg c10] at H
              exact absurd H (by simp)
          · rw [if_neg c8] at H
            exact absurd H (by simp)
        · rw [if_neg c7] at H
          exact absurd H (by simp)
    · rw [if_neg c4] at H
      exact absurd H (by simp)
  · replace c3 := Bool.eq_false_iff.mpr c3
    subst c3
    have H1 : (some (⟨#[]⟩ : ByteArray)) = some r := by rw [if_neg (show ¬ (false = true) by decide)] at H; exact H
    clear H
    have H := H1
    clear H1
    obtain rfl := Option.some.inj H
    go_enter Try.func70, Try.ntmps70
    go_wp2_with (first | (go_at_call 67; (with_reducible refine (impl_isWide.calls k a0 4 false _ A2.out).mono ?_); rintro e w' ⟨rfl, ⟨nd, rfl⟩⟩; (try first | exact ⟨rfl, _, World.drewN_drewN _ _ _⟩ | exact ⟨rfl, _, Eq.trans (World.drewN_drewN _ _ _) (congrArg (World.drewN _) (Nat.add_assoc _ _ _))⟩)))
    repeat (go_quiet (first | (go_at_call 67; (with_reducible refine (impl_isWide.calls k a0 4 false _ A2.out).mono ?_); rintro e w' ⟨rfl, ⟨nd, rfl⟩⟩; (try first | exact ⟨rfl, _, World.drewN_drewN _ _ _⟩ | exact ⟨rfl, _, Eq.trans (World.drewN_drewN _ _ _) (congrArg (World.drewN _) (Nat.add_assoc _ _ _))⟩))); try go_wp2_with (first | (go_at_call 67; (with_reducible refine (impl_isWide.calls k a0 4 false _ A2.out).mono ?_); rintro e w' ⟨rfl, ⟨nd, rfl⟩⟩; (try first | exact ⟨rfl, _, World.drewN_drewN _ _ _⟩ | exact ⟨rfl, _, Eq.trans (World.drewN_drewN _ _ _) (congrArg (World.drewN _) (Nat.add_assoc _ _ _))⟩))))
    go_ret
    exact ⟨by first | rfl | (simp; done) | (simp [*]; done) | (have e_ : ∀ x_ : Int, wrap64 (x_ % 256) = x_ % 256 := (fun x_ => (by unfold wrap64; omega)); simp [i64_w, IntKind.wrap_u8, e_]; done) | (simp; generalize ByteArray.toList _ = zz_; cases zz_ <;> rfl), by repeat (first | exact Drawn0.refl _ | apply Drawn0.step)⟩

/-! ### impl_rsTexts: function 79 -/
def impl_rsTexts.f  : Option (List ByteArray) := some (([(⟨#[48, 48]⟩ : ByteArray), (⟨#[51, 48]⟩ : ByteArray), (⟨#[49, 50]⟩ : ByteArray), (⟨#[49, 52]⟩ : ByteArray), (⟨#[49, 51]⟩ : ByteArray), (⟨#[50, 53]⟩ : ByteArray), (⟨#[57, 52]⟩ : ByteArray), (⟨#[53, 49]⟩ : ByteArray), (⟨#[54, 53]⟩ : ByteArray), (⟨#[54, 49]⟩ : ByteArray), (⟨#[57, 54]⟩ : ByteArray)] : List ByteArray))
set_option maxHeartbeats 8000000 in
set_option maxRecDepth 100000 in
theorem impl_rsTexts.calls  (r : List ByteArray) (w : World) (h : impl_rsTexts.f  = some r) :
    Calls Try.prog 79 #[] w fun e w' => ∃ v0_ : Value, e = .returned (v0_) ∧ Kd.R Kd.string 9 w' w.heap.size (fun _ => True) v0_ r ∧ Below w.heap.size w w' := by
  have HB := Aside0.mk (Below.refl w.heap.size w)
  have H : (some (([(⟨#[48, 48]⟩ : ByteArray), (⟨#[51, 48]⟩ : ByteArray), (⟨#[49, 50]⟩ : ByteArray), (⟨#[49, 52]⟩ : ByteArray), (⟨#[49, 51]⟩ : ByteArray), (⟨#[50, 53]⟩ : ByteArray), (⟨#[57, 52]⟩ : ByteArray), (⟨#[53, 49]⟩ : ByteArray), (⟨#[54, 53]⟩ : ByteArray), (⟨#[54, 49]⟩ : ByteArray), (⟨#[57, 54]⟩ : ByteArray)] : List ByteArray))) = some r := h
  clear h
  obtain ⟨y543, hy543⟩ : ∃ y_ : List ByteArray, y_ = (([(⟨#[48, 48]⟩ : ByteArray), (⟨#[51, 48]⟩ : ByteArray), (⟨#[49, 50]⟩ : ByteArray), (⟨#[49, 52]⟩ : ByteArray), (⟨#[49, 51]⟩ : ByteArray), (⟨#[50, 53]⟩ : ByteArray), (⟨#[57, 52]⟩ : ByteArray), (⟨#[53, 49]⟩ : ByteArray), (⟨#[54, 53]⟩ : ByteArray), (⟨#[54, 49]⟩ : ByteArray), (⟨#[57, 54]⟩ : ByteArray)] : List ByteArray)) := ⟨_, rfl⟩
  replace H : (some y543) = some r := by first | (rw [hy543]; with_reducible exact H) | (have H2_ := (Option.bind_some _ _).symm.trans H; rw [hy543]; with_reducible exact H2_) | (have H2_ := (Option.bind_some _ _).symm.trans H; with_reducible exact H2_) | with_reducible exact H | (rw [hy543]; exact H) | exact H
  have Ny543 := Aside0.mk hy543
  clear hy543
  obtain rfl := Option.some.inj H
  go_enter Try.func79, Try.ntmps79
  go_wp2_with (first | ((with_reducible refine gate_dst (N := 1) rfl ?_); refine Kd.R_lit Kd.string _ 9 ?hg (N := 1) ?hd (xs := ([(⟨#[48, 48]⟩ : ByteArray), (⟨#[51, 48]⟩ : ByteArray), (⟨#[49, 50]⟩ : ByteArray), (⟨#[49, 52]⟩ : ByteArray), (⟨#[49, 51]⟩ : ByteArray), (⟨#[50, 53]⟩ : ByteArray), (⟨#[57, 52]⟩ : ByteArray), (⟨#[53, 49]⟩ : ByteArray), (⟨#[54, 53]⟩ : ByteArray), (⟨#[54, 49]⟩ : ByteArray), (⟨#[57, 54]⟩ : ByteArray)] : List ByteArray)) (inner := [.string (⟨#[48, 48]⟩ : ByteArray), .string (⟨#[51, 48]⟩ : ByteArray), .string (⟨#[49, 50]⟩ : ByteArray), .string (⟨#[49, 52]⟩ : ByteArray), .string (⟨#[49, 51]⟩ : ByteArray), .string (⟨#[50, 53]⟩ : ByteArray), .string (⟨#[57, 52]⟩ : ByteArray), .string (⟨#[53, 49]⟩ : ByteArray), .string (⟨#[54, 53]⟩ : ByteArray), .string (⟨#[54, 49]⟩ : ByteArray), .string (⟨#[57, 54]⟩ : ByteArray)]) (ok := fun _ => True) (okp := fun _ => True) ?hr ?hp (fun _ hk => hk) trivial (Below.refl _ _) (Nat.le_refl _) (by simp) ?_; (case hd => rfl); (case hg => rfl); (case hr => first | (go_simp; done) | (go_simp; rfl)); (case hp => exact (Reps.one (show Kd.M Kd.string _ _ _ (⟨#[48, 48]⟩ : ByteArray) [.string (⟨#[48, 48]⟩ : ByteArray)] from rfl) (Reps.one (show Kd.M Kd.string _ _ _ (⟨#[51, 48]⟩ : ByteArray) [.string (⟨#[51, 48]⟩ : ByteArray)] from rfl) (Reps.one (show Kd.M Kd.string _ _ _ (⟨#[49, 50]⟩ : ByteArray) [.string (⟨#[49, 50]⟩ : ByteArray)] from rfl) (Reps.one (show Kd.M Kd.string _ _ _ (⟨#[49, 52]⟩ : ByteArray) [.string (⟨#[49, 52]⟩ : ByteArray)] from rfl) (Reps.one (show Kd.M Kd.string _ _ _ (⟨#[49, 51]⟩ : ByteArray) [.string (⟨#[49, 51]⟩ : ByteArray)] from rfl) (Reps.one (show Kd.M Kd.string _ _ _ (⟨#[50, 53]⟩ : ByteArray) [.string (⟨#[50, 53]⟩ : ByteArray)] from rfl) (Reps.one (show Kd.M Kd.string _ _ _ (⟨#[57, 52]⟩ : ByteArray) [.string (⟨#[57, 52]⟩ : ByteArray)] from rfl) (Reps.one (show Kd.M Kd.string _ _ _ (⟨#[53, 49]⟩ : ByteArray) [.string (⟨#[53, 49]⟩ : ByteArray)] from rfl) (Reps.one (show Kd.M Kd.string _ _ _ (⟨#[54, 53]⟩ : ByteArray) [.string (⟨#[54, 53]⟩ : ByteArray)] from rfl) (Reps.one (show Kd.M Kd.string _ _ _ (⟨#[54, 49]⟩ : ByteArray) [.string (⟨#[54, 49]⟩ : ByteArray)] from rfl) (Reps.one (show Kd.M Kd.string _ _ _ (⟨#[57, 54]⟩ : ByteArray) [.string (⟨#[57, 54]⟩ : ByteArray)] from rfl) (Reps.none _ _))))))))))))); intro v544 w1 ho2 hb hg_ hnew_; clear hg_ hnew_; (first | rw [← Ny543.out] at ho2 | (simp only [Int.reduceToNat] at ho2; rw [← Ny543.out] at ho2)); have n0_ := Aside0.mk (Kd.R_lower ho2 (below_size (by repeat (first | (with_reducible first | exact HB.out | apply below_alloc | apply pw_below_drewN | apply below_drew1) | exact HB.out)))); have n1_ := Aside0.mk (below_step (by repeat (first | (with_reducible first | exact HB.out | apply below_alloc | apply pw_below_drewN | apply below_drew1) | exact HB.out)) hb); clear HB; have HO545 := n0_; have HB := n1_; clear n0_ n1_; clear hb ho2))
  go_ret
  exact ⟨_, by first | rfl | (simp [errW_none, errW_some] <;> rfl) | (simp [*, errW_none, errW_some] <;> rfl), by (with_reducible repeat (first | apply Kd.R_alloc | apply Kd.R_drewN | apply Kd.R_drew)); exact HO545.out, by repeat (first | (with_reducible first | exact HB.out | apply below_alloc | apply pw_below_drewN | apply below_drew1) | exact HB.out)⟩

/-! ### impl_RsText: function 71 -/
def impl_RsText.f (a0 : Int) : Option (ByteArray) := (impl_within.f a0 0 10).bind fun t546 => (if t546 = true then ((impl_rsTexts.f).bind fun t547 => (if 0 ≤ a0 then (if a0 < (t547.length : Int) then (some (rdOf ByteArray.empty t547 a0)) else (none)) else (none))) else (some (⟨#[]⟩ : ByteArray)))
set_option maxHeartbeats 8000000 in
set_option maxRecDepth 100000 in
theorem impl_RsText.calls (a0 : Int) (r : ByteArray) (w : World) (h : impl_RsText.f a0 = some r) :
    Calls Try.prog 71 #[.int .i64 a0] w fun e w' => e = .returned (.string r) ∧ Below w.heap.size w w' := by
  have HB := Aside0.mk (Below.refl w.heap.size w)
  have H : ((impl_within.f a0 0 10).bind fun t546 => (if t546 = true then ((impl_rsTexts.f).bind fun t547 => (if 0 ≤ a0 then (if a0 < (t547.length : Int) then (some (rdOf ByteArray.empty t547 a0)) else (none)) else (none))) else (some (⟨#[]⟩ : ByteArray)))) = some r := h
  clear h
  replace H := Option.bind_eq_some_iff.mp H
  obtain ⟨t546, A20, H⟩ := H
  replace H : (if t546 = true then ((impl_rsTexts.f).bind fun t547 => (if 0 ≤ a0 then (if a0 < (t547.length : Int) then (some (rdOf ByteArray.empty t547 a0)) else (none)) else (none))) else (some (⟨#[]⟩ : ByteArray))) = some r := H
  have A2 := Aside0.mk A20
  clear A20
  by_cases c3 : t546 = true
  · subst c3
    have H1 : ((impl_rsTexts.f).bind fun t547 => (if 0 ≤ a0 then (if a0 < (t547.length : Int) then (some (rdOf ByteArray.empty t547 a0)) else (none)) else (none))) = some r := by rw [if_pos rfl] at H; exact H
    clear H
    have H := H1
    clear H1
    replace H := Option.bind_eq_some_iff.mp H
    obtain ⟨t547, A40, H⟩ := H
    replace H : (if 0 ≤ a0 then (if a0 < (t547.length : Int) then (some (rdOf ByteArray.empty t547 a0)) else (none)) else (none)) = some r := H
    have A4 := Aside0.mk A40
    clear A40
    by_cases c5 : 0 ≤ a0
    · rw [if_pos c5] at H
      have c5b0 : decide (0 ≤ a0) = true := decide_eq_true c5
      clear c5
      by_cases c6 : a0 < (t547.length : Int)
      · rw [if_pos c6] at H
        have c6b0 : decide (a0 < (t547.length : Int)) = true := decide_eq_true c6
        clear c6
        obtain rfl := Option.some.inj H
        go_enter Try.func71, Try.ntmps71
        go_wp2_with (first | ((with_reducible refine gate_callee (f := 45) rfl ?_); refine goesL_ (some 4) rfl rfl Try.func45 (by kernel_rfl) rfl #[.int .i64 a0, .int .i64 0, .int .i64 10] rfl (by (try simp only [List.map_toArray, List.map_cons, List.map_nil]); first | done | rfl | (simp only [List.length_drop, List.length_take]; rfl)) ?_; (with_reducible refine (impl_within.calls a0 0 10 true _ A2.out).mono ?_); rintro e w' ⟨rfl, ⟨nd, rfl⟩⟩; refine ⟨_, rfl, ?_⟩) | ((with_reducible refine gate_callee (f := 79) rfl ?_); refine goesL_ (some 6) rfl rfl Try.func79 (by kernel_rfl) rfl #[] rfl (by (try simp only [List.map_toArray, List.map_cons, List.map_nil]); first | done | rfl | (simp only [List.length_drop, List.length_take]; rfl)) ?_; (with_reducible refine (impl_rsTexts.calls  t547 _ A4.out).mono ?_); rintro e w7 ⟨v548, rfl, ho0, hb⟩; refine ⟨_, rfl, ?_⟩; have n0_ := Aside0.mk (Kd.R_lower ho0 (below_size (by repeat (first | (with_reducible first | exact HB.out | apply below_alloc | apply pw_below_drewN | apply below_drew1) | exact HB.out)))); have n1_ := Aside0.mk (below_step (by repeat (first | (with_reducible first | exact HB.out | apply below_alloc | apply pw_below_drewN | apply below_drew1) | exact HB.out)) hb); clear HB; have HO549 := n0_; have HB := n1_; clear n0_ n1_; (try clear hb); (try clear hb2); (try clear hk); (try clear hi); (try clear ho0); obtain ⟨Ao8, co8, eo8⟩ := Kd.R_slice HO549.out; subst eo8; have p550 : 0 ≤ (a0 : Int) := of_decide_eq_true (by first | (with_reducible assumption) | assumption); have q550 : a0 < (t547.length : Int) := of_decide_eq_true (by first | (with_reducible assumption) | assumption); obtain ⟨ad550, e550, hx550_0⟩ := Kd.at_string (Kd.R_reads' HO549.out).2.2 a0 p550 q550; cases e550; replace p550 := eq_true p550; replace q550 := eq_true q550))
        go_ret
        exact ⟨by first | rfl | (simp [errW_none, errW_some] <;> rfl) | (simp [*, errW_none, errW_some] <;> rfl), by repeat (first | (with_reducible first | exact HB.out | apply below_alloc | apply pw_below_drewN | apply below_drew1) | exact HB.out)⟩
      · rw [if_neg c6] at H
        exact absurd H (by simp)
    · rw [if_neg c5] at H
      exact absurd H (by simp)
  · replace c3 := Bool.eq_false_iff.mpr c3
    subst c3
    have H1 : (some (⟨#[]⟩ : ByteArray)) = some r := by rw [if_neg (show ¬ (false = true) by decide)] at H; exact H
    clear H
    have H := H1
    clear H1
    obtain rfl := Option.some.inj H
    go_enter Try.func71, Try.ntmps71
    go_wp2_with (first | ((with_reducible refine gate_callee (f := 45) rfl ?_); refine goesL_ (some 4) rfl rfl Try.func45 (by kernel_rfl) rfl #[.int .i64 a0, .int .i64 0, .int .i64 10] rfl (by (try simp only [List.map_toArray, List.map_cons, List.map_nil]); first | done | rfl | (simp only [List.length_drop, List.length_take]; rfl)) ?_; (with_reducible refine (impl_within.calls a0 0 10 false _ A2.out).mono ?_); rintro e w' ⟨rfl, ⟨nd, rfl⟩⟩; refine ⟨_, rfl, ?_⟩))
    go_ret
    exact ⟨by first | rfl | (simp [errW_none, errW_some] <;> rfl) | (simp [*, errW_none, errW_some] <;> rfl), by repeat (first | (with_reducible first | exact HB.out | apply below_alloc | apply pw_below_drewN | apply below_drew1) | exact HB.out)⟩

end Go.Proofs.Ytnhejdelcopphaa.Q
