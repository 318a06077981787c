/- Lemmas on what the printed functions compute (ringOk); no condition. -/
import Derived.Test.YtnhejdelcopphaaLToIntS
import Derived.Test.YtnhejdelcopphaaLEqIntS
import Derived.Test.YtnhejdelcopphaaQx32
import Derived.Test.YtnhejdelcopphaaQx31
import Derived.Test.YtnhejdelcopphaaQx4
import Derived.Test.YtnhejdelcopphaaQx30
import Derived.Test.YtnhejdelcopphaaExtGrow
import Derived.Test.YtnhejdelcopphaaQx28
import Derived.Test.YtnhejdelcopphaaQx27
import Derived.Test.YtnhejdelcopphaaQx0
namespace Go.Proofs.Ytnhejdelcopphaa.Q
open Go.RowKit Go.Proofs.YtnhejdelcopphaaW.PrintWords Go.Proofs.YtnhejdelcopphaaW.PrintLast Go.Proofs.YtnhejdelcopphaaW.PrintMore
set_option linter.unusedVariables false
set_option linter.unusedSimpArgs false

def isMon (c : Int) : Bool := decide (0 ≤ c ∧ c ≤ 4611686018427387904)
def ringOk (a b : Int) (l m : List Int) : Bool := decide (1 ≤ a ∧ a ≤ 1000) && decide (1 ≤ (l.length : Int) ∧ (l.length : Int) ≤ 8) && decide ((m.length : Int) = (l.length : Int)) && decide (0 ≤ b ∧ b ≤ 1000000000) && (l ++ m).all isMon

theorem spec_In (a b c : Int) : spec_l01In.f a b c = some (decide (b ≤ a ∧ a ≤ c)) := by
  unfold spec_l01In.f
  by_cases h : a ≥ b
  · rw [if_pos h]; congr 1; apply decide_eq_decide.2; omega
  · rw [if_neg h]; congr 1; symm; apply decide_eq_false; omega
theorem impl_In (a b c : Int) : impl_within.f a b c = some (decide (b ≤ a ∧ a ≤ c)) := by
  unfold impl_within.f
  by_cases h : b ≤ a
  · rw [if_pos h]; congr 1; apply decide_eq_decide.2; omega
  · rw [if_neg h]; congr 1; symm; apply decide_eq_false; omega
theorem spec_Mon (a : Int) : spec_l01Money.f a = some (isMon a) := by
  unfold spec_l01Money.f isMon
  by_cases h : a ≥ 0
  · rw [if_pos h]; congr 1; apply decide_eq_decide.2; omega
  · rw [if_neg h]; congr 1; symm; apply decide_eq_false; omega
theorem impl_Mon (a : Int) : impl_isMoney.f a = some (isMon a) := by
  unfold impl_isMoney.f
  rw [impl_In]; rfl

theorem w64r {n : Nat} (h : n ≤ 140737488351232) : wrap64 ((n : Int) + 1) = ((n + 1 : Nat) : Int) := by unfold wrap64; omega

theorem spec_Ring_l (a b : Int) (l m : List Int) (hl : l.length ≤ 8) (hm : m.length = l.length) : ∀ (d n k : Nat), n + d = l.length → d < k →
    spec_RingOk.l0 k (l.length : Int) (n : Int) a b l m = some ((l.drop n).all isMon && (m.drop n).all isMon) := by
  intro d
  induction d with
  | zero =>
    intro n k hd hk
    obtain ⟨k, rfl⟩ : ∃ m, k = m + 1 := ⟨k - 1, by omega⟩
    rw [spec_RingOk.l0, if_neg (by omega), List.drop_eq_nil_of_le (by omega), List.drop_eq_nil_of_le (by omega)]
    rfl
  | succ d ih =>
    intro n k hd hk
    obtain ⟨k, rfl⟩ : ∃ m, k = m + 1 := ⟨k - 1, by omega⟩
    rw [spec_RingOk.l0, if_pos (by omega), if_pos (by omega), if_pos (by omega), spec_Mon, Option.bind_some, drop_rd l n (by omega), drop_rd m n (by omega)]
    simp only [List.all_cons]
    cases h1 : isMon (rd l (n : Int)) with
    | false => rw [if_neg (by simp)]; simp
    | true =>
      rw [if_pos rfl, if_pos (by omega), spec_Mon, Option.bind_some]
      cases h2 : isMon (rd m (n : Int)) with
      | false => rw [if_neg (by simp)]; simp
      | true =>
        rw [if_pos rfl, w64r (by omega), ih (n + 1) k (by omega) (by omega)]
        simp

theorem spec_RingOk_at (a b : Int) (l m : List Int) (hl : l.length ≤ 10000000) (hm : m.length ≤ 10000000) (k : Nat) (hk : 20 ≤ k) : spec_RingOk.f k a b l m = some (ringOk a b l m) := by
  obtain ⟨k, rfl⟩ : ∃ m, k = m + 1 := ⟨k - 1, by omega⟩
  have hno : spec_RingOk.j0 (k + 1) true a b l m = some false := by rw [spec_RingOk.j0, if_pos rfl]
  unfold spec_RingOk.f ringOk
  rw [spec_In, Option.bind_some]
  by_cases h1 : 1 ≤ a ∧ a ≤ 1000
  · rw [decide_eq_true h1, if_pos rfl, spec_In, Option.bind_some]
    by_cases h2 : 1 ≤ (l.length : Int) ∧ (l.length : Int) ≤ 8
    · rw [decide_eq_true h2, if_pos rfl]
      by_cases h3 : (m.length : Int) = (l.length : Int)
      · rw [if_pos h3, decide_eq_true h3]
        unfold spec_l06Time.f
        rw [spec_In, Option.bind_some, Option.bind_some, spec_RingOk.j0]
        by_cases h4 : 0 ≤ b ∧ b ≤ 1000000000
        · rw [decide_eq_true h4, if_neg (by simp)]
          rw [show (0 : Int) = ((0 : Nat) : Int) from rfl, spec_Ring_l a b l m (by omega) (by omega) l.length 0 k (by omega) (by omega), List.all_append]
          simp
        · rw [decide_eq_false h4, if_pos (show (!false) = true from rfl)]
          simp
      · rw [if_neg h3, decide_eq_false h3, hno]
        simp
    · rw [decide_eq_false h2, if_neg (by simp), hno]
      simp
  · rw [decide_eq_false h1, if_neg (by simp), hno]
    simp

theorem concat_at (l m : List Int) (hl : l.length ≤ 10000000) (hm : m.length ≤ 10000000) (k : Nat) (hk : 10 ≤ k) : slices_Concat_int_int.f k [l, m] = some (l ++ m) := by
  obtain ⟨k, rfl⟩ : ∃ m, k = m + 7 := ⟨k - 7, by omega⟩
  have e0 : rd_L7 [l, m] 0 = l := rfl
  have e1 : rd_L7 [l, m] 1 = m := rfl
  have w1 : wrap64 (0 + (l.length : Int)) = (l.length : Int) := by unfold wrap64; omega
  have w2 : wrap64 ((l.length : Int) + (m.length : Int)) = (l.length : Int) + (m.length : Int) := by unfold wrap64; omega
  have w3 : wrap64 (0 + 1) = 1 := by unfold wrap64; omega
  have w4 : wrap64 (1 + 1) = 2 := by unfold wrap64; omega
  have len : (([l, m] : List (List Int)).length : Int) = 2 := rfl
  unfold slices_Concat_int_int.f
  rw [len, slices_Concat_int_int.l0, if_pos (by decide), if_pos (by decide), if_pos (by rw [len]; decide), e0, w1, if_neg (by omega), w3]
  rw [slices_Concat_int_int.l0, if_pos (by decide), if_pos (by decide), if_pos (by rw [len]; decide), e1, w2, if_neg (by omega), w4]
  rw [slices_Concat_int_int.l0, if_neg (by decide)]
  unfold slices_Grow_int_int.f
  rw [if_pos ⟨rfl, by omega, by omega⟩, Option.bind_some, len]
  rw [slices_Concat_int_int.l1, if_pos (by decide), if_pos (by decide), if_pos (by rw [len]; decide), e0, if_pos (by simp; omega), w3]
  rw [slices_Concat_int_int.l1, if_pos (by decide), if_pos (by decide), if_pos (by rw [len]; decide), e1, if_pos (by simp; omega), w4]
  rw [slices_Concat_int_int.l1, if_neg (by decide)]
  simp

theorem impl_Ring_l (a b : Int) (l m u : List Int) (hu : u.length ≤ 20000000) : ∀ (d n k : Nat), n + d = u.length → d < k →
    impl_RingOk.l0 k (l.length : Int) u (u.length : Int) (n : Int) a b l m = some ((u.drop n).all isMon && (decide (1 ≤ a ∧ a ≤ 1000) && decide (1 ≤ (l.length : Int) ∧ (l.length : Int) ≤ 8) && decide ((m.length : Int) = (l.length : Int)) && decide (0 ≤ b ∧ b ≤ 1000000000))) := by
  intro d
  induction d with
  | zero =>
    intro n k hd hk
    obtain ⟨k, rfl⟩ : ∃ m, k = m + 1 := ⟨k - 1, by omega⟩
    rw [impl_RingOk.l0, if_neg (by omega), List.drop_eq_nil_of_le (by omega), impl_In, Option.bind_some]
    by_cases h1 : 1 ≤ a ∧ a ≤ 1000
    · rw [decide_eq_true h1, if_pos rfl, impl_In, Option.bind_some]
      by_cases h2 : 1 ≤ (l.length : Int) ∧ (l.length : Int) ≤ 8
      · rw [decide_eq_true h2, if_pos rfl]
        by_cases h3 : (m.length : Int) = (l.length : Int)
        · rw [if_pos h3, decide_eq_true h3]
          unfold impl_isTime.f
          rw [impl_In, Option.bind_some, Option.bind_some]
          simp
        · rw [if_neg h3, decide_eq_false h3]
          simp
      · rw [decide_eq_false h2, if_neg (by simp)]
        simp
    · rw [decide_eq_false h1, if_neg (by simp)]
      simp
  | succ d ih =>
    intro n k hd hk
    obtain ⟨k, rfl⟩ : ∃ m, k = m + 1 := ⟨k - 1, by omega⟩
    rw [impl_RingOk.l0, if_pos (by omega), if_pos (by omega), if_pos (by omega), impl_Mon, Option.bind_some, drop_rd u n (by omega)]
    simp only [List.all_cons]
    cases h1 : isMon (rd u (n : Int)) with
    | false => rw [if_neg (by simp)]; simp
    | true =>
      rw [if_pos rfl, w64r (by omega), ih (n + 1) k (by omega) (by omega)]
      simp

theorem impl_RingOk_at (a b : Int) (l m : List Int) (hl : l.length ≤ 10000000) (hm : m.length ≤ 10000000) (k : Nat) (hk : l.length + m.length + 20 ≤ k) : impl_RingOk.f k a b l m = some (ringOk a b l m) := by
  unfold impl_RingOk.f
  rw [concat_at l m hl hm k (by omega), Option.bind_some]
  have h := impl_Ring_l a b l m (l ++ m) (by simp; omega) (l ++ m).length 0 k (by omega) (by simp; omega)
  refine h.trans ?_
  unfold ringOk
  rw [List.drop_zero, Bool.and_comm]
end Go.Proofs.Ytnhejdelcopphaa.Q
