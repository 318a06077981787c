/- Lemmas on what the printed functions compute (luhnOk); no condition. -/
import Derived.Test.YtglkdifcagfknaaLLuhn
import Derived.Test.YtglkdifcagfknaaQx4
import Derived.Test.YtglkdifcagfknaaQx0
namespace Go.Proofs.Ytglkdifcagfknaa.Q
open Go.RowKit Go.Proofs.YtglkdifcagfknaaW.PrintWords Go.Proofs.YtglkdifcagfknaaW.PrintLast Go.Proofs.YtglkdifcagfknaaW.PrintMore
set_option linter.unusedVariables false
set_option linter.unusedSimpArgs false

def luhnOk (l : List Int) : Bool := digs l && decide (2 ≤ l.length) && (luhn (l.take (l.length - 1)) == rd l ((l.length : Int) - 1) - 48)

theorem digs_cons_rd (l : List Int) (h : digs l = true) (n : Nat) (hn : n < l.length) : 48 ≤ rd l (n : Int) ∧ rd l (n : Int) ≤ 57 := dig_range (all_rd l isDig (digs_split l h).1 n hn)

theorem spec_LuhnOk_at (s : ByteArray) (hs : s.size ≤ 10000000) (k : Nat) (hk : s.size < k) : spec_LuhnOk.f k s = some (luhnOk (bytesOf s)) := by
  unfold spec_LuhnOk.f luhnOk
  rw [spec_Digits_at s (by omega) k hk, bytesOf_length]
  simp only [Option.bind_some]
  by_cases h : digs (bytesOf s) = true
  · rw [if_pos h, h]
    by_cases h2 : (s.size : Int) < 2
    · rw [if_pos h2]
      have : ¬ 2 ≤ s.size := by omega
      simp [this]
    · rw [if_neg h2]
      have e : wrap64 ((s.size : Int) - 1) = (s.size : Int) - 1 := by unfold wrap64; omega
      have c1 : 0 ≤ (s.size : Int) - 1 := by omega
      have c2 : (s.size : Int) - 1 ≤ (s.size : Int) := by omega
      have c3 : (s.size : Int) - 1 < (s.size : Int) := by omega
      have en : ((s.size : Int) - 1).toNat = s.size - 1 := by omega
      have en2 : (s.size : Int) - 1 = ((s.size - 1 : Nat) : Int) := by omega
      have hz : (s.extract 0 (s.size - 1)).size = s.size - 1 := by rw [size_eq, bytesOf_extract, List.drop_zero, List.length_take, bytesOf_length]; omega
      have ex : bytesOf (s.extract 0 (s.size - 1)) = (bytesOf s).take (s.size - 1) := by rw [bytesOf_extract, List.drop_zero]
      obtain ⟨b0, b1⟩ := digs_cons_rd (bytesOf s) h (s.size - 1) (by rw [bytesOf_length]; omega)
      rw [← en2] at b0 b1
      simp only [e, if_pos c1, if_pos c2, if_pos c3, en]
      rw [spec_Luhn_at _ (by omega) k (by omega), ex, bt_eq]
      simp only [Option.bind_some]
      generalize rd (bytesOf s) ((s.size : Int) - 1) = c at b0 b1
      have e1 : wrap64 c = c := by unfold wrap64; omega
      have e2 : wrap64 (c - 48) = c - 48 := by unfold wrap64; omega
      have h3 : 2 ≤ s.size := by omega
      rw [e1, e2]
      simp [h3]
  · rw [if_neg h]
    simp [h]

theorem impl_LuhnOk_at (s : ByteArray) (hs : s.size ≤ 10000000) (k : Nat) (hk : s.size < k) : impl_LuhnOk.f k s = some (luhnOk (bytesOf s)) := by
  unfold impl_LuhnOk.f luhnOk
  rw [impl_Digits_at s (by omega) k hk, bytesOf_length]
  have e : wrap64 ((s.size : Int) - 1) = (s.size : Int) - 1 := by unfold wrap64; omega
  simp only [Option.bind_some, e]
  by_cases h2 : (s.size : Int) - 1 ≥ 1
  · rw [if_pos h2]
    have h3 : 2 ≤ s.size := by omega
    by_cases h : digs (bytesOf s) = true
    · rw [if_pos h, h]
      have c1 : 0 ≤ (s.size : Int) - 1 := by omega
      have c2 : (s.size : Int) - 1 ≤ (s.size : Int) := by omega
      have c3 : (s.size : Int) - 1 < (s.size : Int) := by omega
      have en : ((s.size : Int) - 1).toNat = s.size - 1 := by omega
      have en2 : (s.size : Int) - 1 = ((s.size - 1 : Nat) : Int) := by omega
      have hz : (s.extract 0 (s.size - 1)).size = s.size - 1 := by rw [size_eq, bytesOf_extract, List.drop_zero, List.length_take, bytesOf_length]; omega
      have ex : bytesOf (s.extract 0 (s.size - 1)) = (bytesOf s).take (s.size - 1) := by rw [bytesOf_extract, List.drop_zero]
      obtain ⟨b0, b1⟩ := digs_cons_rd (bytesOf s) h (s.size - 1) (by rw [bytesOf_length]; omega)
      rw [← en2] at b0 b1
      simp only [if_pos c1, if_pos c2, if_pos c3, en]
      rw [impl_Luhn_at _ (by omega) k (by omega), ex, bt_eq]
      simp only [Option.bind_some]
      generalize rd (bytesOf s) ((s.size : Int) - 1) = c at b0 b1
      have e1 : (c - 48) % 256 = c - 48 := by omega
      rw [e1]
      simp [h3]
    · rw [if_neg h]
      simp [h]
  · rw [if_neg h2]
    have h3 : ¬ 2 ≤ s.size := by omega
    simp [h3]
end Go.Proofs.Ytglkdifcagfknaa.Q
