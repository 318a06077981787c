/- The program's Printable and the reference's answer alike for every string. -/
import Derived.Test.YtjihbihhandapaaPFnExactPrintablex1
namespace Go.Proofs.Ytjihbihhandapaa.Pure
open Go.RowKit Go.Proofs.Ytjihbihhandapaa.PFnExactPrintable Go.Proofs.YtjihbihhandapaaW.PrintWords Go.Proofs.YtjihbihhandapaaW.PrintLast Go.Proofs.YtjihbihhandapaaW.PrintMore

theorem w64 {i : Int} (h0 : 0 ≤ i) (h : i ≤ 140737488351232) : wrap64 (i + 1) = i + 1 := by
  unfold wrap64
  omega

theorem drop_bt (s : ByteArray) (n : Nat) (h : n < s.size) : (bytesOf s).drop n = bt s (n : Int) :: (bytesOf s).drop (n + 1) := by
  have hl : n < (bytesOf s).length := by rw [bytesOf_length]; exact h
  rw [List.drop_eq_getElem_cons hl]
  congr 1
  rw [← rd_bytesOf]
  unfold rd
  simp [List.getD, hl]

theorem drop_rd (l : List Int) (n : Nat) (h : n < l.length) : l.drop n = rd l (n : Int) :: l.drop (n + 1) := by
  rw [List.drop_eq_getElem_cons h]
  congr 1
  unfold rd
  simp [List.getD, h]

def isPri (c : Int) : Bool := decide (32 ≤ c) && decide (c ≤ 126)

theorem spec_Printable_l (s : ByteArray) (hs : s.size ≤ 140737488351232) : ∀ (d n k : Nat), n + d = s.size → d < k →
    spec_Printable.l0 k s (n : Int) = some (((bytesOf s).drop n).all isPri) := by
  intro d
  induction d with
  | zero =>
    intro n k hd hk
    obtain ⟨k, rfl⟩ : ∃ m, k = m + 1 := ⟨k - 1, by omega⟩
    simp only [spec_Printable.l0]
    rw [if_neg (by omega), List.drop_of_length_le (by rw [bytesOf_length]; omega)]
    simp
  | succ d ih =>
    intro n k hd hk
    obtain ⟨k, rfl⟩ : ∃ m, k = m + 1 := ⟨k - 1, by omega⟩
    simp only [spec_Printable.l0]
    rw [if_pos (by omega), if_pos (by omega), drop_bt s n (by omega), List.all_cons]
    by_cases h1 : bt s (n : Int) < 32
    · rw [if_pos h1]
      have e : isPri (bt s (n : Int)) = false := by unfold isPri; simp; omega
      rw [e]; simp
    · rw [if_neg h1]
      by_cases h2 : bt s (n : Int) > 126
      · rw [if_pos h2]
        have e : isPri (bt s (n : Int)) = false := by unfold isPri; simp; omega
        rw [e]; simp
      · rw [if_neg h2, w64 (by omega) (by omega)]
        have e : isPri (bt s (n : Int)) = true := by unfold isPri; simp; omega
        rw [e, Bool.true_and]
        exact ih (n + 1) k (by omega) (by omega)

theorem spec_Printable_at (s : ByteArray) (hs : s.size ≤ 140737488351232) (k : Nat) (hk : s.size < k) : spec_Printable.f k s = some ((bytesOf s).all isPri) := by
  unfold spec_Printable.f
  have h := spec_Printable_l s hs s.size 0 k (by omega) hk
  simpa using h

theorem impl_Printable_l (s : ByteArray) (hs : s.size ≤ 140737488351232) : ∀ (d n k : Nat), n + d = s.size → d < k →
    impl_Printable.l0 k s (s.size : Int) (n : Int) = some (((bytesOf s).drop n).all isPri) := by
  intro d
  induction d with
  | zero =>
    intro n k hd hk
    obtain ⟨k, rfl⟩ : ∃ m, k = m + 1 := ⟨k - 1, by omega⟩
    simp only [impl_Printable.l0]
    rw [if_neg (by omega), List.drop_of_length_le (by rw [bytesOf_length]; omega)]
    simp
  | succ d ih =>
    intro n k hd hk
    obtain ⟨k, rfl⟩ : ∃ m, k = m + 1 := ⟨k - 1, by omega⟩
    simp only [impl_Printable.l0]
    rw [if_pos (by omega), if_pos (by omega), if_pos (by omega), drop_bt s n (by omega), List.all_cons]
    by_cases h1 : bt s (n : Int) < 32
    · rw [if_pos h1]
      have e : isPri (bt s (n : Int)) = false := by unfold isPri; simp; omega
      rw [e]; simp
    · rw [if_neg h1]
      by_cases h2 : bt s (n : Int) > 126
      · rw [if_pos h2]
        have e : isPri (bt s (n : Int)) = false := by unfold isPri; simp; omega
        rw [e]; simp
      · rw [if_neg h2, w64 (by omega) (by omega)]
        have e : isPri (bt s (n : Int)) = true := by unfold isPri; simp; omega
        rw [e, Bool.true_and]
        exact ih (n + 1) k (by omega) (by omega)

theorem impl_Printable_at (s : ByteArray) (hs : s.size ≤ 140737488351232) (k : Nat) (hk : s.size < k) : impl_Printable.f k s = some ((bytesOf s).all isPri) := by
  unfold impl_Printable.f
  have h := impl_Printable_l s hs s.size 0 k (by omega) hk
  simpa using h

theorem FnExactPrintable : laws_FnExactPrintable.Pure := by
  intro s hs
  refine ⟨s.size + 1, ?_⟩
  unfold laws_FnExactPrintable.f
  rw [spec_Printable_at s hs _ (by omega), impl_Printable_at s hs _ (by omega)]
  simp

end Go.Proofs.Ytjihbihhandapaa.Pure
