/- The program's TextRs and the reference's answer alike for every string. -/
import Derived.Test.YtjihbihhandapaaPFnExactTextRsx1
namespace Go.Proofs.Ytjihbihhandapaa.Pure
open Go.RowKit Go.Proofs.Ytjihbihhandapaa.PFnExactTextRs Go.Proofs.YtjihbihhandapaaW.PrintWords Go.Proofs.YtjihbihhandapaaW.PrintLast Go.Proofs.YtjihbihhandapaaW.PrintMore

theorem w64 {i : Int} (h0 : 0 ≤ i) (h : i ≤ 140737488351232) : wrap64 (i + 1) = i + 1 := by
  unfold wrap64
  omega

theorem drop_bt (s : ByteArray) (n : Nat) (h : n < s.size) : (bytesOf s).drop n = bt s (n : Int) :: (bytesOf s).drop (n + 1) := by
  have hl : n < (bytesOf s).length := by rw [bytesOf_length]; exact h
  rw [List.drop_eq_getElem_cons hl]
  congr 1
  rw [← rd_bytesOf]
  unfold rd
  simp [List.getD, hl]

theorem drop_rd (l : List Int) (n : Nat) (h : n < l.length) : l.drop n = rd l (n : Int) :: l.drop (n + 1) := by
  rw [List.drop_eq_getElem_cons h]
  congr 1
  unfold rd
  simp [List.getD, h]

/-- Both loops look through the same list: where one finds 'j' the other does, too. -/
theorem rs_l (s : ByteArray) (l : List ByteArray) (hl : (l.length : Int) ≤ 1000) : ∀ (d n k : Nat), n + d = l.length → d < k →
    (∃ j : Nat, j < l.length ∧ spec_TextRs.l0 k s l (l.length : Int) (n : Int) = some ((j : Int), true) ∧ slices_Index_string_string.l0 k l s (l.length : Int) (n : Int) = some (j : Int)) ∨
    (spec_TextRs.l0 k s l (l.length : Int) (n : Int) = some (0, false) ∧ slices_Index_string_string.l0 k l s (l.length : Int) (n : Int) = some (-1)) := by
  intro d
  induction d with
  | zero =>
    intro n k hd hk
    obtain ⟨k, rfl⟩ : ∃ m, k = m + 1 := ⟨k - 1, by omega⟩
    simp only [spec_TextRs.l0, slices_Index_string_string.l0]
    rw [if_neg (by omega), if_neg (by omega)]
    exact .inr ⟨rfl, rfl⟩
  | succ d ih =>
    intro n k hd hk
    obtain ⟨k, rfl⟩ : ∃ m, k = m + 1 := ⟨k - 1, by omega⟩
    simp only [spec_TextRs.l0, slices_Index_string_string.l0]
    have c1 : (n : Int) < (l.length : Int) := by omega
    have c2 : 0 ≤ (n : Int) := by omega
    simp only [if_pos c1, if_pos c2, w64 c2 (by omega)]
    by_cases e : s.toList = (rdOf ByteArray.empty l (n : Int)).toList
    · have e' := e.symm
      simp only [if_pos e, if_pos e']
      exact .inl ⟨n, by omega, rfl, rfl⟩
    · have e' : ¬ (rdOf ByteArray.empty l (n : Int)).toList = s.toList := fun h => e h.symm
      simp only [if_neg e, if_neg e']
      exact ih (n + 1) k (by omega) (by omega)

theorem FnExactTextRs : laws_FnExactTextRs.Pure := by
  intro s hs
  refine ⟨100, ?_⟩
  obtain ⟨l, hl, hi, hn⟩ : ∃ l, spec_l05Texts.f = some l ∧ impl_rsTexts.f = some l ∧ l.length = 11 := ⟨_, rfl, rfl, rfl⟩
  unfold laws_FnExactTextRs.f
  split
  · rfl
  unfold spec_TextRs.f impl_TextRs.f slices_Index_string_string.f
  rw [hl, hi]
  simp only [Option.bind_some]
  rcases rs_l s l (by omega) 11 0 100 (by omega) (by omega) with ⟨j, hj, h1, h2⟩ | ⟨h1, h2⟩
  · have g1 : spec_TextRs.l0 100 s l (l.length : Int) 0 = some ((j : Int), true) := h1
    have g2 : slices_Index_string_string.l0 100 l s (l.length : Int) 0 = some (j : Int) := h2
    rw [g1, g2]
    have e : mx (j : Int) 0 = j := by unfold mx; omega
    simp [e]
  · have g1 : spec_TextRs.l0 100 s l (l.length : Int) 0 = some (0, false) := h1
    have g2 : slices_Index_string_string.l0 100 l s (l.length : Int) 0 = some (-1) := h2
    rw [g1, g2]
    have e : mx (-1) 0 = 0 := by decide
    simp [e]

end Go.Proofs.Ytjihbihhandapaa.Pure
