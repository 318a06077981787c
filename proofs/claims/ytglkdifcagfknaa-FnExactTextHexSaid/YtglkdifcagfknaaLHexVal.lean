/- Lemmas on what the printed functions compute (hexVal); no condition. -/
import Derived.Test.YtglkdifcagfknaaLStrs
import Derived.Test.YtglkdifcagfknaaQx29
import Derived.Test.YtglkdifcagfknaaExtIdx
import Derived.Test.YtglkdifcagfknaaQx0
namespace Go.Proofs.Ytglkdifcagfknaa.Q
open Go.RowKit Go.Proofs.YtglkdifcagfknaaW.PrintWords Go.Proofs.YtglkdifcagfknaaW.PrintLast Go.Proofs.YtglkdifcagfknaaW.PrintMore
set_option linter.unusedVariables false
set_option linter.unusedSimpArgs false

def hexVal (c : Int) : Int := if 48 ≤ c ∧ c ≤ 57 then c - 48 else if 97 ≤ c ∧ c ≤ 102 then c - 87 else -1

theorem hexVal_range (c : Int) : -1 ≤ hexVal c ∧ hexVal c ≤ 15 := by unfold hexVal; split <;> (try split) <;> omega

theorem spec_l02Hex_at (c : Int) (h0 : 0 ≤ c) (h1 : c ≤ 255) (k : Nat) (hk : 5 ≤ k) : spec_l02Hex.f k c = some (hexVal c) := by
  obtain ⟨k, rfl⟩ : ∃ m, k = m + 2 := ⟨k - 2, by omega⟩
  have e0 : wrap64 c = c := by unfold wrap64; omega
  have e1 : wrap64 (c - 48) = c - 48 := by unfold wrap64; omega
  have e2 : wrap64 (c - 87) = c - 87 := by unfold wrap64; omega
  unfold spec_l02Hex.f
  by_cases a1 : c ≥ 48
  · rw [if_pos a1, spec_l02Hex.j0, e0, e1, e2]
    by_cases a2 : c ≤ 57
    · have : hexVal c = c - 48 := by unfold hexVal; rw [if_pos ⟨by omega, a2⟩]
      simp [a2, this]
    · by_cases a3 : c ≥ 97
      · by_cases a4 : c ≤ 102
        · have : hexVal c = c - 87 := by unfold hexVal; rw [if_neg (by omega), if_pos ⟨by omega, a4⟩]
          simp [a2, a4, this]; omega
        · have : hexVal c = -1 := by unfold hexVal; rw [if_neg (by omega), if_neg (by omega)]
          simp [a2, a4, this]
      · have : hexVal c = -1 := by unfold hexVal; rw [if_neg (by omega), if_neg (by omega)]
        have a3' : ¬ 97 ≤ c := a3
        simp [a2, a3', this]
  · have : hexVal c = -1 := by unfold hexVal; rw [if_neg (by omega), if_neg (by omega)]
    have a3 : ¬ 97 ≤ c := by omega
    rw [if_neg a1, spec_l02Hex.j0]
    simp [a3, this]

theorem index_at (c : Int) (h0 : 0 ≤ c) (h1 : c ≤ 255) : strings_IndexByte.f (⟨#[48, 49, 50, 51, 52, 53, 54, 55, 56, 57, 97, 98, 99, 100, 101, 102]⟩ : ByteArray) c = some (hexVal c) := by
  have h : ∀ n : Fin 256, strings_IndexByte.f (⟨#[48, 49, 50, 51, 52, 53, 54, 55, 56, 57, 97, 98, 99, 100, 101, 102]⟩ : ByteArray) (n.val : Int) = some (hexVal (n.val : Int)) := by decide +kernel
  have := h ⟨c.toNat, by omega⟩
  have e : ((c.toNat : Nat) : Int) = c := by omega
  simpa [e] using this

/-- Two and two digits, from the front; nothing where one of them is none. -/
def unhex : List Int → List Int → List Int × Bool
  | acc, a :: b :: t => if hexVal a < 0 then ([], false) else if hexVal b < 0 then ([], false) else unhex (acc ++ [16 * hexVal a + hexVal b]) t
  | acc, _ => (acc, true)
def textHex (l : List Int) : List Int × Bool := if l.length % 2 = 1 then ([], false) else unhex [] l

theorem hex_drop_two (l : List Int) (n : Nat) (h : n + 1 < l.length) : l.drop n = rd l (n : Int) :: rd l ((n + 1 : Nat) : Int) :: l.drop (n + 2) := by
  rw [drop_rd l n (by omega), drop_rd l (n + 1) (by omega)]

theorem unhex_length : ∀ (n : Nat) (l acc : List Int), l.length ≤ n → (unhex acc l).1.length ≤ acc.length + l.length
  | 0, [], acc, h => by simp [unhex]
  | n, [], acc, h => by simp [unhex]
  | n, [a], acc, h => by simp [unhex]
  | n + 2, a :: b :: t, acc, h => by
    simp only [unhex]
    split
    · simp
    · split
      · simp
      · have := unhex_length n t (acc ++ [16 * hexVal a + hexVal b]) (by simp at h; omega)
        simp at this ⊢
        omega
  | 1, a :: b :: t, acc, h => by simp at h
end Go.Proofs.Ytglkdifcagfknaa.Q
