/- Lemmas on what the printed functions compute (textHexSpec); no condition. -/
import Derived.Test.YtglkdifcagfknaaLHexVal
import Derived.Test.YtglkdifcagfknaaQx30
import Derived.Test.YtglkdifcagfknaaQx0
namespace Go.Proofs.Ytglkdifcagfknaa.Q
open Go.RowKit Go.Proofs.YtglkdifcagfknaaW.PrintWords Go.Proofs.YtglkdifcagfknaaW.PrintLast Go.Proofs.YtglkdifcagfknaaW.PrintMore
set_option linter.unusedVariables false
set_option linter.unusedSimpArgs false

theorem spec_TextHex_l (s : ByteArray) (hs : s.size ≤ 10000000) : ∀ (d n k : Nat) (x : List Int), n + 2 * d = s.size → x.length + d ≤ 1000000000 → d + 10 < k →
    spec_TextHex.l0 k s x (n : Int) = some (unhex x ((bytesOf s).drop n)) := by
  intro d
  induction d with
  | zero =>
    intro n k x hn hx hk
    obtain ⟨k, rfl⟩ : ∃ m, k = m + 1 := ⟨k - 1, by omega⟩
    have c1 : ¬ (n : Int) < (s.size : Int) := by omega
    simp only [spec_TextHex.l0, if_neg c1]
    rw [List.drop_of_length_le (by rw [bytesOf_length]; omega)]
    simp [unhex]
  | succ d ih =>
    intro n k x hn hx hk
    obtain ⟨k, rfl⟩ : ∃ m, k = m + 1 := ⟨k - 1, by omega⟩
    have hl : (bytesOf s).length = s.size := bytesOf_length s
    obtain ⟨a0, a1⟩ := bytesOf_range s _ (rd_mem _ n (by omega))
    obtain ⟨b0, b1⟩ := bytesOf_range s _ (rd_mem _ (n + 1) (by omega))
    have c1 : (n : Int) < (s.size : Int) := by omega
    have c2 : 0 ≤ (n : Int) := by omega
    have e1 : wrap64 ((n : Int) + 1) = ((n + 1 : Nat) : Int) := by unfold wrap64; omega
    have e2 : wrap64 ((n : Int) + 2) = ((n + 2 : Nat) : Int) := by unfold wrap64; omega
    have c3 : 0 ≤ ((n + 1 : Nat) : Int) := by omega
    have c4 : ((n + 1 : Nat) : Int) < (s.size : Int) := by omega
    have c5 : x.length < 140737488355328 := by omega
    rw [hex_drop_two _ n (by omega)]
    simp only [spec_TextHex.l0, e1, e2, if_pos c1, if_pos c2, if_pos c3, if_pos c4, if_pos c5, bt_eq, unhex]
    generalize rd (bytesOf s) (n : Int) = a at a0 a1
    generalize rd (bytesOf s) ((n + 1 : Nat) : Int) = b at b0 b1
    rw [spec_l02Hex_at a a0 a1 k (by omega), spec_l02Hex_at b b0 b1 k (by omega)]
    simp only [Option.bind_some]
    obtain ⟨p0, p1⟩ := hexVal_range a
    obtain ⟨q0, q1⟩ := hexVal_range b
    by_cases h1 : hexVal a < 0
    · rw [if_pos h1, if_pos h1]
    · rw [if_neg h1, if_neg h1]
      by_cases h2 : hexVal b < 0
      · rw [if_pos h2, if_pos h2]
      · rw [if_neg h2, if_neg h2]
        have e : (wrap64 ((wrap64 (16 * hexVal a)) + hexVal b)) % 256 = 16 * hexVal a + hexVal b := by unfold wrap64; omega
        rw [e]
        exact ih (n + 2) k _ (by omega) (by simp; omega) (by omega)

theorem spec_TextHex_at (s : ByteArray) (hs : s.size ≤ 10000000) (k : Nat) (hk : s.size + 20 ≤ k) : spec_TextHex.f k s = some (textHex (bytesOf s)) := by
  unfold spec_TextHex.f textHex
  rw [bytesOf_length]
  by_cases h : (s.size : Int) % 2 = 1
  · rw [if_pos h, if_pos (by omega)]
  · rw [if_neg h, if_neg (by omega)]
    have hh := spec_TextHex_l s hs (s.size / 2) 0 k [] (by omega) (by simp; omega) (by omega)
    simpa using hh
end Go.Proofs.Ytglkdifcagfknaa.Q
