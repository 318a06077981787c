/- Lemmas on what the printed functions compute (replyMti); no condition. -/
import Derived.Test.YtjihbihhandapaaLDigCases
import Derived.Test.YtjihbihhandapaaQx16
import Derived.Test.YtjihbihhandapaaQx15
import Derived.Test.YtjihbihhandapaaQx0
namespace Go.Proofs.Ytjihbihhandapaa.Q
open Go.RowKit Go.Proofs.YtjihbihhandapaaW.PrintWords Go.Proofs.YtjihbihhandapaaW.PrintLast Go.Proofs.YtjihbihhandapaaW.PrintMore
set_option linter.unusedVariables false
set_option linter.unusedSimpArgs false

def replyL (l : List Int) : List Int := if digs l && decide (l.length = 4) && decide (rd l 2 % 2 = 0) then l.take 2 ++ [rd l 2 + 1] ++ l.drop 3 else []

theorem encode_small (c : Int) (h0 : 0 ≤ c) (h1 : c < 128) : Utf8.encode c = strOfNums [c] := by
  have h : ∀ n : Fin 128, (Utf8.encode (n.val : Int)).data.toList = (strOfNums [(n.val : Int)]).data.toList := by decide +kernel
  have := h ⟨c.toNat, by omega⟩
  have e : ((c.toNat : Nat) : Int) = c := by omega
  simp only [e] at this
  revert this
  generalize Utf8.encode c = x
  generalize strOfNums [c] = y
  intro this
  cases x; cases y
  congr 1
  exact Array.toList_inj.1 this

theorem extract_str (s : ByteArray) (a b : Nat) : s.extract a b = strOfNums (((bytesOf s).take b).drop a) := by
  rw [← bytesOf_extract, strOfNums_bytesOf]

theorem spec_ReplyMti_at (s : ByteArray) (hs : s.size ≤ 10000000) (k : Nat) (hk : s.size < k) : spec_ReplyMti.f k s = some (strOfNums (replyL (bytesOf s))) := by
  unfold spec_ReplyMti.f replyL
  rw [spec_Digits_at s (by omega) k hk, bytesOf_length]
  simp only [Option.bind_some]
  by_cases h : digs (bytesOf s) = true
  · rw [if_pos h, h]
    by_cases h4 : s.size = 4
    · have c1 : (s.size : Int) = 4 := by omega
      have c2 : 2 < (s.size : Int) := by omega
      have c3 : (0 : Int) ≤ 2 := by omega
      have c4 : 2 ≤ (s.size : Int) := by omega
      have c5 : 3 ≤ (s.size : Int) := by omega
      obtain ⟨b0, b1⟩ := dig_bounds (all_at (bytesOf s) isDig (digs_both _ h).1 2 (by rw [bytesOf_length]; omega))
      have hb : bt s 2 = rd (bytesOf s) ((2 : Nat) : Int) := bt_eq s 2
      rw [if_pos c1, if_pos c2]
      simp only [if_pos c3, if_pos c4, if_pos c5, hb]
      have hb2 : rd (bytesOf s) 2 = rd (bytesOf s) ((2 : Nat) : Int) := rfl
      rw [hb2]
      generalize rd (bytesOf s) ((2 : Nat) : Int) = b at b0 b1
      have e1 : Int.tmod b 2 = b % 2 := Int.tmod_eq_emod_of_nonneg (by omega)
      have e2 : (b + 1) % 256 = b + 1 := by omega
      rw [e1]
      by_cases h5 : b % 2 = 1
      · have : ¬ b % 2 = 0 := by omega
        rw [if_pos h5]
        simp [this, h4]
        rfl
      · have h6 : b % 2 = 0 := by omega
        have z1 : (s.extract 0 2).size = 2 := by rw [ByteArray.size_extract]; omega
        have z2 : (s.extract 3 s.size).size = 1 := by rw [ByteArray.size_extract]; omega
        have z3 : (strOfNums [b + 1]).size = 1 := strOfNums_size _
        have q1 : (s.extract 0 2).size + (strOfNums [b + 1]).size ≤ 9223372036854775807 := by omega
        have q2 : ((s.extract 0 2) ++ strOfNums [b + 1]).size + (s.extract 3 s.size).size ≤ 9223372036854775807 := by rw [ByteArray.size_append]; omega
        rw [if_neg h5]
        simp only [Option.bind_some, e2, if_pos q1, if_pos q2]
        have p : (true && decide (s.size = 4) && decide (b % 2 = 0)) = true := by simp [h4, h6]
        rw [if_pos p, strOfNums_append, strOfNums_append, extract_str, extract_str, List.drop_zero, List.take_of_length_le (i := s.size) (by rw [bytesOf_length]; omega)]
        exact if_pos (by decide)
    · have c1 : ¬ (s.size : Int) = 4 := by omega
      rw [if_neg c1]
      simp [h4]
      rfl
  · rw [if_neg h]
    simp [h]
    rfl

theorem impl_isWide_at (s : ByteArray) (hs : s.size ≤ 10000000) (n : Int) (k : Nat) (hk : s.size < k) : impl_isWide.f k s n = some (digs (bytesOf s) && ((s.size : Int) == n)) := by
  unfold impl_isWide.f
  rw [impl_Digits_at s (by omega) k hk]
  simp only [Option.bind_some]
  by_cases h : digs (bytesOf s) = true
  · rw [if_pos h, h, Bool.true_and]
  · rw [if_neg h]
    simp [h]

theorem impl_ReplyMti_at (s : ByteArray) (hs : s.size ≤ 10000000) (k : Nat) (hk : s.size < k) : impl_ReplyMti.f k s = some (strOfNums (replyL (bytesOf s))) := by
  unfold impl_ReplyMti.f replyL
  rw [impl_isWide_at s hs 4 k hk, bytesOf_length]
  simp only [Option.bind_some]
  by_cases h : digs (bytesOf s) = true
  · rw [h]
    by_cases h4 : s.size = 4
    · have c0 : (true && ((s.size : Int) == 4)) = true := by simp [h4]
      have c2 : 2 < (s.size : Int) := by omega
      have c3 : (0 : Int) ≤ 2 := by omega
      have c4 : 2 ≤ (s.size : Int) := by omega
      have c5 : 3 ≤ (s.size : Int) := by omega
      obtain ⟨b0, b1⟩ := dig_bounds (all_at (bytesOf s) isDig (digs_both _ h).1 2 (by rw [bytesOf_length]; omega))
      have hb : bt s 2 = rd (bytesOf s) ((2 : Nat) : Int) := bt_eq s 2
      rw [if_pos c0, if_pos c2]
      simp only [if_pos c3, if_pos c4, if_pos c5, hb]
      have hb2 : rd (bytesOf s) 2 = rd (bytesOf s) ((2 : Nat) : Int) := rfl
      rw [hb2]
      generalize rd (bytesOf s) ((2 : Nat) : Int) = b at b0 b1
      have e1 : ((b - 48) % 256) % 2 = b % 2 := by omega
      have e2 : (b + 1) % 256 = b + 1 := by omega
      rw [e1]
      by_cases h5 : b % 2 = 1
      · have : ¬ b % 2 = 0 := by omega
        rw [if_pos h5]
        simp [this, h4]
        rfl
      · have h6 : b % 2 = 0 := by omega
        have en := encode_small (b + 1) (by omega) (by omega)
        have z1 : (s.extract 0 2).size = 2 := by rw [ByteArray.size_extract]; omega
        have z2 : (s.extract 3 s.size).size = 1 := by rw [ByteArray.size_extract]; omega
        have z3 : (strOfNums [b + 1]).size = 1 := strOfNums_size _
        have q1 : (s.extract 0 2).size + (strOfNums [b + 1]).size ≤ 9223372036854775807 := by omega
        have q2 : ((s.extract 0 2) ++ strOfNums [b + 1]).size + (s.extract 3 s.size).size ≤ 9223372036854775807 := by rw [ByteArray.size_append]; omega
        rw [if_neg h5]
        simp only [e2, en, if_pos q1, if_pos q2]
        have p : (true && decide (s.size = 4) && decide (b % 2 = 0)) = true := by simp [h4, h6]
        rw [if_pos p, strOfNums_append, strOfNums_append, extract_str, extract_str, List.drop_zero, List.take_of_length_le (i := s.size) (by rw [bytesOf_length]; omega)]
        exact if_pos (by decide)
    · have c0 : ¬ (true && ((s.size : Int) == 4)) = true := by simp; omega
      rw [if_neg c0]
      simp [h4]
      rfl
  · have c0 : ¬ (digs (bytesOf s) && ((s.size : Int) == 4)) = true := by simp [h]
    rw [if_neg c0]
    simp [h]
    rfl
end Go.Proofs.Ytjihbihhandapaa.Q
