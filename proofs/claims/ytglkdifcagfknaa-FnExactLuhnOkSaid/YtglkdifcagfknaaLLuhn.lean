/- Lemmas on what the printed functions compute (luhn); no condition. -/
import Derived.Test.YtglkdifcagfknaaLLuhnPure
import Derived.Test.YtglkdifcagfknaaQx4
import Derived.Test.YtglkdifcagfknaaQx0
namespace Go.Proofs.Ytglkdifcagfknaa.Q
open Go.RowKit Go.Proofs.YtglkdifcagfknaaW.PrintWords Go.Proofs.YtglkdifcagfknaaW.PrintLast Go.Proofs.YtglkdifcagfknaaW.PrintMore
set_option linter.unusedVariables false
set_option linter.unusedSimpArgs false

theorem impl_Luhn_l (s : ByteArray) (hs : s.size ≤ 10000000) (hd : (bytesOf s).all isDig = true) : ∀ (n k : Nat) (x : Int) (tw : Bool), n ≤ s.size → 0 ≤ x → x ≤ 1000000000000 - 9 * n → n < k →
    impl_Luhn.l0 k s x tw ((n : Int) - 1) = some ((10 - (x + lsum ((bytesOf s).take n).reverse tw) % 10) % 10) := by
  intro n
  induction n with
  | zero =>
    intro k x tw hn h0 h1 hk
    obtain ⟨k, rfl⟩ : ∃ m, k = m + 1 := ⟨k - 1, by omega⟩
    have c1 : ¬ ((0 : Nat) : Int) - 1 ≥ 0 := by omega
    simp only [impl_Luhn.l0, if_neg c1]
    have e1 : Int.tmod x 10 = x % 10 := Int.tmod_eq_emod_of_nonneg h0
    have e2 : wrap64 (10 - x % 10) = 10 - x % 10 := by unfold wrap64; omega
    rw [e1, e2, Int.tmod_eq_emod_of_nonneg (by omega)]
    simp [lsum]
  | succ n ih =>
    intro k x tw hn h0 h1 hk
    obtain ⟨k, rfl⟩ : ∃ m, k = m + 1 := ⟨k - 1, by omega⟩
    have hlt : n < (bytesOf s).length := by rw [bytesOf_length]; omega
    obtain ⟨b0, b1⟩ := dig_range (all_rd (bytesOf s) isDig hd n hlt)
    have en : ((n + 1 : Nat) : Int) - 1 = (n : Int) := by omega
    have c1 : (n : Int) ≥ 0 := by omega
    have c2 : (n : Int) < (s.size : Int) := by omega
    have ew : wrap64 ((n : Int) - 1) = (n : Int) - 1 := by unfold wrap64; omega
    rw [en, take_rev _ n hlt]
    simp only [impl_Luhn.l0, if_pos c1, if_pos c2, ew, bt_eq]
    generalize rd (bytesOf s) (n : Int) = c at b0 b1
    have e1 : (c - 48) % 256 = c - 48 := by omega
    rw [e1]
    cases tw with
    | true =>
      simp only [if_true, lsum, Bool.not_true]
      by_cases h9 : (c - 48) * 2 > 9
      · have ed : dbl (c - 48) = (c - 48) * 2 - 9 := by unfold dbl; rw [if_pos (by omega)]; omega
        have e2 : wrap64 (x + ((c - 48) * 2 - 9)) = x + ((c - 48) * 2 - 9) := by unfold wrap64; omega
        rw [if_pos h9, e2, ih k _ false (by omega) (by omega) (by omega) (by omega), ed]
        congr 4
        omega
      · have ed : dbl (c - 48) = (c - 48) * 2 := by unfold dbl; rw [if_neg (by omega)]; omega
        have e2 : wrap64 (x + (c - 48) * 2) = x + (c - 48) * 2 := by unfold wrap64; omega
        rw [if_neg h9, e2, ih k _ false (by omega) (by omega) (by omega) (by omega), ed]
        congr 4
        omega
    | false =>
      have e2 : wrap64 (x + (c - 48)) = x + (c - 48) := by unfold wrap64; omega
      simp only [Bool.false_eq_true, if_false, lsum, Bool.not_false, e2]
      rw [ih k _ true (by omega) (by omega) (by omega) (by omega)]
      congr 4
      omega

theorem spec_Luhn_l (s : ByteArray) (hs : s.size ≤ 10000000) (hd : (bytesOf s).all isDig = true) : ∀ (n k : Nat) (x : Int) (tw : Bool), n ≤ s.size → 0 ≤ x → x ≤ 9 → n < k →
    spec_Luhn.l0 k s x tw ((n : Int) - 1) = some ((10 - (x + lsum ((bytesOf s).take n).reverse tw) % 10) % 10) := by
  intro n
  induction n with
  | zero =>
    intro k x tw hn h0 h1 hk
    obtain ⟨k, rfl⟩ : ∃ m, k = m + 1 := ⟨k - 1, by omega⟩
    have c1 : ¬ ((0 : Nat) : Int) - 1 ≥ 0 := by omega
    simp only [spec_Luhn.l0, if_neg c1]
    have e2 : wrap64 (10 - x) = 10 - x := by unfold wrap64; omega
    rw [e2, Int.tmod_eq_emod_of_nonneg (by omega)]
    simp only [List.take_zero, List.reverse_nil, lsum, Int.add_zero]
    congr 1
    omega
  | succ n ih =>
    intro k x tw hn h0 h1 hk
    obtain ⟨k, rfl⟩ : ∃ m, k = m + 1 := ⟨k - 1, by omega⟩
    have hlt : n < (bytesOf s).length := by rw [bytesOf_length]; omega
    obtain ⟨b0, b1⟩ := dig_range (all_rd (bytesOf s) isDig hd n hlt)
    have en : ((n + 1 : Nat) : Int) - 1 = (n : Int) := by omega
    have c1 : (n : Int) ≥ 0 := by omega
    have c2 : (n : Int) < (s.size : Int) := by omega
    have ew : wrap64 ((n : Int) - 1) = (n : Int) - 1 := by unfold wrap64; omega
    rw [en, take_rev _ n hlt]
    simp only [spec_Luhn.l0, if_pos c1, if_pos c2, ew, bt_eq]
    generalize rd (bytesOf s) (n : Int) = c at b0 b1
    have e0 : wrap64 c = c := by unfold wrap64; omega
    have e1 : wrap64 (c - 48) = c - 48 := by unfold wrap64; omega
    have e3 : wrap64 (2 * (c - 48)) = 2 * (c - 48) := by unfold wrap64; omega
    have e4 : wrap64 (2 * (c - 48) - 9) = 2 * (c - 48) - 9 := by unfold wrap64; omega
    simp only [e0, e1, e3, e4]
    have fin : ∀ (v : Int), 0 ≤ v → v ≤ 9 → wrap64 (x + v) = x + v ∧ Int.tmod (x + v) 10 = (x + v) % 10 := fun v v0 v1 => ⟨by unfold wrap64; omega, Int.tmod_eq_emod_of_nonneg (by omega)⟩
    cases tw with
    | true =>
      simp only [if_true, lsum, Bool.not_true]
      by_cases h9 : 2 * (c - 48) > 9
      · have ed : dbl (c - 48) = 2 * (c - 48) - 9 := by unfold dbl; rw [if_pos h9]
        obtain ⟨f1, f2⟩ := fin (2 * (c - 48) - 9) (by omega) (by omega)
        rw [if_pos h9, f1, f2, ih k _ false (by omega) (by omega) (by omega) (by omega), ed]
        congr 2
        omega
      · have ed : dbl (c - 48) = 2 * (c - 48) := by unfold dbl; rw [if_neg h9]
        obtain ⟨f1, f2⟩ := fin (2 * (c - 48)) (by omega) (by omega)
        rw [if_neg h9, f1, f2, ih k _ false (by omega) (by omega) (by omega) (by omega), ed]
        congr 2
        omega
    | false =>
      obtain ⟨f1, f2⟩ := fin (c - 48) (by omega) (by omega)
      simp only [Bool.false_eq_true, if_false, lsum, Bool.not_false, f1, f2]
      rw [ih k _ true (by omega) (by omega) (by omega) (by omega)]
      congr 2
      omega

theorem digs_split (l : List Int) : digs l = true → l.all isDig = true ∧ 0 < l.length := by
  intro h
  unfold digs at h
  cases l with
  | nil => simp at h
  | cons a t => simpa using h

theorem spec_Luhn_at (s : ByteArray) (hs : s.size ≤ 10000000) (k : Nat) (hk : s.size < k) : spec_Luhn.f k s = some (luhn (bytesOf s)) := by
  unfold spec_Luhn.f luhn
  rw [spec_Digits_at s (by omega) k hk]
  simp only [Option.bind_some]
  by_cases h : digs (bytesOf s) = true
  · obtain ⟨h1, h2⟩ := digs_split _ h
    rw [bytesOf_length] at h2
    have e : wrap64 ((s.size : Int) - 1) = (s.size : Int) - 1 := by unfold wrap64; omega
    rw [if_pos h, if_pos h, e, spec_Luhn_l s hs h1 s.size k 0 true (by omega) (by omega) (by omega) hk, List.take_of_length_le (by rw [bytesOf_length]; omega)]
    simp
  · rw [if_neg h, if_neg h]

theorem impl_Luhn_at (s : ByteArray) (hs : s.size ≤ 10000000) (k : Nat) (hk : s.size < k) : impl_Luhn.f k s = some (luhn (bytesOf s)) := by
  unfold impl_Luhn.f luhn
  rw [impl_Digits_at s (by omega) k hk]
  simp only [Option.bind_some]
  by_cases h : digs (bytesOf s) = true
  · obtain ⟨h1, h2⟩ := digs_split _ h
    rw [bytesOf_length] at h2
    have e : wrap64 ((s.size : Int) - 1) = (s.size : Int) - 1 := by unfold wrap64; omega
    rw [if_pos h, if_pos h, e, impl_Luhn_l s hs h1 s.size k 0 true (by omega) (by omega) (by omega) hk, List.take_of_length_le (by rw [bytesOf_length]; omega)]
    simp
  · rw [if_neg h, if_neg h]
end Go.Proofs.Ytglkdifcagfknaa.Q
