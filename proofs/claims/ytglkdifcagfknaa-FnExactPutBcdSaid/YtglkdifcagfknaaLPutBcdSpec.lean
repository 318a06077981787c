/- Lemmas on what the printed functions compute (putBcdSpec); no condition. -/
import Derived.Test.YtglkdifcagfknaaLBcdPure
import Derived.Test.YtglkdifcagfknaaQx6
import Derived.Test.YtglkdifcagfknaaQx0
namespace Go.Proofs.Ytglkdifcagfknaa.Q
open Go.RowKit Go.Proofs.YtglkdifcagfknaaW.PrintWords Go.Proofs.YtglkdifcagfknaaW.PrintLast Go.Proofs.YtglkdifcagfknaaW.PrintMore
set_option linter.unusedVariables false
set_option linter.unusedSimpArgs false

theorem spec_PutBcd_l (s : ByteArray) (hs : s.size ≤ 10000000) (hd : (bytesOf s).all isDig = true) : ∀ (d n k : Nat) (x : List Int), n + 2 * d = s.size → x.length + d ≤ 1000000000 → d < k →
    spec_PutBcd.l0 k s x (n : Int) = some (x ++ bcd ((bytesOf s).drop n), true) := by
  intro d
  induction d with
  | zero =>
    intro n k x hn hx hk
    obtain ⟨k, rfl⟩ : ∃ m, k = m + 1 := ⟨k - 1, by omega⟩
    have c1 : ¬ (n : Int) < (s.size : Int) := by omega
    simp only [spec_PutBcd.l0, if_neg c1]
    rw [List.drop_of_length_le (by rw [bytesOf_length]; omega)]
    simp [bcd]
  | succ d ih =>
    intro n k x hn hx hk
    obtain ⟨k, rfl⟩ : ∃ m, k = m + 1 := ⟨k - 1, by omega⟩
    have hl : (bytesOf s).length = s.size := bytesOf_length s
    obtain ⟨a0, a1⟩ := dig_range' (all_rd' _ _ hd n (by omega))
    obtain ⟨b0, b1⟩ := dig_range' (all_rd' _ _ hd (n + 1) (by omega))
    have c1 : (n : Int) < (s.size : Int) := by omega
    have c2 : 0 ≤ (n : Int) := by omega
    have e1 : wrap64 ((n : Int) + 1) = ((n + 1 : Nat) : Int) := by unfold wrap64; omega
    have e2 : wrap64 ((n : Int) + 2) = ((n + 2 : Nat) : Int) := by unfold wrap64; omega
    have c3 : 0 ≤ ((n + 1 : Nat) : Int) := by omega
    have c4 : ((n + 1 : Nat) : Int) < (s.size : Int) := by omega
    have c5 : x.length < 140737488355328 := by omega
    rw [drop_two _ n (by omega)]
    simp only [spec_PutBcd.l0, e1, e2, if_pos c1, if_pos c2, if_pos c3, if_pos c4, if_pos c5, bt_eq, bcd]
    generalize rd (bytesOf s) (n : Int) = a at a0 a1
    generalize rd (bytesOf s) ((n + 1 : Nat) : Int) = b at b0 b1
    have e : (wrap64 ((wrap64 ((wrap64 ((wrap64 ((wrap64 a) - 48)) * 16)) + (wrap64 b))) - 48)) % 256 = (a - 48) * 16 + (b - 48) := by
      unfold wrap64
      omega
    rw [e, ih (n + 2) k _ (by omega) (by simp; omega) (by omega)]
    simp

theorem spec_PutBcd_at (s : ByteArray) (hs : s.size ≤ 9000000) (k : Nat) (hk : s.size + 5 ≤ k) : spec_PutBcd.f k s = some (putBcd (bytesOf s)) := by
  obtain ⟨k, rfl⟩ : ∃ m, k = m + 2 := ⟨k - 2, by omega⟩
  unfold spec_PutBcd.f putBcd
  rw [spec_Digits_at s (by omega) (k + 2) (by omega)]
  simp only [Option.bind_some]
  by_cases h : digs (bytesOf s) = true
  · obtain ⟨h1, h2⟩ := digs_and _ h
    rw [bytesOf_length] at h2
    rw [if_pos h, h, spec_PutBcd.j0]
    by_cases h3 : (s.size : Int) > 38
    · have h4 : ¬ s.size ≤ 38 := by omega
      simp [h3, h4, bytesOf_length]
    · have h4 : s.size ≤ 38 := by omega
      simp only [h3, decide_false, Bool.false_eq_true, if_false]
      have q : (true && decide ((bytesOf s).length ≤ 38)) = true := by simp [bytesOf_length, h4]
      rw [if_pos q]
      by_cases h5 : (s.size : Int) % 2 = 1
      · have c1 : 1 + s.size ≤ 9223372036854775807 := by omega
        have eb : bytesOf ((⟨#[48]⟩ : ByteArray) ++ s) = 48 :: bytesOf s := by rw [bytesOf_append]; rfl
        have ez : ((⟨#[48]⟩ : ByteArray) ++ s).size = s.size + 1 := by rw [size_eq, eb, List.length_cons, bytesOf_length]
        have ev : evened (bytesOf s) = 48 :: bytesOf s := by unfold evened; rw [if_pos (by rw [bytesOf_length]; omega)]
        rw [if_pos h5, if_pos c1, spec_PutBcd.j1, ev]
        have hh := spec_PutBcd_l ((⟨#[48]⟩ : ByteArray) ++ s) (by omega) (by rw [eb, List.all_cons, h1]; decide) ((s.size + 1) / 2) 0 k [] (by omega) (by simp; omega) (by omega)
        rw [eb] at hh
        simpa using hh
      · have ev : evened (bytesOf s) = bytesOf s := by unfold evened; rw [if_neg (by rw [bytesOf_length]; omega)]
        rw [if_neg h5, spec_PutBcd.j1, ev]
        have hh := spec_PutBcd_l s (by omega) h1 (s.size / 2) 0 k [] (by omega) (by simp; omega) (by omega)
        simpa using hh
  · rw [if_neg h, spec_PutBcd.j0]
    simp [h]
end Go.Proofs.Ytglkdifcagfknaa.Q
