/- Lemmas on what the printed functions compute (hexText); no condition. -/
import Derived.Test.YtglkdifcagfknaaLStrs
import Derived.Test.YtglkdifcagfknaaQx2
import Derived.Test.YtglkdifcagfknaaQx0
namespace Go.Proofs.Ytglkdifcagfknaa.Q
open Go.RowKit Go.Proofs.YtglkdifcagfknaaW.PrintWords Go.Proofs.YtglkdifcagfknaaW.PrintLast Go.Proofs.YtglkdifcagfknaaW.PrintMore
set_option linter.unusedVariables false
set_option linter.unusedSimpArgs false

def hexd (n : Int) : Int := if n < 10 then 48 + n else 87 + n
def hexOf : List Int → List Int
  | [] => []
  | c :: t => hexd (c / 16) :: hexd (c % 16) :: hexOf t

theorem hexOf_append (a b : List Int) : hexOf (a ++ b) = hexOf a ++ hexOf b := by
  induction a with
  | nil => rfl
  | cons c t ih => simp [hexOf, ih]

theorem hexOf_length (a : List Int) : (hexOf a).length = 2 * a.length := by
  induction a with
  | nil => rfl
  | cons c t ih => simp [hexOf, ih]; omega

theorem bt_hex (n : Int) (h0 : 0 ≤ n) (h1 : n < 16) : bt (⟨#[48, 49, 50, 51, 52, 53, 54, 55, 56, 57, 97, 98, 99, 100, 101, 102]⟩ : ByteArray) n = hexd n := by
  have h : ∀ n : Fin 16, bt (⟨#[48, 49, 50, 51, 52, 53, 54, 55, 56, 57, 97, 98, 99, 100, 101, 102]⟩ : ByteArray) (n.val : Int) = hexd (n.val : Int) := by decide +kernel
  have := h ⟨n.toNat, by omega⟩
  have e : ((n.toNat : Nat) : Int) = n := by omega
  simpa [e] using this

theorem take_succ_rd (l : List Int) (n : Nat) (h : n < l.length) : l.take (n + 1) = l.take n ++ [rd l (n : Int)] := by
  rw [List.take_succ_eq_append_getElem h, rd_nat l n h]

theorem spec_HexText_l (l : List Int) (hl : l.length ≤ 10000000) (hb : ∀ c ∈ l, isByte c) : ∀ (d n k : Nat), n + d = l.length → d < k →
    spec_HexText.l0 k (strOfNums (hexOf (l.take n))) l (l.length : Int) (n : Int) = some (strOfNums (hexOf l)) := by
  intro d
  induction d with
  | zero =>
    intro n k hd hk
    obtain ⟨k, rfl⟩ : ∃ m, k = m + 1 := ⟨k - 1, by omega⟩
    have c1 : ¬ (n : Int) < (l.length : Int) := by omega
    simp only [spec_HexText.l0, if_neg c1]
    rw [List.take_of_length_le (by omega)]
  | succ d ih =>
    intro n k hd hk
    obtain ⟨k, rfl⟩ : ∃ m, k = m + 1 := ⟨k - 1, by omega⟩
    have c1 : (n : Int) < (l.length : Int) := by omega
    have c2 : 0 ≤ (n : Int) := by omega
    obtain ⟨b0, b1⟩ := hb _ (rd_mem l n (by omega))
    have ht := take_succ_rd l n (by omega)
    have ih' := ih (n + 1) k (by omega) (by omega)
    rw [ht, hexOf_append, strOfNums_append] at ih'
    have hz : (hexOf (l.take n)).length ≤ 2 * l.length := by rw [hexOf_length, List.length_take]; omega
    simp only [spec_HexText.l0, if_pos c1, if_pos c2, w64 c2 (by omega)]
    generalize rd l (n : Int) = b at b0 b1 ih'
    have e1 : wrap64 b = b := by unfold wrap64; omega
    have e2 : Int.tdiv b 16 = b / 16 := Int.tdiv_eq_ediv_of_nonneg (by omega)
    have e3 : Int.tmod b 16 = b % 16 := Int.tmod_eq_emod_of_nonneg (by omega)
    have e4 : wrap64 (b / 16) = b / 16 := by unfold wrap64; omega
    have q1 : 0 ≤ b / 16 := by omega
    have q2 : b / 16 < 16 := by omega
    have q3 : 0 ≤ b % 16 := by omega
    have q4 : b % 16 < 16 := by omega
    simp only [e1, e2, e3, e4, if_pos q1, if_pos q2, if_pos q3, if_pos q4, Option.bind_some, bt_hex _ q1 q2, bt_hex _ q3 q4]
    have q5 : (strOfNums (hexOf (l.take n))).size + (strOfNums [hexd (b / 16), hexd (b % 16)]).size ≤ 9223372036854775807 := by
      rw [strOfNums_size, strOfNums_size]
      simp
      omega
    rw [if_pos q5]
    exact ih'

theorem spec_HexText_at (l : List Int) (hl : l.length ≤ 10000000) (hb : ∀ c ∈ l, isByte c) (k : Nat) (hk : l.length < k) : spec_HexText.f k l = some (strOfNums (hexOf l)) := by
  unfold spec_HexText.f
  exact spec_HexText_l l hl hb l.length 0 k (by omega) hk

theorem impl_HexText_l (l : List Int) (hl : l.length ≤ 10000000) (hb : ∀ c ∈ l, isByte c) : ∀ (d n k : Nat), n + d = l.length → d < k →
    impl_HexText.l0 k (hexOf (l.take n)) l (l.length : Int) (n : Int) = some (strOfNums (hexOf l)) := by
  intro d
  induction d with
  | zero =>
    intro n k hd hk
    obtain ⟨k, rfl⟩ : ∃ m, k = m + 1 := ⟨k - 1, by omega⟩
    have c1 : ¬ (n : Int) < (l.length : Int) := by omega
    simp only [impl_HexText.l0, if_neg c1]
    rw [List.take_of_length_le (by omega)]
  | succ d ih =>
    intro n k hd hk
    obtain ⟨k, rfl⟩ : ∃ m, k = m + 1 := ⟨k - 1, by omega⟩
    have c1 : (n : Int) < (l.length : Int) := by omega
    have c2 : 0 ≤ (n : Int) := by omega
    obtain ⟨b0, b1⟩ := hb _ (rd_mem l n (by omega))
    have ht := take_succ_rd l n (by omega)
    have ih' := ih (n + 1) k (by omega) (by omega)
    rw [ht, hexOf_append] at ih'
    have hz : (hexOf (l.take n)).length ≤ 2 * l.length := by rw [hexOf_length, List.length_take]; omega
    simp only [impl_HexText.l0, if_pos c1, if_pos c2, w64 c2 (by omega)]
    generalize rd l (n : Int) = b at b0 b1 ih'
    have e3 : Go.bits .and .u8 b 15 = b % 16 := u8_and15 b b0 (by omega)
    have q1 : 0 ≤ b / 16 := by omega
    have q2 : b / 16 < 16 := by omega
    have q3 : 0 ≤ b % 16 := by omega
    have q4 : b % 16 < 16 := by omega
    simp only [e3, if_pos q1, if_pos q2, if_pos q3, if_pos q4, Option.bind_some, bt_hex _ q1 q2, bt_hex _ q3 q4]
    have q5 : (hexOf (l.take n)).length + [hexd (b / 16), hexd (b % 16)].length < 140737488355328 := by
      simp
      omega
    rw [if_pos q5]
    exact ih'

theorem impl_HexText_at (l : List Int) (hl : l.length ≤ 10000000) (hb : ∀ c ∈ l, isByte c) (k : Nat) (hk : l.length < k) : impl_HexText.f k l = some (strOfNums (hexOf l)) := by
  unfold impl_HexText.f
  exact impl_HexText_l l hl hb l.length 0 k (by omega) hk
end Go.Proofs.Ytglkdifcagfknaa.Q
