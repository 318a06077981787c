/- Lemmas on what the printed functions compute (wide); no condition. -/
import Derived.Test.YtiglmmofapcefaaDoorLNumText
import Derived.Test.YtiglmmofapcefaaDoorLRep
import Derived.Test.YtiglmmofapcefaaDoorQx5
import Derived.Test.YtiglmmofapcefaaDoorQx2
import Derived.Test.YtiglmmofapcefaaDoorQx4
import Derived.Test.YtiglmmofapcefaaDoorExtItoa
import Derived.Test.YtiglmmofapcefaaDoorQx0
namespace Go.Proofs.YtiglmmofapcefaaDoor.Q
open Go.RowKit Go.Proofs.YtiglmmofapcefaaDoorW.PrintWords Go.Proofs.YtiglmmofapcefaaDoorW.PrintLast Go.Proofs.YtiglmmofapcefaaDoorW.PrintMore
set_option linter.unusedVariables false
set_option linter.unusedSimpArgs false

/-- What Wide answers. -/
def wide (n w : Int) : ByteArray :=
  if 0 ≤ n ∧ 1 ≤ w ∧ w ≤ 18 ∧ ((decS n.toNat).size : Int) ≤ w then rep 48 (w - (decS n.toNat).size).toNat ++ decS n.toNat else ⟨#[]⟩

theorem decS_size (n : Nat) : (decS n).size = (decL n).length := by rw [size_eq, bytesOf_decS]

theorem decL_pos (n : Nat) : 0 < (decL n).length := by
  by_cases q : n < 10
  · rw [decL_small n q]; simp
  · rw [decL_step n q]; simp

theorem decS_toList (n : Nat) : ¬ (decS n).toList = [] := by
  intro h
  have := decL_pos n
  rw [← decS_size] at this
  have h2 : (decS n).toList.length = (decS n).size := by rw [ByteArray.toList_eq]; exact Array.length_toList
  rw [h] at h2
  simp at h2
  omega

theorem decL_long (n : Nat) : ∀ d : Nat, 10 ^ d ≤ n → d + 1 ≤ (decL n).length := by
  intro d
  induction d generalizing n with
  | zero => intro _; exact decL_pos n
  | succ d ih =>
    intro h
    have hp : 10 ^ (d + 1) = 10 ^ d * 10 := Nat.pow_succ 10 d
    have h1 : 0 < 10 ^ d := Nat.pos_of_ne_zero (by intro h0; simp at h0)
    have q : ¬ n < 10 := by omega
    rw [decL_step n q, List.length_append]
    have := ih (n / 10) (by omega)
    simp
    omega

theorem spec_Wide_l (w : Int) (hw : w ≤ 18) : ∀ (d k : Nat) (s : ByteArray), (s.size : Int) + d = w → d < k → spec_Wide.l0 k w s = some (rep 48 d ++ s) := by
  intro d
  induction d with
  | zero =>
    intro k s hd hk
    obtain ⟨k, rfl⟩ : ∃ m, k = m + 1 := ⟨k - 1, by omega⟩
    have c1 : ¬ (s.size : Int) < w := by omega
    simp only [spec_Wide.l0, if_neg c1]
    rw [rep_zero, nil_app]
  | succ d ih =>
    intro k s hd hk
    obtain ⟨k, rfl⟩ : ∃ m, k = m + 1 := ⟨k - 1, by omega⟩
    have c1 : (s.size : Int) < w := by omega
    have hz : ((⟨#[48]⟩ : ByteArray) ++ s).size = s.size + 1 := by rw [ByteArray.size_append]; exact Nat.add_comm _ _
    simp only [spec_Wide.l0, if_pos c1]
    rw [if_pos (by omega), ih k _ (by omega) (by omega), ← app_assoc, rep_front]

theorem spec_Wide_at (n w : Int) (h1 : n ≤ 9223372036854775807) (k : Nat) (hk : 60 < k) : spec_Wide.f k n w = some (wide n w) := by
  obtain ⟨k, rfl⟩ : ∃ m, k = m + 1 := ⟨k - 1, by omega⟩
  have hno : ¬ (0 ≤ n ∧ 1 ≤ w ∧ w ≤ 18 ∧ ((decS n.toNat).size : Int) ≤ w) → ∀ s, spec_Wide.j0 (k + 1) w s true = some (wide n w) := by
    intro h s
    unfold wide
    rw [if_neg h, spec_Wide.j0, if_pos rfl]
  unfold spec_Wide.f
  rw [spec_NumText_at n (k + 1) (by omega), Option.bind_some]
  by_cases hn : 0 ≤ n ∧ n ≤ 4611686018427387904
  · have e : numText n = decS n.toNat := by unfold numText; rw [if_pos hn]
    rw [e, if_neg (decS_toList _)]
    by_cases c1 : w < 1
    · rw [if_pos c1]; exact hno (by omega) _
    by_cases c2 : w > 18
    · rw [if_neg c1, if_pos c2]; exact hno (by omega) _
    by_cases c3 : ((decS n.toNat).size : Int) > w
    · rw [if_neg c1, if_neg c2, decide_eq_true c3]; exact hno (by omega) _
    rw [if_neg c1, if_neg c2, decide_eq_false c3, spec_Wide.j0, if_neg (by simp), spec_Wide_l w (by omega) (w - (decS n.toNat).size).toNat k _ (by omega) (by omega)]
    unfold wide
    rw [if_pos (by omega)]
  · have e : numText n = ⟨#[]⟩ := by unfold numText; rw [if_neg hn]
    rw [e, if_pos (by rw [ByteArray.toList_eq])]
    refine hno ?_ _
    by_cases h0 : 0 ≤ n
    · have := decL_long n.toNat 18 (by omega)
      rw [decS_size]
      omega
    · omega

theorem impl_Wide_at (n w : Int) (h0 : -9223372036854775808 ≤ n) (h1 : n ≤ 9223372036854775807) : impl_Wide.f n w = some (wide n w) := by
  unfold impl_Wide.f
  have hi : strconv_Itoa.f n = some (⟨(Lib.itoa n).toArray⟩ : ByteArray) := by unfold strconv_Itoa.f; rw [if_pos ⟨h0, h1⟩]
  by_cases hn : n < 0
  · rw [hi, Option.bind_some, if_pos hn]
    unfold wide
    rw [if_neg (by omega)]
  rw [itoa_at n (by omega) h1, Option.bind_some, if_neg hn]
  have hin : impl_within.f w 1 18 = some (decide (1 ≤ w ∧ w ≤ 18)) := by
    unfold impl_within.f
    by_cases h : 1 ≤ w
    · rw [if_pos h]; simp [h]
    · rw [if_neg h]; simp [h]
  rw [hin, Option.bind_some]
  unfold wide
  by_cases hw : 1 ≤ w ∧ w ≤ 18
  · rw [if_pos (decide_eq_true hw)]
    by_cases hz : ((decS n.toNat).size : Int) > w
    · rw [if_pos hz, if_neg (by omega)]
    · have e : wrap64 (w - ((decS n.toNat).size : Int)) = w - ((decS n.toNat).size : Int) := w64id (by omega) (by omega)
      rw [if_neg hz, e, repeat_at 48 _ (by omega) (by omega), Option.bind_some]
      have hz2 : (rep 48 (w - ((decS n.toNat).size : Int)).toNat).size ≤ 18 := by rw [rep_size]; omega
      rw [if_pos (by omega), if_pos (by omega)]
  · rw [if_neg (by simpa using hw), if_neg (by omega)]
end Go.Proofs.YtiglmmofapcefaaDoor.Q
