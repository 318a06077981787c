/- Lemmas on what the printed functions compute (fieldBare); no condition. -/
import Derived.Test.YtnhejdelcopphaaDoorLStrs
import Derived.Test.YtnhejdelcopphaaDoorQx1
import Derived.Test.YtnhejdelcopphaaDoorExtTrim
import Derived.Test.YtnhejdelcopphaaDoorQx0
namespace Go.Proofs.YtnhejdelcopphaaDoor.Q
open Go.RowKit Go.Proofs.YtnhejdelcopphaaDoorW.PrintWords Go.Proofs.YtnhejdelcopphaaDoorW.PrintLast Go.Proofs.YtnhejdelcopphaaDoorW.PrintMore
set_option linter.unusedVariables false
set_option linter.unusedSimpArgs false

theorem trim_l (s : ByteArray) (hs : s.size ≤ 140737488351232) : ∀ (n k : Nat), n ≤ s.size → Lib.trimRightB s.data.toList 32 = Lib.trimRightB (s.data.toList.take n) 32 → n < k →
    spec_FieldBare.l0 k s (n : Int) = some ⟨(Lib.trimRightB s.data.toList 32).toArray⟩ := by
  intro n
  induction n with
  | zero =>
    intro k hn he hk
    obtain ⟨k, rfl⟩ : ∃ m, k = m + 1 := ⟨k - 1, by omega⟩
    rw [spec_FieldBare.l0, if_neg (by omega), if_pos (by omega), if_pos (by omega), he]
    congr 1
    rw [← Lib.mk_data (s.extract 0 ((0 : Nat) : Int).toNat), Lib.extract_data]
    simp [Lib.trimRightB]
  | succ n ih =>
    intro k hn he hk
    obtain ⟨k, rfl⟩ : ∃ m, k = m + 1 := ⟨k - 1, by omega⟩
    have e : wrap64 (((n + 1 : Nat) : Int) - 1) = (n : Int) := by unfold wrap64; omega
    have hlt : n < s.data.toList.length := by
      have hz : s.data.toList.length = s.size := by simp
      omega
    have ht : s.data.toList.take (n + 1) = s.data.toList.take n ++ [s.data.toList[n]] := by rw [List.take_succ_eq_append_getElem hlt]
    have hb : bt s (n : Int) = ((s.data.toList[n]).toNat : Int) := by
      unfold bt
      rw [dif_pos (by simp only [Int.toNat_natCast]; omega)]
      simp only [Int.toNat_natCast]
      rfl
    rw [spec_FieldBare.l0, if_pos (by omega), e, if_pos (by omega), if_pos (by omega), hb]
    by_cases q : ((s.data.toList[n]).toNat : Int) = 32
    · have q' : s.data.toList[n] = 32 := by
        apply UInt8.toNat_inj.1
        have : (32 : UInt8).toNat = 32 := rfl
        omega
      rw [if_pos q]
      refine ih k (by omega) ?_ (by omega)
      rw [he, ht, q']
      unfold Lib.trimRightB
      rw [List.reverse_append]
      simp
    · have q' : ¬ s.data.toList[n] = 32 := fun z => q (by rw [z]; rfl)
      rw [if_neg q, if_pos (by omega), if_pos (by omega), he, ht]
      congr 1
      unfold Lib.trimRightB
      rw [List.reverse_append]
      have hd : ([s.data.toList[n]].reverse ++ (s.data.toList.take n).reverse).dropWhile (· == 32) = [s.data.toList[n]].reverse ++ (s.data.toList.take n).reverse := by
        rw [List.reverse_singleton, List.singleton_append, List.dropWhile_cons, if_neg (by simpa using q')]
      rw [hd, ← List.reverse_append, List.reverse_reverse, ← ht]
      have e2 : (((n + 1 : Nat) : Int) : Int).toNat = n + 1 := by simp
      rw [e2]
      rw [← Lib.mk_data (s.extract 0 (n + 1)), Lib.extract_data]
      simp

theorem FieldBare_same (s : ByteArray) (hs : s.size ≤ 140737488351232) (k : Nat) (hk : s.size < k) : ∃ t, spec_FieldBare.f k s = some t ∧ impl_FieldBare.f s = some t := by
  refine ⟨⟨(Lib.trimRightB s.data.toList 32).toArray⟩, ?_, ?_⟩
  · unfold spec_FieldBare.f
    exact trim_l s hs s.size k (Nat.le_refl _) (by rw [List.take_of_length_le (by simp)]) hk
  · unfold impl_FieldBare.f strings_TrimRight.f
    rw [if_pos ⟨by rfl, by omega⟩]
    rfl
end Go.Proofs.YtnhejdelcopphaaDoor.Q
