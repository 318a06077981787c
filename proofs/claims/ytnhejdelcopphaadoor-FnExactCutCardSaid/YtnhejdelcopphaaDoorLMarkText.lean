/- Lemmas on what the printed functions compute (markText); no condition. -/
import Derived.Test.YtnhejdelcopphaaDoorLStrs
import Derived.Test.YtnhejdelcopphaaDoorQx6
import Derived.Test.YtnhejdelcopphaaDoorQx0
namespace Go.Proofs.YtnhejdelcopphaaDoor.Q
open Go.RowKit Go.Proofs.YtnhejdelcopphaaDoorW.PrintWords Go.Proofs.YtnhejdelcopphaaDoorW.PrintLast Go.Proofs.YtnhejdelcopphaaDoorW.PrintMore
set_option linter.unusedVariables false
set_option linter.unusedSimpArgs false

theorem markText_l : ∀ (d k : Nat) (a : Int) (x : ByteArray), 0 ≤ a → a ≤ 1000000000 → a < 10 ^ d → x.size + d ≤ 1000 → d < k → ∃ t, laws_markText.l0 k a x = some t := by
  intro d
  induction d with
  | zero =>
    intro k a x h0 hg h1 hx hk
    obtain ⟨k, rfl⟩ : ∃ m, k = m + 1 := ⟨k - 1, by omega⟩
    have c1 : ¬ a > 0 := by simp at h1; omega
    have c2 : 1 + x.size ≤ 9223372036854775807 := by omega
    simp only [laws_markText.l0, if_neg c1, if_pos c2]
    exact ⟨_, rfl⟩
  | succ d ih =>
    intro k a x h0 hg h1 hx hk
    obtain ⟨k, rfl⟩ : ∃ m, k = m + 1 := ⟨k - 1, by omega⟩
    simp only [laws_markText.l0]
    by_cases c1 : a > 0
    · have hz : (strOfNums [wrap64 (48 + Int.tmod a 10) % 256]).size = 1 := by rw [strOfNums_size]; rfl
      rw [if_pos c1, Option.bind_some, if_pos (by omega)]
      have hq : 0 ≤ wrap64 (Int.tdiv a 10) ∧ wrap64 (Int.tdiv a 10) ≤ 1000000000 ∧ wrap64 (Int.tdiv a 10) < 10 ^ d := by
        rw [Int.tdiv_eq_ediv_of_nonneg h0]
        have hp : (10 : Int) ^ (d + 1) = 10 ^ d * 10 := Int.pow_succ 10 d
        rw [hp] at h1
        generalize (10 : Int) ^ d = p at h1
        rw [w64id (by omega) (by omega)]
        omega
      refine ih k _ _ hq.1 hq.2.1 hq.2.2 ?_ (by omega)
      rw [ByteArray.size_append, hz]
      omega
    · have c2 : 1 + x.size ≤ 9223372036854775807 := by omega
      rw [if_neg c1, if_pos c2]
      exact ⟨_, rfl⟩

def mtext (a : Int) : ByteArray := (laws_markText.f 30 a).getD ⟨#[]⟩

theorem markText_at (a : Int) (h1 : a ≤ 1000000000) (k : Nat) (hk : 30 ≤ k) : laws_markText.f k a = some (mtext a) := by
  have h : laws_markText.f 30 a = some (mtext a) := by
    unfold mtext
    by_cases h : a ≤ 0
    · unfold laws_markText.f
      rw [if_pos h]; rfl
    · obtain ⟨t, ht⟩ := markText_l 10 30 a ⟨#[]⟩ (by omega) (by omega) (by omega) (by decide) (by omega)
      have : laws_markText.f 30 a = some t := by
        unfold laws_markText.f
        rw [if_neg h]; exact ht
      rw [this]; rfl
  exact later (g := fun k => laws_markText.f k a) (fun k => laws_markText.mono a k) h k hk
end Go.Proofs.YtnhejdelcopphaaDoor.Q
