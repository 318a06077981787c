/- Lemmas on what the printed functions compute (markIntS); no condition. -/
import Derived.Test.YtnhejdelcopphaaLRdset
import Derived.Test.YtnhejdelcopphaaQx14
import Derived.Test.YtnhejdelcopphaaQx13
import Derived.Test.YtnhejdelcopphaaQx0
namespace Go.Proofs.Ytnhejdelcopphaa.Q
open Go.RowKit Go.Proofs.YtnhejdelcopphaaW.PrintWords Go.Proofs.YtnhejdelcopphaaW.PrintLast Go.Proofs.YtnhejdelcopphaaW.PrintMore
set_option linter.unusedVariables false
set_option linter.unusedSimpArgs false

theorem markIntS_l : ∀ (d n k : Nat) (y : List Int) (a : Int), n + d = y.length → y.length ≤ 1000000000000 → 0 ≤ a → a + d ≤ 1000000000000 → d < k →
    ∃ y', laws_markIntS.l0 k y a (n : Int) = some (a + d, y') ∧ y'.length = y.length ∧ (∀ j : Nat, j < n → rd y' (j : Int) = rd y (j : Int)) ∧ ∀ j : Nat, n ≤ j → j < y.length → rd y' (j : Int) = a + ((j : Int) - (n : Int)) := by
  intro d
  induction d with
  | zero =>
    intro n k y a hd hy ha hb hk
    obtain ⟨k, rfl⟩ : ∃ m, k = m + 1 := ⟨k - 1, by omega⟩
    have c1 : ¬ (n : Int) < (y.length : Int) := by omega
    simp only [laws_markIntS.l0, if_neg c1]
    refine ⟨y, ?_, rfl, fun _ _ => rfl, fun j h1 h2 => by omega⟩
    simp
  | succ d ih =>
    intro n k y a hd hy ha hb hk
    obtain ⟨k, rfl⟩ : ∃ m, k = m + 1 := ⟨k - 1, by omega⟩
    have c1 : (n : Int) < (y.length : Int) := by omega
    have c2 : 0 ≤ (n : Int) := by omega
    simp only [laws_markIntS.l0, if_pos c1, if_pos c2, toNat_cast]
    rw [show wrap64 ((n : Int) + 1) = ((n + 1 : Nat) : Int) from by unfold wrap64; omega, show wrap64 (a + 1) = a + 1 from by unfold wrap64; omega]
    obtain ⟨y', h1, h2, h3, h4⟩ := ih (n + 1) k (y.set n (a)) (a + 1) (by simpa using (by omega : n + 1 + d = y.length)) (by simpa using hy) (by omega) (by omega) (by omega)
    refine ⟨y', ?_, by simpa using h2, fun j hj => ?_, fun j hj1 hj2 => ?_⟩
    · rw [h1, show a + 1 + (d : Int) = a + ((d + 1 : Nat) : Int) from by omega]
    · rw [h3 j (by omega), rd_set_other _ _ _ _ (by omega)]
    · by_cases e : j = n
      · rw [e, h3 n (by omega), rd_set_same _ _ _ (by omega)]
        have : a + ((n : Int) - (n : Int)) = a := by omega
        rw [this]
      · rw [h4 j (by omega) (by simpa using hj2)]
        have : a + 1 + ((j : Int) - ((n + 1 : Nat) : Int)) = a + ((j : Int) - (n : Int)) := by omega
        rw [this]

theorem heldIntS_l : ∀ (d n k : Nat) (y : List Int) (a : Int), n + d = y.length → y.length ≤ 1000000000000 → 0 ≤ a → a + d ≤ 1000000000000 → d < k → (∀ j : Nat, n ≤ j → j < y.length → rd y (j : Int) = a + ((j : Int) - (n : Int))) →
    laws_heldIntS.l0 k y a (n : Int) = some (a + d) := by
  intro d
  induction d with
  | zero =>
    intro n k y a hd hy ha hb hk hv
    obtain ⟨k, rfl⟩ : ∃ m, k = m + 1 := ⟨k - 1, by omega⟩
    have c1 : ¬ (n : Int) < (y.length : Int) := by omega
    simp only [laws_heldIntS.l0, if_neg c1]
    simp
  | succ d ih =>
    intro n k y a hd hy ha hb hk hv
    obtain ⟨k, rfl⟩ : ∃ m, k = m + 1 := ⟨k - 1, by omega⟩
    have c1 : (n : Int) < (y.length : Int) := by omega
    have c2 : 0 ≤ (n : Int) := by omega
    have c3 : rd y (n : Int) = a := by
      rw [hv n (by omega) (by omega)]
      have : a + ((n : Int) - (n : Int)) = a := by omega
      rw [this]
    simp only [laws_heldIntS.l0, if_pos c1, if_pos c2, if_pos c3]
    rw [show wrap64 ((n : Int) + 1) = ((n + 1 : Nat) : Int) from by unfold wrap64; omega, show wrap64 (a + 1) = a + 1 from by unfold wrap64; omega]
    rw [ih (n + 1) k y (a + 1) (by omega) hy (by omega) (by omega) (by omega) (fun j h1 h2 => ?_)]
    · rw [show a + 1 + (d : Int) = a + ((d + 1 : Nat) : Int) from by omega]
    · rw [hv j (by omega) h2]
      have : a + 1 + ((j : Int) - ((n + 1 : Nat) : Int)) = a + ((j : Int) - (n : Int)) := by omega
      rw [this]

/-- What is marked is held, by as many as it has. -/
theorem markIntS_held (y : List Int) (hy : y.length ≤ 10000000) (a : Int) (ha : 0 ≤ a) (hb : a ≤ 1000000000) :
    ∃ y', y'.length = y.length ∧ ∀ k, y.length < k → laws_markIntS.f k y a = some (a + y.length, y') ∧ laws_heldIntS.f k y' a = some (a + y.length) := by
  obtain ⟨y', h1, h2, _, h4⟩ := markIntS_l y.length 0 (y.length + 1) y a (by omega) (by omega) ha (by omega) (by omega)
  refine ⟨y', h2, fun k hk => ⟨later (g := fun k => laws_markIntS.f k y a) (fun k => laws_markIntS.mono y a k) h1 k hk, ?_⟩⟩
  have h := heldIntS_l y'.length 0 k y' a (by omega) (by omega) ha (by omega) (by omega) (fun j hj1 hj2 => h4 j hj1 (by omega))
  rw [h2] at h
  exact h
end Go.Proofs.Ytnhejdelcopphaa.Q
