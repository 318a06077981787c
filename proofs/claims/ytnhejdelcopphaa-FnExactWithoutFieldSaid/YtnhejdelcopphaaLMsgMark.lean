/- Lemmas on what the printed functions compute (msgMark); no condition. -/
import Derived.Test.YtnhejdelcopphaaLMsgs
import Derived.Test.YtnhejdelcopphaaLStrs
import Derived.Test.YtnhejdelcopphaaQx46
import Derived.Test.YtnhejdelcopphaaQx47
import Derived.Test.YtnhejdelcopphaaQx45
import Derived.Test.YtnhejdelcopphaaQx44
import Derived.Test.YtnhejdelcopphaaQx0
namespace Go.Proofs.Ytnhejdelcopphaa.Q
open Go.RowKit Go.Proofs.YtnhejdelcopphaaW.PrintWords Go.Proofs.YtnhejdelcopphaaW.PrintLast Go.Proofs.YtnhejdelcopphaaW.PrintMore
set_option linter.unusedVariables false
set_option linter.unusedSimpArgs false

theorem markText_l : ∀ (d k : Nat) (a : Int) (x : ByteArray), 0 ≤ a → a ≤ 1000000000 → a < 10 ^ d → x.size + d ≤ 1000 → d < k → ∃ t, laws_markText.l0 k a x = some t := by
  intro d
  induction d with
  | zero =>
    intro k a x h0 hg h1 hx hk
    obtain ⟨k, rfl⟩ : ∃ m, k = m + 1 := ⟨k - 1, by omega⟩
    have c1 : ¬ a > 0 := by simp at h1; omega
    have c2 : 1 + x.size ≤ 9223372036854775807 := by omega
    simp only [laws_markText.l0, if_neg c1, if_pos c2]
    exact ⟨_, rfl⟩
  | succ d ih =>
    intro k a x h0 hg h1 hx hk
    obtain ⟨k, rfl⟩ : ∃ m, k = m + 1 := ⟨k - 1, by omega⟩
    simp only [laws_markText.l0]
    by_cases c1 : a > 0
    · have hz : (strOfNums [wrap64 (48 + Int.tmod a 10) % 256]).size = 1 := by rw [strOfNums_size]; rfl
      rw [if_pos c1, Option.bind_some, if_pos (by omega)]
      have hq : 0 ≤ wrap64 (Int.tdiv a 10) ∧ wrap64 (Int.tdiv a 10) ≤ 1000000000 ∧ wrap64 (Int.tdiv a 10) < 10 ^ d := by
        rw [Int.tdiv_eq_ediv_of_nonneg h0]
        have hp : (10 : Int) ^ (d + 1) = 10 ^ d * 10 := Int.pow_succ 10 d
        rw [hp] at h1
        generalize (10 : Int) ^ d = p at h1
        rw [w64id (by omega) (by omega)]
        omega
      refine ih k _ _ hq.1 hq.2.1 hq.2.2 ?_ (by omega)
      rw [ByteArray.size_append, hz]
      omega
    · have c2 : 1 + x.size ≤ 9223372036854775807 := by omega
      rw [if_neg c1, if_pos c2]
      exact ⟨_, rfl⟩

def mtext (a : Int) : ByteArray := (laws_markText.f 30 a).getD ⟨#[]⟩

theorem markText_at (a : Int) (h1 : a ≤ 1000000000) (k : Nat) (hk : 30 ≤ k) : laws_markText.f k a = some (mtext a) := by
  have h : laws_markText.f 30 a = some (mtext a) := by
    unfold mtext
    by_cases h : a ≤ 0
    · unfold laws_markText.f
      rw [if_pos h]; rfl
    · obtain ⟨t, ht⟩ := markText_l 10 30 a ⟨#[]⟩ (by omega) (by omega) (by omega) (by decide) (by omega)
      have : laws_markText.f 30 a = some t := by
        unfold laws_markText.f
        rw [if_neg h]; exact ht
      rw [this]; rfl
  exact later (g := fun k => laws_markText.f k a) (fun k => laws_markText.mono a k) h k hk

def mfield (a : Int) : IF := ⟨a, mtext (a + 1)⟩

theorem markFieldS_l : ∀ (d n k : Nat) (y : List IF) (a : Int), n + d = y.length → y.length ≤ 10000000 → 0 ≤ a → a + 2 * d ≤ 900000000 → d + 30 ≤ k →
    ∃ y', laws_markFieldS.l0 k y a (n : Int) = some (a + 2 * d, y') ∧ y'.length = y.length ∧ (∀ j : Nat, j < n → rd_T71 y' (j : Int) = rd_T71 y (j : Int)) ∧ ∀ j : Nat, n ≤ j → j < y.length → rd_T71 y' (j : Int) = mfield (a + 2 * ((j : Int) - (n : Int))) := by
  intro d
  induction d with
  | zero =>
    intro n k y a hd hy ha hb hk
    obtain ⟨k, rfl⟩ : ∃ m, k = m + 1 := ⟨k - 1, by omega⟩
    have c1 : ¬ (n : Int) < (y.length : Int) := by omega
    simp only [laws_markFieldS.l0, if_neg c1]
    refine ⟨y, ?_, rfl, fun _ _ => rfl, fun j h1 h2 => by omega⟩
    simp
  | succ d ih =>
    intro n k y a hd hy ha hb hk
    obtain ⟨k, rfl⟩ : ∃ m, k = m + 1 := ⟨k - 1, by omega⟩
    have c1 : (n : Int) < (y.length : Int) := by omega
    have c2 : 0 ≤ (n : Int) := by omega
    have e1 : wrap64 (a + 1) = a + 1 := w64id (by omega) (by omega)
    have e2 : wrap64 (a + 1 + 1) = a + 2 := by rw [w64id (by omega) (by omega)]; omega
    simp only [laws_markFieldS.l0, if_pos c1, if_pos c2, intNat, Option.bind_some, e1, e2, w64s (n := n) (by omega), markText_at (a + 1) (by omega) k (by omega)]
    have hset : (y.set n ⟨a, (rd_T71 y (n : Int)).f1⟩).set n ⟨(rd_T71 (y.set n ⟨a, (rd_T71 y (n : Int)).f1⟩) (n : Int)).f0, mtext (a + 1)⟩ = y.set n (mfield a) := by
      rw [rdF_set_same _ _ _ (by omega), List.set_set]
      rfl
    rw [hset]
    obtain ⟨y', h1, h2, h3, h4⟩ := ih (n + 1) k (y.set n (mfield a)) (a + 2) (by simpa using (by omega : n + 1 + d = y.length)) (by simpa using hy) (by omega) (by omega) (by omega)
    refine ⟨y', ?_, by simpa using h2, fun j hj => ?_, fun j hj1 hj2 => ?_⟩
    · rw [h1, show a + 2 + 2 * (d : Int) = a + 2 * ((d + 1 : Nat) : Int) from by omega]
    · rw [h3 j (by omega), rdF_set_other _ _ _ _ (by omega)]
    · by_cases e : j = n
      · rw [e, h3 n (by omega), rdF_set_same _ _ _ (by omega)]
        have : a + 2 * ((n : Int) - (n : Int)) = a := by omega
        rw [this]
      · rw [h4 j (by omega) (by simpa using hj2)]
        have : a + 2 + 2 * ((j : Int) - ((n + 1 : Nat) : Int)) = a + 2 * ((j : Int) - (n : Int)) := by omega
        rw [this]

theorem heldFieldS_l : ∀ (d n k : Nat) (y : List IF) (a : Int), n + d = y.length → y.length ≤ 10000000 → 0 ≤ a → a + 2 * d ≤ 900000000 → d + 30 ≤ k → (∀ j : Nat, n ≤ j → j < y.length → rd_T71 y (j : Int) = mfield (a + 2 * ((j : Int) - (n : Int)))) →
    laws_heldFieldS.l0 k y a (n : Int) = some (a + 2 * d) := by
  intro d
  induction d with
  | zero =>
    intro n k y a hd hy ha hb hk hv
    obtain ⟨k, rfl⟩ : ∃ m, k = m + 1 := ⟨k - 1, by omega⟩
    have c1 : ¬ (n : Int) < (y.length : Int) := by omega
    simp only [laws_heldFieldS.l0, if_neg c1]
    simp
  | succ d ih =>
    intro n k y a hd hy ha hb hk hv
    obtain ⟨k, rfl⟩ : ∃ m, k = m + 1 := ⟨k - 1, by omega⟩
    have c1 : (n : Int) < (y.length : Int) := by omega
    have c2 : 0 ≤ (n : Int) := by omega
    have e1 : wrap64 (a + 1) = a + 1 := w64id (by omega) (by omega)
    have e2 : wrap64 (a + 1 + 1) = a + 2 := by rw [w64id (by omega) (by omega)]; omega
    have c3 : rd_T71 y (n : Int) = mfield a := by
      rw [hv n (by omega) (by omega)]
      have : a + 2 * ((n : Int) - (n : Int)) = a := by omega
      rw [this]
    simp only [laws_heldFieldS.l0, if_pos c1, if_pos c2, c3, mfield, if_true, e1, e2, w64s (n := n) (by omega), markText_at (a + 1) (by omega) k (by omega), Option.bind_some]
    rw [ih (n + 1) k y (a + 2) (by omega) hy (by omega) (by omega) (by omega) (fun j h1 h2 => ?_)]
    · rw [show a + 2 + 2 * (d : Int) = a + 2 * ((d + 1 : Nat) : Int) from by omega]
    · rw [hv j (by omega) h2]
      have : a + 2 + 2 * ((j : Int) - ((n + 1 : Nat) : Int)) = a + 2 * ((j : Int) - (n : Int)) := by omega
      rw [this]

/-- A message that is marked holds its marks. -/
theorem markMsg_held (m : ByteArray) (y : List IF) (hy : y.length ≤ 10000000) (a : Int) (ha : 0 ≤ a) (hb : a ≤ 1000000) :
    ∃ y', y'.length = y.length ∧ ∀ k, y.length + 30 ≤ k → laws_markMsg.f k m y a = some (a + 2 * y.length, y') ∧ laws_heldMsg.f k m y' a = some (a + 2 * y.length) := by
  obtain ⟨y', h1, h2, _, h4⟩ := markFieldS_l y.length 0 (y.length + 30) y a (by omega) (by omega) ha (by omega) (by omega)
  have hm : ∀ k, y.length + 30 ≤ k → laws_markFieldS.f k y a = some (a + 2 * y.length, y') := fun k hk => later (g := fun k => laws_markFieldS.f k y a) (fun k => laws_markFieldS.mono y a k) h1 k hk
  refine ⟨y', h2, fun k hk => ⟨?_, ?_⟩⟩
  · unfold laws_markMsg.f
    rw [hm k hk]; rfl
  · have h := heldFieldS_l y'.length 0 k y' a (by omega) (by omega) ha (by omega) (by omega) (fun j hj1 hj2 => h4 j hj1 (by omega))
    have hf : laws_heldFieldS.f k y' a = some (a + 2 * y.length) := by rw [h2] at h; exact h
    unfold laws_heldMsg.f
    rw [hf, Option.bind_some, if_neg (by omega)]
end Go.Proofs.Ytnhejdelcopphaa.Q
