/- Lemmas on what the printed functions compute (msgSz); no condition. -/
import Derived.Test.YtnhejdelcopphaaLMsgs
import Derived.Test.YtnhejdelcopphaaQx16
import Derived.Test.YtnhejdelcopphaaQx17
import Derived.Test.YtnhejdelcopphaaQx0
namespace Go.Proofs.Ytnhejdelcopphaa.Q
open Go.RowKit Go.Proofs.YtnhejdelcopphaaW.PrintWords Go.Proofs.YtnhejdelcopphaaW.PrintLast Go.Proofs.YtnhejdelcopphaaW.PrintMore
set_option linter.unusedVariables false
set_option linter.unusedSimpArgs false

theorem szFieldS_l (l : List LF) (hl : l.length ≤ 10000000) (hw : ∀ f ∈ l, f.f1.size ≤ 9223372036854775807) : ∀ (d n k : Nat) (a : Int), n + d = l.length → 0 ≤ a → a ≤ 1048576 → d < k →
    ∃ r, laws_szFieldS.l0 k l a (n : Int) = some r ∧ (r < 0 ∨ (0 ≤ r ∧ r ≤ a ∧ ∀ f ∈ l.drop n, (f.f1.size : Int) ≤ a)) := by
  intro d
  induction d with
  | zero =>
    intro n k a hd h0 h1 hk
    obtain ⟨k, rfl⟩ : ∃ m, k = m + 1 := ⟨k - 1, by omega⟩
    have c1 : ¬ (n : Int) < (l.length : Int) := by omega
    simp only [laws_szFieldS.l0, if_neg c1]
    refine ⟨a, rfl, Or.inr ⟨h0, Int.le_refl _, ?_⟩⟩
    rw [List.drop_of_length_le (by omega)]
    intro f hf
    simp at hf
  | succ d ih =>
    intro n k a hd h0 h1 hk
    obtain ⟨k, rfl⟩ : ∃ m, k = m + 1 := ⟨k - 1, by omega⟩
    have c1 : (n : Int) < (l.length : Int) := by omega
    have c2 : 0 ≤ (n : Int) := by omega
    have hs := hw _ (rdL_mem l n (by omega))
    rw [dropL l n (by omega)]
    simp only [laws_szFieldS.l0, if_pos c1, if_pos c2]
    unfold laws_szField.f
    generalize rd_T85 l (n : Int) = f at hs
    have e : wrap64 (a - (f.f1.size : Int)) = a - (f.f1.size : Int) := w64id (by omega) (by omega)
    rw [e]
    by_cases h : a - (f.f1.size : Int) < 0
    · rw [if_pos h]
      exact ⟨-1, rfl, Or.inl (by omega)⟩
    · rw [if_neg h, Option.bind_some, if_neg h, w64s (by omega)]
      obtain ⟨r, hr, hq⟩ := ih (n + 1) k (a - (f.f1.size : Int)) (by omega) (by omega) (by omega) (by omega)
      refine ⟨r, hr, ?_⟩
      rcases hq with hq | ⟨q1, q2, q3⟩
      · exact Or.inl hq
      · refine Or.inr ⟨q1, by omega, fun g hg => ?_⟩
        rcases List.mem_cons.1 hg with rfl | hg
        · omega
        · have := q3 g hg
          omega

/-- The size of a message: below 0, or all of it is small. -/
theorem szMsg_at (m : ByteArray) (l : List LF) (hm : m.size ≤ 9223372036854775807) (hl : l.length ≤ 9223372036854775807) (hw : ∀ f ∈ l, f.f1.size ≤ 9223372036854775807) (a : Int) (h0 : 0 ≤ a) (h1 : a ≤ 1048576) :
    ∃ r, (∀ k, l.length < k → laws_szMsg.f k m l a = some r) ∧ (r < 0 ∨ (0 ≤ r ∧ r ≤ a ∧ m.size ≤ 1048576 ∧ l.length ≤ 1048576 ∧ ∀ f ∈ l, f.f1.size ≤ 1048576)) := by
  have e : wrap64 (a - (m.size : Int)) = a - (m.size : Int) := w64id (by omega) (by omega)
  by_cases h : a - (m.size : Int) < 0
  · refine ⟨-1, fun k _ => ?_, Or.inl (by omega)⟩
    unfold laws_szMsg.f
    rw [e, if_pos h]
  have e2 : wrap64 (a - (m.size : Int) - (l.length : Int)) = a - (m.size : Int) - (l.length : Int) := w64id (by omega) (by omega)
  by_cases h2 : a - (m.size : Int) - (l.length : Int) < 0
  · refine ⟨-1, fun k _ => ?_, Or.inl (by omega)⟩
    unfold laws_szMsg.f laws_szFieldS.f
    rw [e, if_neg h, e2, if_pos h2, Option.bind_some, if_pos (by omega)]
  have hl2 : l.length ≤ 1048576 := by omega
  have hm2 : m.size ≤ 1048576 := by omega
  clear e e2
  obtain ⟨r, hr, hq⟩ := szFieldS_l l (by omega) hw l.length 0 (l.length + 1) (a - (m.size : Int) - (l.length : Int)) (by omega) (by omega) (by omega) (by omega)
  have e : wrap64 (a - (m.size : Int)) = a - (m.size : Int) := w64id (by omega) (by omega)
  have e2 : wrap64 (a - (m.size : Int) - (l.length : Int)) = a - (m.size : Int) - (l.length : Int) := w64id (by omega) (by omega)
  have hz : laws_szFieldS.f (l.length + 1) l (a - (m.size : Int)) = some r := by
    unfold laws_szFieldS.f
    rw [e2, if_neg h2]
    exact hr
  refine ⟨if r < 0 then -1 else r, fun k hk => ?_, ?_⟩
  · unfold laws_szMsg.f
    rw [e, if_neg h, later (g := fun k => laws_szFieldS.f k l (a - (m.size : Int))) (fun k => laws_szFieldS.mono l _ k) hz k (by omega), Option.bind_some]
    by_cases q : r < 0
    · rw [if_pos q, if_pos q]
    · rw [if_neg q, if_neg q]
  · clear e e2
    rcases hq with hq | ⟨q1, q2, q3⟩
    · rw [if_pos hq]; exact Or.inl (by omega)
    · rw [if_neg (by omega)]
      refine Or.inr ⟨q1, by omega, hm2, hl2, fun f hf => ?_⟩
      have := q3 f (by simpa using hf)
      omega
end Go.Proofs.Ytnhejdelcopphaa.Q
