/- Lemmas on what the printed functions compute (fieldOk); no condition. -/
import Derived.Test.YtnhejdelcopphaaLKinds
import Derived.Test.YtnhejdelcopphaaLRowOf
import Derived.Test.YtnhejdelcopphaaLSpecKind
import Derived.Test.YtnhejdelcopphaaLSpecSize
import Derived.Test.YtnhejdelcopphaaLDigits
import Derived.Test.YtnhejdelcopphaaLPrintable
import Derived.Test.YtnhejdelcopphaaLBcdPure
import Derived.Test.YtnhejdelcopphaaQx40
import Derived.Test.YtnhejdelcopphaaQx4
import Derived.Test.YtnhejdelcopphaaQx37
import Derived.Test.YtnhejdelcopphaaQx27
import Derived.Test.YtnhejdelcopphaaQx0
namespace Go.Proofs.Ytnhejdelcopphaa.Q
open Go.RowKit Go.Proofs.YtnhejdelcopphaaW.PrintWords Go.Proofs.YtnhejdelcopphaaW.PrintLast Go.Proofs.YtnhejdelcopphaaW.PrintMore
set_option linter.unusedVariables false
set_option linter.unusedSimpArgs false

/-- Whether a text is a content of a field. -/
def fieldOk (x : Int) (l : List Int) : Bool :=
  if kindOf x = 1 then digs l && ((l.length : Int) == sizeOf_ x)
  else if kindOf x = 2 then l.all isPri && ((l.length : Int) == sizeOf_ x)
  else if kindOf x = 3 then digs l && decide ((l.length : Int) ≤ sizeOf_ x)
  else if kindOf x = 4 ∨ kindOf x = 5 then l.all isPri && decide (1 ≤ (l.length : Int) ∧ (l.length : Int) ≤ sizeOf_ x)
  else false

theorem kind_range (x : Int) : 0 ≤ kindOf x ∧ kindOf x ≤ 5 := by
  unfold kindOf
  repeat' split
  all_goals omega

theorem spec_FieldOk_at (x : Int) (s : ByteArray) (hs : s.size ≤ 140737488351232) (k : Nat) (hk : s.size + 22 < k) : spec_FieldOk.f k x s = some (fieldOk x (bytesOf s)) := by
  unfold spec_FieldOk.f fieldOk
  rw [spec_FieldSize_at x k (by omega), spec_FieldKind_at x k (by omega)]
  simp only [Option.bind_some]
  obtain ⟨r0, r1⟩ := kind_range x
  rw [bytesOf_length]
  generalize kindOf x = t at r0 r1
  by_cases h1 : t = 1
  · rw [if_pos h1, if_pos h1, spec_Digits_at s hs k (by omega), Option.bind_some]
    cases digs (bytesOf s) <;> simp
  by_cases h2 : t = 2
  · rw [if_neg h1, if_neg h1, if_pos h2, if_pos h2, spec_Printable_at s hs k (by omega), Option.bind_some]
    cases (bytesOf s).all isPri <;> simp
  by_cases h3 : t = 3
  · rw [if_neg h1, if_neg h1, if_neg h2, if_neg h2, if_pos h3, if_pos h3, spec_Digits_at s hs k (by omega), Option.bind_some]
    cases digs (bytesOf s) <;> simp
  rw [if_neg h1, if_neg h1, if_neg h2, if_neg h2, if_neg h3, if_neg h3]
  obtain ⟨k, rfl⟩ : ∃ m, k = m + 1 := ⟨k - 1, by omega⟩
  have hp := spec_Printable_at s hs k (by omega)
  have hin : spec_l01In.f (s.size : Int) 1 (sizeOf_ x) = some (decide (1 ≤ (s.size : Int) ∧ (s.size : Int) ≤ sizeOf_ x)) := by
    unfold spec_l01In.f
    by_cases h : (s.size : Int) ≥ 1
    · have h' : 1 ≤ (s.size : Int) := h
      rw [if_pos h]; simp only [h', true_and]
    · have h' : ¬ 1 ≤ (s.size : Int) := h
      rw [if_neg h]; simp only [h', false_and, decide_false]
  by_cases h4 : t = 4 ∨ t = 5
  · rw [if_pos h4]
    have e : (if t = 4 then spec_FieldOk.j0 (k + 1) s (sizeOf_ x) (t == 4) else spec_FieldOk.j0 (k + 1) s (sizeOf_ x) (t == 5)) = spec_FieldOk.j0 (k + 1) s (sizeOf_ x) true := by
      rcases h4 with h | h
      · rw [if_pos h, h]; rfl
      · rw [if_neg (by omega), h]; rfl
    rw [e, spec_FieldOk.j0, if_pos rfl, hp, Option.bind_some, hin]
    cases (bytesOf s).all isPri <;> simp
  · rw [if_neg h4]
    have e : (if t = 4 then spec_FieldOk.j0 (k + 1) s (sizeOf_ x) (t == 4) else spec_FieldOk.j0 (k + 1) s (sizeOf_ x) (t == 5)) = spec_FieldOk.j0 (k + 1) s (sizeOf_ x) false := by
      have h5 : ¬ t = 5 := fun h => h4 (Or.inr h)
      rw [if_neg (fun h => h4 (Or.inl h)), show (t == 5) = false from by simpa using h5]
    rw [e, spec_FieldOk.j0, if_neg (by simp)]

theorem impl_FieldOk_at (x : Int) (s : ByteArray) (hs : s.size ≤ 140737488351232) (k : Nat) (hk : s.size + 22 < k) : impl_FieldOk.f k x s = some (fieldOk x (bytesOf s)) := by
  unfold impl_FieldOk.f fieldOk
  obtain ⟨y, hy⟩ := rowOf_at x k (by omega)
  rw [hy, Option.bind_some]
  simp only
  obtain ⟨r0, r1⟩ := kind_range x
  have hl := bytesOf_length s
  rw [hl]
  generalize kindOf x = t at r0 r1
  have hin : impl_within.f (s.size : Int) 1 (sizeOf_ x) = some (decide (1 ≤ (s.size : Int) ∧ (s.size : Int) ≤ sizeOf_ x)) := by
    unfold impl_within.f
    by_cases h : 1 ≤ (s.size : Int)
    · rw [if_pos h]; simp only [h, true_and]
    · rw [if_neg h]; simp only [h, false_and, decide_false]
  by_cases h1 : t = 1
  · rw [if_pos h1, if_pos h1, impl_Digits_at s hs k (by omega), Option.bind_some]
    cases digs (bytesOf s) <;> simp
  by_cases h2 : t = 2
  · rw [if_neg h1, if_neg h1, if_pos h2, if_pos h2, impl_Printable_at s hs k (by omega), Option.bind_some]
    cases (bytesOf s).all isPri <;> simp
  by_cases h3 : t = 3
  · rw [if_neg h1, if_neg h1, if_neg h2, if_neg h2, if_pos h3, if_pos h3, impl_Digits_at s hs k (by omega), Option.bind_some, hin]
    by_cases hg : digs (bytesOf s) = true
    · have := (digs_and _ hg).2
      rw [hl] at this
      have h' : 1 ≤ (s.size : Int) := by omega
      rw [if_pos hg, hg]
      simp only [h', true_and, Option.bind_some, Bool.true_and]
    · rw [if_neg hg]
      simp [hg]
  rw [if_neg h1, if_neg h1, if_neg h2, if_neg h2, if_neg h3, if_neg h3]
  obtain ⟨k, rfl⟩ : ∃ m, k = m + 1 := ⟨k - 1, by omega⟩
  have hp := impl_Printable_at s hs k (by omega)
  by_cases h4 : t = 4 ∨ t = 5
  · rw [if_pos h4]
    have e : (if t = 4 then impl_FieldOk.j0 (k + 1) s (t == 4) y t (sizeOf_ x) else impl_FieldOk.j0 (k + 1) s (t == 5) y t (sizeOf_ x)) = impl_FieldOk.j0 (k + 1) s true y t (sizeOf_ x) := by
      rcases h4 with h | h
      · rw [if_pos h, h]; rfl
      · rw [if_neg (by omega), h]; rfl
    rw [e, impl_FieldOk.j0, if_pos rfl, hp, Option.bind_some, hin]
    cases (bytesOf s).all isPri <;> simp
  · rw [if_neg h4]
    have e : (if t = 4 then impl_FieldOk.j0 (k + 1) s (t == 4) y t (sizeOf_ x) else impl_FieldOk.j0 (k + 1) s (t == 5) y t (sizeOf_ x)) = impl_FieldOk.j0 (k + 1) s false y t (sizeOf_ x) := by
      have h5 : ¬ t = 5 := fun h => h4 (Or.inr h)
      rw [if_neg (fun h => h4 (Or.inl h)), show (t == 5) = false from by simpa using h5]
    rw [e, impl_FieldOk.j0, if_neg (by simp)]
end Go.Proofs.Ytnhejdelcopphaa.Q
