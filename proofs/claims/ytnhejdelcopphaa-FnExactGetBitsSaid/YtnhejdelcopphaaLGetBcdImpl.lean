/- Lemmas on what the printed functions compute (getBcdImpl); no condition. -/
import Derived.Test.YtnhejdelcopphaaLGetBcdSpec
import Derived.Test.YtnhejdelcopphaaQx6
import Derived.Test.YtnhejdelcopphaaExtPiece
import Derived.Test.YtnhejdelcopphaaQx4
import Derived.Test.YtnhejdelcopphaaQx0
namespace Go.Proofs.Ytnhejdelcopphaa.Q
open Go.RowKit Go.Proofs.YtnhejdelcopphaaW.PrintWords Go.Proofs.YtnhejdelcopphaaW.PrintLast Go.Proofs.YtnhejdelcopphaaW.PrintMore
set_option linter.unusedVariables false
set_option linter.unusedSimpArgs false

theorem impl_piece_at (l : List Int) (a1 m : Int) : impl_piece.f l a1 m = if 0 ≤ a1 ∧ a1 ≤ (l.length : Int) ∧ 0 ≤ m ∧ m ≤ (l.length : Int) - a1 then some (cutAt l a1.toNat m.toNat, true) else some ([], false) := by
  unfold impl_piece.f
  by_cases h : 0 ≤ a1 ∧ a1 ≤ (l.length : Int) ∧ 0 ≤ m ∧ m ≤ (l.length : Int) - a1
  · rw [if_pos h, if_pos h]
    have e : (a1 + m).toNat = a1.toNat + m.toNat := by omega
    rw [e, cutAt_take]
  · rw [if_neg h, if_neg h]

theorem impl_GetBcd_l (l : List Int) (hb : ∀ c ∈ l, isByte c) (hl : l.length ≤ 40) (a1 n : Int) (ok : Bool) (z : List Int) : ∀ (d i k : Nat), i + d = l.length → d < k → ∃ j, k = j + d + 1 ∧ 
    impl_GetBcd.l0 k a1 n z ok (ubcd (l.take i)) l (l.length : Int) (i : Int) = impl_GetBcd.l0 (j + 1) a1 n z ok (ubcd l) l (l.length : Int) (l.length : Int) := by
  intro d
  induction d with
  | zero =>
    intro i k hd hk
    refine ⟨k - 1, by omega, ?_⟩
    have hi : i = l.length := by omega
    subst hi
    have hk' : k - 1 + 1 = k := by omega
    rw [List.take_length, hk']
  | succ d ih =>
    intro i k hd hk
    obtain ⟨k, rfl⟩ : ∃ m, k = m + 1 := ⟨k - 1, by omega⟩
    obtain ⟨j, hj, ih'⟩ := ih (i + 1) k (by omega) (by omega)
    refine ⟨j, by omega, ?_⟩
    rw [← ih', take_rd l i (by omega), ubcd_append]
    have c1 : (i : Int) < (l.length : Int) := by omega
    have c2 : 0 ≤ (i : Int) := by omega
    have e4 : wrap64 ((i : Int) + 1) = ((i + 1 : Nat) : Int) := by unfold wrap64; omega
    obtain ⟨b0, b1⟩ := hb _ (rd_mem l i (by omega))
    have hz : (ubcd (l.take i)).length ≤ 80 := by rw [ubcd_length, List.length_take]; omega
    rw [impl_GetBcd.l0]
    simp only [e4, if_pos c1, if_pos c2, Option.bind_some]
    generalize rd l (i : Int) = b at b0 b1
    have q2 : Go.bits .and .u8 b 15 = b % 16 := u8_and15 b b0 (by omega)
    have q4 : (48 + b / 16) % 256 = 48 + b / 16 := by omega
    have q5 : (48 + b % 16) % 256 = 48 + b % 16 := by omega
    rw [q2, q4, q5]
    have q6 : (ubcd (l.take i)).length + [48 + b / 16, 48 + b % 16].length < 140737488355328 := by
      simp
      omega
    rw [if_pos q6]
    rfl

theorem impl_GetBcd_e (u : List Int) (hr : ∀ c ∈ u, isByte c) (a1 : Int) (n m : Nat) (z v : List Int) (hm : m = (n + 1) / 2) (h1 : 1 ≤ n) (h2 : n ≤ 38) (hz : z.length = m) (hu : u.length = 2 * m) (ha : 0 ≤ a1) (hb : a1 ≤ 140737488351232) (k : Nat) (hk : 50 < k) :
    impl_GetBcd.l0 (k + 1) a1 (n : Int) z true u v (v.length : Int) (v.length : Int) = some (asStr (if isBcd n u = true then (u.drop (n % 2), a1 + (m : Int), true) else ([], 0, false))) := by
  have c1 : ¬ (v.length : Int) < (v.length : Int) := by omega
  have hbs : bytesOf (strOfNums u) = u := bytesOf_strOfNums u hr
  have hsz : (strOfNums u).size = u.length := by rw [size_eq, hbs]
  simp only [impl_GetBcd.l0, if_neg c1, if_true]
  rw [impl_Digits_at _ (by omega) k (by omega), hbs, Option.bind_some, ubcd_digs n m u hm h1 hu]
  by_cases hg : digs u = true
  · have e1 : wrap64 ((u.length : Int) - (n : Int)) = ((n % 2 : Nat) : Int) := by unfold wrap64; omega
    have e2 : wrap64 (a1 + (z.length : Int)) = a1 + (m : Int) := by unfold wrap64; omega
    have e3 : (((n % 2 : Nat) : Int)).toNat = n % 2 := by omega
    have c2 : 0 ≤ ((n % 2 : Nat) : Int) := by omega
    have c3 : ((n % 2 : Nat) : Int) ≤ (u.length : Int) := by omega
    rw [if_pos hg, e1, e2, if_pos c2, if_pos c3, hg, Bool.true_and, e3]
    by_cases ho : n % 2 = 1
    · have c2 : Int.tmod (n : Int) 2 = 1 := by rw [Int.tmod_eq_emod_of_nonneg (by omega)]; omega
      have c3 : 0 < (u.length : Int) := by omega
      have h0 : decide (n % 2 = 0) = false := decide_eq_false (by omega)
      rw [if_pos c2, if_pos c3, h0, Bool.false_or]
      by_cases h48 : rd u 0 = 48
      · rw [if_pos h48, if_pos (decide_eq_true h48)]; rfl
      · rw [if_neg h48, if_neg (by simp [h48]), asStr_none]
    · have c2 : ¬ Int.tmod (n : Int) 2 = 1 := by rw [Int.tmod_eq_emod_of_nonneg (by omega)]; omega
      have h0 : decide (n % 2 = 0) = true := decide_eq_true (by omega)
      rw [if_neg c2, h0, Bool.true_or, if_pos rfl]; rfl
  · rw [if_neg hg]
    have : digs u = false := by simpa using hg
    rw [this, Bool.false_and, if_neg (by simp), asStr_none]

theorem impl_within_at (a b c : Int) : impl_within.f a b c = some (decide (b ≤ a ∧ a ≤ c)) := by
  unfold impl_within.f
  by_cases h : b ≤ a
  · rw [if_pos h]; simp [h]
  · rw [if_neg h]; simp [h]

theorem impl_GetBcd_at (l : List Int) (hl : l.length ≤ 140737488351232) (hb : ∀ c ∈ l, isByte c) (a1 n : Int) (w1 : -9223372036854775808 ≤ a1 ∧ a1 ≤ 9223372036854775807) (w2 : -9223372036854775808 ≤ n ∧ n ≤ 9223372036854775807) (k : Nat) (hk : 200 < k) :
    impl_GetBcd.f k l a1 n = some (asStr (getBcd l a1 n)) := by
  unfold impl_GetBcd.f
  rw [impl_within_at, Option.bind_some]
  by_cases h1 : 1 ≤ n ∧ n ≤ 38
  · rw [if_pos (decide_eq_true h1)]
    have e0 : wrap64 (n + 1) = n + 1 := by unfold wrap64; omega
    have e1 : Int.tdiv (n + 1) 2 = (n + 1) / 2 := Int.tdiv_eq_ediv_of_nonneg (by omega)
    have e2 : wrap64 ((n + 1) / 2) = (n + 1) / 2 := by unfold wrap64; omega
    rw [e0, e1, e2, impl_piece_at]
    by_cases h2 : 0 ≤ a1 ∧ a1 ≤ (l.length : Int) ∧ 0 ≤ (n + 1) / 2 ∧ (n + 1) / 2 ≤ (l.length : Int) - a1
    · rw [if_pos h2, Option.bind_some]
      have hz : (cutAt l a1.toNat ((n + 1) / 2).toNat).length = ((n + 1) / 2).toNat := cutAt_length _ _ _ (by omega)
      have hb' : ∀ c ∈ cutAt l a1.toNat ((n + 1) / 2).toNat, isByte c := fun c hc => hb c (cutAt_mem _ _ _ c hc)
      obtain ⟨j, hj, h⟩ := impl_GetBcd_l (cutAt l a1.toNat ((n + 1) / 2).toNat) hb' (by omega) a1 n true (cutAt l a1.toNat ((n + 1) / 2).toNat) (cutAt l a1.toNat ((n + 1) / 2).toNat).length 0 k (by omega) (by omega)
      have h' : impl_GetBcd.l0 k a1 n (cutAt l a1.toNat ((n + 1) / 2).toNat) true (([] : List Int)) (cutAt l a1.toNat ((n + 1) / 2).toNat) ((cutAt l a1.toNat ((n + 1) / 2).toNat).length : Int) 0 = _ := h
      simp only
      rw [h']
      have en : ((n.toNat : Nat) : Int) = n := by omega
      have h5 := impl_GetBcd_e (ubcd (cutAt l a1.toNat ((n + 1) / 2).toNat)) (ubcd_range _ hb') a1 n.toNat ((n + 1) / 2).toNat (cutAt l a1.toNat ((n + 1) / 2).toNat) (cutAt l a1.toNat ((n + 1) / 2).toNat) (by omega) (by omega) (by omega) hz (by rw [ubcd_length, hz]) h2.1 (by omega) j (by omega)
      rw [en] at h5
      rw [h5]
      unfold getBcd
      have e3 : inAt l a1 n = true := decide_eq_true (by omega)
      have e4 : ((((n + 1) / 2).toNat : Nat) : Int) = (n + 1) / 2 := by omega
      rw [e3, Bool.true_and, e4]
    · rw [if_neg h2, Option.bind_some]
      obtain ⟨k, rfl⟩ : ∃ m, k = m + 1 := ⟨k - 1, by omega⟩
      unfold getBcd
      have e3 : inAt l a1 n = false := decide_eq_false (by omega)
      rw [e3, Bool.false_and, if_neg (by simp), asStr_none]
      simp only
      rw [impl_GetBcd.l0]
      simp
  · rw [if_neg (by simpa using h1)]
    unfold getBcd
    have e3 : inAt l a1 n = false := decide_eq_false (by omega)
    rw [e3, Bool.false_and, if_neg (by simp), asStr_none]
end Go.Proofs.Ytnhejdelcopphaa.Q
