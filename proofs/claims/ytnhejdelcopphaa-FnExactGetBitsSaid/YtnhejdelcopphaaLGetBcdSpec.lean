/- Lemmas on what the printed functions compute (getBcdSpec); no condition. -/
import Derived.Test.YtnhejdelcopphaaLUbcd
import Derived.Test.YtnhejdelcopphaaQx3
import Derived.Test.YtnhejdelcopphaaQx0
namespace Go.Proofs.Ytnhejdelcopphaa.Q
open Go.RowKit Go.Proofs.YtnhejdelcopphaaW.PrintWords Go.Proofs.YtnhejdelcopphaaW.PrintLast Go.Proofs.YtnhejdelcopphaaW.PrintMore
set_option linter.unusedVariables false
set_option linter.unusedSimpArgs false

theorem getBcd_val (l : List Int) (a n m : Nat) (hm : m = (n + 1) / 2) (h1 : 1 ≤ n) (h2 : n ≤ 38) (h3 : a + m ≤ l.length) :
    getBcd l (a : Int) (n : Int) = if isBcd n (ubcd (cutAt l a m)) = true then ((ubcd (cutAt l a m)).drop (n % 2), (a : Int) + (m : Int), true) else ([], 0, false) := by
  have e0 : ((n : Int) + 1) / 2 = (m : Int) := by omega
  have e1 : inAt l (a : Int) (n : Int) = true := by
    unfold inAt
    rw [e0]
    exact decide_eq_true (by omega)
  have e2 : (n : Int).toNat = n := by omega
  have e3 : (a : Int).toNat = a := by omega
  have e4 : (m : Int).toNat = m := by omega
  unfold getBcd
  rw [e1, e0, e2, e3, e4, Bool.true_and]

theorem spec_GetBcd_l (l : List Int) (hl : l.length ≤ 140737488351232) (hb : ∀ c ∈ l, isByte c) (a n m : Nat) (hm : m = (n + 1) / 2) (h1 : 1 ≤ n) (h2 : n ≤ 38) (h3 : a + m ≤ l.length) : ∀ (d i k : Nat), i + d = m → d + 50 < k →
    spec_GetBcd.l0 k l (a : Int) (n : Int) (strOfNums (ubcd (cutAt l a i))) ((a + i : Nat) : Int) = some (asStr (getBcd l (a : Int) (n : Int))) := by
  have e2 : True → wrap64 (Int.tdiv (wrap64 ((n : Int) + 1)) 2) = (m : Int) := by
    intro _
    have q : wrap64 ((n : Int) + 1) = ((n + 1 : Nat) : Int) := by unfold wrap64; omega
    rw [q, Int.tdiv_eq_ediv_of_nonneg (by omega)]
    unfold wrap64
    omega
  have e3 : True → wrap64 ((a : Int) + (m : Int)) = ((a + m : Nat) : Int) := by intro _; unfold wrap64; omega
  intro d
  induction d with
  | zero =>
    intro i k hd hk
    obtain ⟨k, rfl⟩ : ∃ m, k = m + 1 := ⟨k - 1, by omega⟩
    have hi : i = m := by omega
    subst hi
    have c1 : ¬ ((a + i : Nat) : Int) < ((a + i : Nat) : Int) := by omega
    have hr : ∀ c ∈ ubcd (cutAt l a i), isByte c := ubcd_range _ (fun c hc => hb c (cutAt_mem l a i c hc))
    have hz : (ubcd (cutAt l a i)).length = 2 * i := by rw [ubcd_length, cutAt_length l a i h3]
    rw [getBcd_val l a n i hm h1 h2 h3]
    simp only [spec_GetBcd.l0, e2 trivial, e3 trivial, if_neg c1]
    generalize ubcd (cutAt l a i) = u at hr hz
    have hbs : bytesOf (strOfNums u) = u := bytesOf_strOfNums u hr
    have hsz : (strOfNums u).size = u.length := by rw [size_eq, hbs]
    have eend : ((a + i : Nat) : Int) = (a : Int) + (i : Int) := by omega
    by_cases ho : n % 2 = 1
    · have c2 : Int.tmod (n : Int) 2 = 1 := by rw [Int.tmod_eq_emod_of_nonneg (by omega)]; omega
      have c3 : 0 < ((strOfNums u).size : Int) := by omega
      have c4 : 1 ≤ ((strOfNums u).size : Int) := by omega
      rw [if_pos c2, if_pos c3, if_pos c4, bt_eq, hbs]
      unfold isBcd
      rw [if_pos ho, ho]
      by_cases h48 : rd u 0 = 48
      · have e5 : bytesOf ((strOfNums u).extract 1 (strOfNums u).size) = u.drop 1 := by
          rw [bytesOf_extract, hbs, hsz, List.take_length]
        have e6 : (strOfNums u).extract 1 (strOfNums u).size = strOfNums (u.drop 1) := by
          rw [← e5, strOfNums_bytesOf]
        have e7 : ((strOfNums u).extract 1 (strOfNums u).size).size ≤ 40 := by
          rw [size_eq, e5, List.length_drop]; omega
        rw [if_pos h48, spec_Digits_at _ (by omega) k (by omega), Option.bind_some, e5, e6]
        have h48' : decide (rd u 0 = 48) = true := decide_eq_true h48
        rw [h48', Bool.true_and]
        by_cases hg : digs (u.drop 1) = true
        · rw [if_pos hg, if_pos hg, eend]; rfl
        · rw [if_neg hg, if_neg hg, asStr_none]
      · have h48' : decide (rd u 0 = 48) = false := decide_eq_false h48
        rw [if_neg h48, h48', Bool.false_and, if_neg (by simp), asStr_none]
    · have c2 : ¬ Int.tmod (n : Int) 2 = 1 := by rw [Int.tmod_eq_emod_of_nonneg (by omega)]; omega
      have ho' : n % 2 = 0 := by omega
      rw [if_neg c2, spec_Digits_at _ (by omega) k (by omega), Option.bind_some, hbs]
      unfold isBcd
      rw [if_neg ho, ho']
      by_cases hg : digs u = true
      · rw [if_pos hg, if_pos hg, eend]; rfl
      · rw [if_neg hg, if_neg hg, asStr_none]
  | succ d ih =>
    intro i k hd hk
    obtain ⟨k, rfl⟩ : ∃ m, k = m + 1 := ⟨k - 1, by omega⟩
    have c1 : ((a + i : Nat) : Int) < ((a + m : Nat) : Int) := by omega
    have c2 : 0 ≤ ((a + i : Nat) : Int) := by omega
    have c3 : ((a + i : Nat) : Int) < (l.length : Int) := by omega
    have e4 : wrap64 (((a + i : Nat) : Int) + 1) = ((a + (i + 1) : Nat) : Int) := by unfold wrap64; omega
    have h4 : a + i < l.length := by omega
    have hs : strOfNums (ubcd (cutAt l a (i + 1))) = strOfNums (ubcd (cutAt l a i)) ++ strOfNums (ubcd [rd l ((a + i : Nat) : Int)]) := by
      rw [cutAt_succ l a i h4, ubcd_append, strOfNums_append]
    have ih' := ih (i + 1) k (by omega) (by omega)
    rw [hs] at ih'
    clear hs ih
    obtain ⟨b0, b1⟩ := hb _ (rd_mem l (a + i) (by omega))
    have hz : (strOfNums (ubcd (cutAt l a i))).size = 2 * i := by rw [strOfNums_size, ubcd_length, cutAt_length l a i (by omega)]
    simp only [spec_GetBcd.l0, e2 trivial, e3 trivial, e4, if_pos c1, if_pos c2, if_pos c3, Option.bind_some]
    generalize rd l ((a + i : Nat) : Int) = b at b0 b1 ih'
    have q1 : wrap64 b = b := by unfold wrap64; omega
    have q2 : Int.tdiv b 16 = b / 16 := Int.tdiv_eq_ediv_of_nonneg (by omega)
    have q3 : Int.tmod b 16 = b % 16 := Int.tmod_eq_emod_of_nonneg (by omega)
    have q4 : wrap64 (48 + wrap64 (b / 16)) % 256 = 48 + b / 16 := by unfold wrap64; omega
    have q5 : wrap64 (48 + b % 16) % 256 = 48 + b % 16 := by unfold wrap64; omega
    rw [q1, q2, q3, q4, q5]
    have q6 : (strOfNums (ubcd (cutAt l a i))).size + (strOfNums [48 + b / 16, 48 + b % 16]).size ≤ 9223372036854775807 := by
      rw [hz, strOfNums_size]
      simp
      omega
    rw [if_pos q6]
    exact ih'

theorem spec_GetBcd_at (l : List Int) (hl : l.length ≤ 140737488351232) (hb : ∀ c ∈ l, isByte c) (a1 n : Int) (w1 : -9223372036854775808 ≤ a1 ∧ a1 ≤ 9223372036854775807) (w2 : -9223372036854775808 ≤ n ∧ n ≤ 9223372036854775807) (k : Nat) (hk : 100 < k) :
    spec_GetBcd.f k l a1 n = some (asStr (getBcd l a1 n)) := by
  obtain ⟨k, rfl⟩ : ∃ m, k = m + 1 := ⟨k - 1, by omega⟩
  have hno : inAt l a1 n = false → spec_GetBcd.j0 (k + 1) l a1 n true = some (asStr (getBcd l a1 n)) := by
    intro h
    unfold getBcd
    rw [h, Bool.false_and, if_neg (by simp), asStr_none, spec_GetBcd.j0, if_pos rfl]
  unfold spec_GetBcd.f
  by_cases h1 : n < 1
  · rw [if_pos h1]; exact hno (decide_eq_false (by omega))
  by_cases h2 : n > 38
  · rw [if_neg h1, if_pos h2]; exact hno (decide_eq_false (by omega))
  by_cases h3 : a1 < 0
  · rw [if_neg h1, if_neg h2, if_pos h3]; exact hno (decide_eq_false (by omega))
  by_cases h4 : a1 > (l.length : Int)
  · rw [if_neg h1, if_neg h2, if_neg h3, if_pos h4]; exact hno (decide_eq_false (by omega))
  rw [if_neg h1, if_neg h2, if_neg h3, if_neg h4]
  have e0 : wrap64 (n + 1) = n + 1 := by unfold wrap64; omega
  have e1 : Int.tdiv (n + 1) 2 = (n + 1) / 2 := Int.tdiv_eq_ediv_of_nonneg (by omega)
  have e2 : wrap64 ((n + 1) / 2) = (n + 1) / 2 := by unfold wrap64; omega
  have e3 : wrap64 ((l.length : Int) - a1) = (l.length : Int) - a1 := by unfold wrap64; omega
  rw [e0, e1, e2, e3]
  by_cases h5 : (n + 1) / 2 > (l.length : Int) - a1
  · rw [decide_eq_true h5]; exact hno (decide_eq_false (by omega))
  rw [decide_eq_false h5, spec_GetBcd.j0, if_neg (by simp)]
  have h := spec_GetBcd_l l hl hb a1.toNat n.toNat ((n.toNat + 1) / 2) rfl (by omega) (by omega) (by omega) ((n.toNat + 1) / 2) 0 k (by omega) (by omega)
  have ea : ((a1.toNat : Nat) : Int) = a1 := by omega
  have en : ((n.toNat : Nat) : Int) = n := by omega
  have ez : cutAt l a1.toNat 0 = [] := rfl
  rw [ez, Nat.add_zero, ea, en] at h
  have eu : ubcd [] = [] := rfl
  rw [eu, strOfNums_nil] at h
  exact h
end Go.Proofs.Ytnhejdelcopphaa.Q
