/- Lemmas on what the printed functions compute (getBits); no condition. -/
import Derived.Test.YtnhejdelcopphaaLUbcd
import Derived.Test.YtnhejdelcopphaaLGetBcdImpl
import Derived.Test.YtnhejdelcopphaaQx10
import Derived.Test.YtnhejdelcopphaaQx9
import Derived.Test.YtnhejdelcopphaaQx0
namespace Go.Proofs.Ytnhejdelcopphaa.Q
open Go.RowKit Go.Proofs.YtnhejdelcopphaaW.PrintWords Go.Proofs.YtnhejdelcopphaaW.PrintLast Go.Proofs.YtnhejdelcopphaaW.PrintMore
set_option linter.unusedVariables false
set_option linter.unusedSimpArgs false

def bitOn (b : Int) (j : Nat) : Bool := decide ((b / 2 ^ (7 - j)) % 2 = 1)

theorem bit_spec (b : Int) (j : Nat) (h0 : 0 ≤ b) (h1 : b ≤ 255) (h2 : j < 8) : (Int.tmod (shr .i64 b (7 - (j : Int))) 2 = 1) ↔ bitOn b j = true := by
  have h : ∀ (j : Fin 8) (b : Fin 256), decide (Int.tmod (shr .i64 ((b.val : Nat) : Int) (7 - ((j.val : Nat) : Int))) 2 = 1) = bitOn ((b.val : Nat) : Int) j.val := by decide +kernel
  have := h ⟨j, h2⟩ ⟨b.toNat, by omega⟩
  have e : ((b.toNat : Nat) : Int) = b := by omega
  simp only [e] at this
  rw [← this]
  simp

theorem bit_impl (b : Int) (j : Nat) (h0 : 0 ≤ b) (h1 : b ≤ 255) (h2 : j < 8) : (Go.bits .and .u8 b (shr .u8 128 (j : Int)) = 0) ↔ bitOn b j = false := by
  have h : ∀ (j : Fin 8) (b : Fin 256), decide (Go.bits .and .u8 ((b.val : Nat) : Int) (shr .u8 128 ((j.val : Nat) : Int)) = 0) = !bitOn ((b.val : Nat) : Int) j.val := by decide +kernel
  have := h ⟨j, h2⟩ ⟨b.toNat, by omega⟩
  have e : ((b.toNat : Nat) : Int) = b := by omega
  simp only [e] at this
  constructor
  · intro q
    rw [decide_eq_true q] at this
    simpa using this.symm
  · intro q
    rw [q] at this
    simpa using this

/-- The numbers of the bits that are set, of the first m. -/
def bitsOf (l : List Int) (m : Nat) : List Int := ((List.range m).filter fun i => bitOn (rd l ((i / 8 : Nat) : Int)) (i % 8)).map fun i => ((i + 1 : Nat) : Int)

theorem bitsOf_succ (l : List Int) (m : Nat) : bitsOf l (m + 1) = bitsOf l m ++ (if bitOn (rd l ((m / 8 : Nat) : Int)) (m % 8) = true then [((m + 1 : Nat) : Int)] else []) := by
  unfold bitsOf
  rw [List.range_succ, List.filter_append, List.map_append]
  congr 1
  by_cases h : bitOn (rd l ((m / 8 : Nat) : Int)) (m % 8) = true
  · rw [if_pos h]; simp only [List.filter, h, List.map]
  · have h' : bitOn (rd l ((m / 8 : Nat) : Int)) (m % 8) = false := by simpa using h
    rw [if_neg h]; simp only [List.filter, h', List.map]

theorem bitsOf_length (l : List Int) (m : Nat) : (bitsOf l m).length ≤ m := by
  unfold bitsOf
  rw [List.length_map]
  have := List.length_filter_le (fun i => bitOn (rd l ((i / 8 : Nat) : Int)) (i % 8)) (List.range m)
  simpa using this

theorem rd_cutAt (l : List Int) (a m n : Nat) (h : n < m) (h2 : a + m ≤ l.length) : rd (cutAt l a m) (n : Int) = rd l ((a + n : Nat) : Int) := by
  rw [rd_nat _ _ (by rw [cutAt_length l a m h2]; exact h), rd_nat _ _ (by omega)]
  unfold cutAt
  simp

def getBits (l : List Int) (a1 : Int) : List Int × Int × Bool :=
  if 0 ≤ a1 ∧ a1 ≤ (l.length : Int) - 8 then (bitsOf (cutAt l a1.toNat 8) 64, a1 + 8, true) else ([], 0, false)

theorem spec_GetBits_l (l : List Int) (hl : l.length ≤ 140737488351232) (hb : ∀ c ∈ l, isByte c) (a : Nat) (h3 : a + 8 ≤ l.length) : ∀ (d i k : Nat), i + d = 64 → d < k →
    spec_GetBits.l0 k l (a : Int) (bitsOf (cutAt l a 8) i) ((i + 1 : Nat) : Int) = some (bitsOf (cutAt l a 8) 64, (a : Int) + 8, true) := by
  intro d
  induction d with
  | zero =>
    intro i k hd hk
    obtain ⟨k, rfl⟩ : ∃ m, k = m + 1 := ⟨k - 1, by omega⟩
    have hi : i = 64 := by omega
    subst hi
    have e : wrap64 ((a : Int) + 8) = (a : Int) + 8 := by unfold wrap64; omega
    simp only [spec_GetBits.l0, e]
    rfl
  | succ d ih =>
    intro i k hd hk
    obtain ⟨k, rfl⟩ : ∃ m, k = m + 1 := ⟨k - 1, by omega⟩
    have ih' := ih (i + 1) k (by omega) (by omega)
    have hz := bitsOf_length (cutAt l a 8) i
    have c0 : ((i + 1 : Nat) : Int) ≤ 64 := by omega
    have c1 : 0 ≤ ((a + i / 8 : Nat) : Int) := by omega
    have c2 : ((a + i / 8 : Nat) : Int) < (l.length : Int) := by omega
    have c3 : 0 ≤ (7 : Int) - ((i % 8 : Nat) : Int) := by omega
    have c4 : (bitsOf (cutAt l a 8) i).length < 17592186044416 := by omega
    obtain ⟨b0, b1⟩ := hb _ (rd_mem l (a + i / 8) (by omega))
    rw [bitsOf_succ, rd_cutAt l a 8 (i / 8) (by omega) h3] at ih'
    have hbit := Aside0.mk (bit_spec (rd l ((a + i / 8 : Nat) : Int)) (i % 8) b0 b1 (by omega))
    have q7 : True → wrap64 (rd l ((a + i / 8 : Nat) : Int)) = rd l ((a + i / 8 : Nat) : Int) := fun _ => w64id (by omega) (by omega)
    have e1 : True → wrap64 (((i + 1 : Nat) : Int) - 1) = ((i : Nat) : Int) := by intro _; unfold wrap64; omega
    have e2 : True → Int.tdiv (i : Int) 8 = ((i / 8 : Nat) : Int) := by intro _; rw [Int.tdiv_eq_ediv_of_nonneg (by omega)]; omega
    have e3 : True → Int.tmod (i : Int) 8 = ((i % 8 : Nat) : Int) := by intro _; rw [Int.tmod_eq_emod_of_nonneg (by omega)]; omega
    have e4 : True → wrap64 ((i / 8 : Nat) : Int) = ((i / 8 : Nat) : Int) := fun _ => w64id (by omega) (by omega)
    have e5 : True → wrap64 ((a : Int) + ((i / 8 : Nat) : Int)) = ((a + i / 8 : Nat) : Int) := by intro _; rw [w64id (by omega) (by omega)]; omega
    have e6 : True → wrap64 (7 - ((i % 8 : Nat) : Int)) = 7 - ((i % 8 : Nat) : Int) := fun _ => w64id (by omega) (by omega)
    have e7 : True → wrap64 (((i + 1 : Nat) : Int) + 1) = ((i + 1 + 1 : Nat) : Int) := by intro _; rw [w64id (by omega) (by omega)]; omega
    simp only [spec_GetBits.l0, if_pos c0, e1 trivial, e2 trivial, e3 trivial, e4 trivial, e5 trivial, e6 trivial, e7 trivial, if_pos c1, if_pos c2, if_pos c3, if_pos c4, q7 trivial]
    generalize rd l ((a + i / 8 : Nat) : Int) = b at hbit ih'
    by_cases h : bitOn b (i % 8) = true
    · rw [if_pos (hbit.out.2 h)]
      rw [if_pos h] at ih'
      exact ih'
    · rw [if_neg (fun q => h (hbit.out.1 q))]
      rw [if_neg h, List.append_nil] at ih'
      exact ih'

theorem impl_GetBits_l (l : List Int) (h3 : l.length = 8) (hb : ∀ c ∈ l, isByte c) (a1 : Int) (ha : 0 ≤ a1) (ha2 : a1 ≤ 140737488351232) : ∀ (d i k : Nat), i + d = 64 → d < k →
    impl_GetBits.l0 k a1 l (bitsOf l i) ((i + 1 : Nat) : Int) = some (bitsOf l 64, a1 + 8, true) := by
  intro d
  induction d with
  | zero =>
    intro i k hd hk
    obtain ⟨k, rfl⟩ : ∃ m, k = m + 1 := ⟨k - 1, by omega⟩
    have hi : i = 64 := by omega
    subst hi
    have e : wrap64 (a1 + 8) = a1 + 8 := by unfold wrap64; omega
    simp only [impl_GetBits.l0, e]
    rfl
  | succ d ih =>
    intro i k hd hk
    obtain ⟨k, rfl⟩ : ∃ m, k = m + 1 := ⟨k - 1, by omega⟩
    have ih' := ih (i + 1) k (by omega) (by omega)
    have hz := bitsOf_length l i
    have c0 : ((i + 1 : Nat) : Int) ≤ 64 := by omega
    have c1 : 0 ≤ ((i / 8 : Nat) : Int) := by omega
    have c2 : ((i / 8 : Nat) : Int) < (l.length : Int) := by omega
    have c3 : 0 ≤ ((i % 8 : Nat) : Int) := by omega
    have c4 : (bitsOf l i).length < 17592186044416 := by omega
    obtain ⟨b0, b1⟩ := hb _ (rd_mem l (i / 8) (by omega))
    rw [bitsOf_succ] at ih'
    have hbit := Aside0.mk (bit_impl (rd l ((i / 8 : Nat) : Int)) (i % 8) b0 b1 (by omega))
    have e1 : True → wrap64 (((i + 1 : Nat) : Int) - 1) = ((i : Nat) : Int) := by intro _; unfold wrap64; omega
    have e2 : True → Int.tdiv (i : Int) 8 = ((i / 8 : Nat) : Int) := by intro _; rw [Int.tdiv_eq_ediv_of_nonneg (by omega)]; omega
    have e3 : True → Int.tmod (i : Int) 8 = ((i % 8 : Nat) : Int) := by intro _; rw [Int.tmod_eq_emod_of_nonneg (by omega)]; omega
    have e4 : True → wrap64 ((i / 8 : Nat) : Int) = ((i / 8 : Nat) : Int) := fun _ => w64id (by omega) (by omega)
    have e7 : True → wrap64 (((i + 1 : Nat) : Int) + 1) = ((i + 1 + 1 : Nat) : Int) := by intro _; rw [w64id (by omega) (by omega)]; omega
    simp only [impl_GetBits.l0, if_pos c0, e1 trivial, e2 trivial, e3 trivial, e4 trivial, e7 trivial, if_pos c1, if_pos c2, if_pos c3, if_pos c4]
    generalize rd l ((i / 8 : Nat) : Int) = b at hbit ih'
    by_cases h : bitOn b (i % 8) = true
    · rw [if_neg (fun q => by rw [hbit.out.1 q] at h; exact Bool.false_ne_true h)]
      rw [if_pos h] at ih'
      exact ih'
    · rw [if_pos (hbit.out.2 (by simpa using h))]
      rw [if_neg h, List.append_nil] at ih'
      exact ih'

theorem spec_GetBits_at (l : List Int) (hl : l.length ≤ 140737488351232) (hb : ∀ c ∈ l, isByte c) (a1 : Int) (w1 : -9223372036854775808 ≤ a1 ∧ a1 ≤ 9223372036854775807) (k : Nat) (hk : 100 < k) :
    spec_GetBits.f k l a1 = some (getBits l a1) := by
  obtain ⟨k, rfl⟩ : ∃ m, k = m + 1 := ⟨k - 1, by omega⟩
  unfold spec_GetBits.f getBits
  have e0 : wrap64 ((l.length : Int) - 8) = (l.length : Int) - 8 := by unfold wrap64; omega
  rw [e0]
  by_cases h1 : a1 < 0
  · rw [if_pos h1, if_neg (by omega), spec_GetBits.j0, if_pos rfl]
  rw [if_neg h1]
  by_cases h2 : a1 > (l.length : Int) - 8
  · rw [decide_eq_true h2, spec_GetBits.j0, if_pos rfl, if_neg (by omega)]
  rw [decide_eq_false h2, spec_GetBits.j0, if_neg (by simp), if_pos (by omega)]
  have h := spec_GetBits_l l hl hb a1.toNat (by omega) 64 0 k (by omega) (by omega)
  have ea : ((a1.toNat : Nat) : Int) = a1 := by omega
  rw [ea] at h
  exact h

theorem impl_GetBits_at (l : List Int) (hl : l.length ≤ 140737488351232) (hb : ∀ c ∈ l, isByte c) (a1 : Int) (w1 : -9223372036854775808 ≤ a1 ∧ a1 ≤ 9223372036854775807) (k : Nat) (hk : 100 < k) :
    impl_GetBits.f k l a1 = some (getBits l a1) := by
  unfold impl_GetBits.f getBits
  rw [impl_piece_at]
  by_cases h2 : 0 ≤ a1 ∧ a1 ≤ (l.length : Int) - 8
  · rw [if_pos (by omega), if_pos h2, Option.bind_some, if_pos rfl]
    exact impl_GetBits_l (cutAt l a1.toNat 8) (cutAt_length _ _ _ (by omega)) (fun c hc => hb c (cutAt_mem _ _ _ c hc)) a1 h2.1 (by omega) 64 0 k (by omega) (by omega)
  · rw [if_neg (by omega), if_neg h2, Option.bind_some, if_neg (by simp)]
end Go.Proofs.Ytnhejdelcopphaa.Q
