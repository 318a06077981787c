/- Lemmas on what the printed functions compute (numText); no condition. -/
import Derived.Test.YtiglmmofapcefaaDoorLStrs
import Derived.Test.YtiglmmofapcefaaDoorQx3
import Derived.Test.YtiglmmofapcefaaDoorQx2
import Derived.Test.YtiglmmofapcefaaDoorExtItoa
import Derived.Test.YtiglmmofapcefaaDoorQx0
namespace Go.Proofs.YtiglmmofapcefaaDoor.Q
open Go.RowKit Go.Proofs.YtiglmmofapcefaaDoorW.PrintWords Go.Proofs.YtiglmmofapcefaaDoorW.PrintLast Go.Proofs.YtiglmmofapcefaaDoorW.PrintMore
set_option linter.unusedVariables false
set_option linter.unusedSimpArgs false

/-- The digits of a number. -/
def decL (n : Nat) : List Int := (Lib.decDigits n).map fun b => (b.toNat : Int)

def decS (n : Nat) : ByteArray := ⟨(Lib.decDigits n).toArray⟩

theorem bytesOf_decS (n : Nat) : bytesOf (decS n) = decL n := by
  unfold bytesOf decS decL
  simp

theorem decL_small (n : Nat) (h : n < 10) : decL n = [48 + (n : Int)] := by
  unfold decL
  rw [Lib.decDigits, dif_pos h]
  simp only [List.map_cons, List.map_nil]
  congr 1
  rw [UInt8.toNat_ofNat']
  omega

theorem decL_step (n : Nat) (h : ¬ n < 10) : decL n = decL (n / 10) ++ [48 + ((n % 10 : Nat) : Int)] := by
  unfold decL
  rw [Lib.decDigits, dif_neg h, List.map_append]
  congr 1
  simp only [List.map_cons, List.map_nil]
  congr 1
  rw [UInt8.toNat_ofNat']
  omega

theorem decL_length (n : Nat) : ∀ d : Nat, n < 10 ^ (d + 1) → (decL n).length ≤ d + 1 := by
  intro d
  induction d generalizing n with
  | zero =>
    intro h
    rw [decL_small n (by simpa using h)]
    simp
  | succ d ih =>
    intro h
    by_cases q : n < 10
    · rw [decL_small n q]; simp
    · rw [decL_step n q, List.length_append]
      have := ih (n / 10) (by rw [Nat.pow_succ] at h; omega)
      simp
      omega

theorem decL_range (n : Nat) : ∀ c ∈ decL n, 48 ≤ c ∧ c ≤ 57 := by
  induction n using Nat.strongRecOn with
  | ind n ih =>
    by_cases q : n < 10
    · rw [decL_small n q]
      intro c hc
      obtain rfl := List.mem_singleton.1 hc
      omega
    · rw [decL_step n q]
      intro c hc
      rcases List.mem_append.1 hc with hc | hc
      · exact ih (n / 10) (by omega) c hc
      · obtain rfl := List.mem_singleton.1 hc
        omega

theorem spec_NumText_l : ∀ (d : Nat) (n k : Nat) (x : ByteArray), n < 10 ^ (d + 1) → n ≤ 9223372036854775807 → x.size + d ≤ 1000 → d < k →
    spec_NumText.l0 k (n : Int) x = some (decS n ++ x) := by
  intro d
  induction d with
  | zero =>
    intro n k x hn hm hx hk
    obtain ⟨k, rfl⟩ : ∃ m, k = m + 1 := ⟨k - 1, by omega⟩
    have h10 : n < 10 := by simpa using hn
    have c1 : ¬ (n : Int) > 9 := by omega
    have e : wrap64 (48 + (n : Int)) % 256 = 48 + (n : Int) := by unfold wrap64; omega
    have es : strOfNums [48 + (n : Int)] = decS n := by
      apply bytesOf_inj
      rw [bytesOf_decS, decL_small n h10, bytesOf_strOfNums]
      intro c hc
      obtain rfl := List.mem_singleton.1 hc
      unfold isByte
      omega
    have hz : (decS n).size = 1 := by rw [size_eq, bytesOf_decS, decL_small n h10]; rfl
    simp only [spec_NumText.l0, if_neg c1, Option.bind_some, e, es]
    rw [if_pos (by omega)]
  | succ d ih =>
    intro n k x hn hm hx hk
    obtain ⟨k, rfl⟩ : ∃ m, k = m + 1 := ⟨k - 1, by omega⟩
    by_cases h10 : n < 10
    · have c1 : ¬ (n : Int) > 9 := by omega
      have e : wrap64 (48 + (n : Int)) % 256 = 48 + (n : Int) := by unfold wrap64; omega
      have es : strOfNums [48 + (n : Int)] = decS n := by
        apply bytesOf_inj
        rw [bytesOf_decS, decL_small n h10, bytesOf_strOfNums]
        intro c hc
        obtain rfl := List.mem_singleton.1 hc
        unfold isByte
        omega
      have hz : (decS n).size = 1 := by rw [size_eq, bytesOf_decS, decL_small n h10]; rfl
      simp only [spec_NumText.l0, if_neg c1, Option.bind_some, e, es]
      rw [if_pos (by omega)]
    · have c1 : (n : Int) > 9 := by omega
      have e1 : True → Int.tmod (n : Int) 10 = ((n % 10 : Nat) : Int) := by intro _; rw [Int.tmod_eq_emod_of_nonneg (by omega)]; omega
      have e2 : True → Int.tdiv (n : Int) 10 = ((n / 10 : Nat) : Int) := by intro _; rw [Int.tdiv_eq_ediv_of_nonneg (by omega)]; omega
      have e3 : True → wrap64 ((n / 10 : Nat) : Int) = ((n / 10 : Nat) : Int) := fun _ => w64id (by omega) (by omega)
      have e : True → wrap64 (48 + ((n % 10 : Nat) : Int)) % 256 = 48 + ((n % 10 : Nat) : Int) := by intro _; unfold wrap64; omega
      have hz : (strOfNums [48 + ((n % 10 : Nat) : Int)]).size = 1 := by rw [strOfNums_size]; rfl
      have hz2 : (strOfNums [48 + ((n % 10 : Nat) : Int)] ++ x).size = 1 + x.size := by rw [ByteArray.size_append, hz]
      simp only [spec_NumText.l0, if_pos c1, Option.bind_some, e1 trivial, e2 trivial, e3 trivial, e trivial]
      rw [if_pos (by omega), ih (n / 10) k _ (by rw [Nat.pow_succ] at hn; omega) (by omega) (by omega) (by omega)]
      congr 1
      apply bytesOf_inj
      rw [bytesOf_append, bytesOf_append, bytesOf_append, bytesOf_decS, bytesOf_decS, decL_step n h10, bytesOf_strOfNums, List.append_assoc]
      intro c hc
      obtain rfl := List.mem_singleton.1 hc
      unfold isByte
      omega

/-- What NumText answers. -/
def numText (n : Int) : ByteArray := if 0 ≤ n ∧ n ≤ 4611686018427387904 then decS n.toNat else ⟨#[]⟩

theorem spec_NumText_at (n : Int) (k : Nat) (hk : 30 < k) : spec_NumText.f k n = some (numText n) := by
  unfold spec_NumText.f spec_l01Money.f numText
  by_cases h0 : n ≥ 0
  · rw [if_pos h0, Option.bind_some]
    by_cases h1 : n ≤ 4611686018427387904
    · rw [if_pos (decide_eq_true h1), if_pos ⟨h0, h1⟩]
      have h := spec_NumText_l 19 n.toNat k ⟨#[]⟩ (by omega) (by omega) (by decide) (by omega)
      have e : ((n.toNat : Nat) : Int) = n := by omega
      rw [e] at h
      rw [h]
      congr 1
      apply bytesOf_inj
      rw [bytesOf_append]
      exact List.append_nil _
    · rw [if_neg (by simpa using h1), if_neg (fun q => h1 q.2)]
  · rw [if_neg h0, Option.bind_some, if_neg (by simp), if_neg (fun q => h0 q.1)]

theorem itoa_at (n : Int) (h0 : 0 ≤ n) (h1 : n ≤ 9223372036854775807) : strconv_Itoa.f n = some (decS n.toNat) := by
  unfold strconv_Itoa.f
  rw [if_pos ⟨by omega, h1⟩]
  unfold decS Lib.itoa
  rw [if_neg (by omega)]

theorem impl_NumText_at (n : Int) : impl_NumText.f n = some (numText n) := by
  unfold impl_NumText.f impl_isMoney.f impl_within.f numText
  by_cases h0 : 0 ≤ n
  · rw [if_pos h0]
    simp only [Option.bind_some]
    by_cases h1 : n ≤ 4611686018427387904
    · rw [if_pos (decide_eq_true h1), if_pos ⟨h0, h1⟩, itoa_at n h0 (by omega)]
      rfl
    · rw [if_neg (by simpa using h1), if_neg (fun q => h1 q.2)]
  · rw [if_neg h0]
    simp only [Option.bind_some]
    rw [if_neg (by simp), if_neg (fun q => h0 q.1)]
end Go.Proofs.YtiglmmofapcefaaDoor.Q
