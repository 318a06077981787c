/- FnExactTextNum of the given program answers true at every string; the listed variables hold what the program's text lays. -/
import Derived.Test.YtiglmmofapcefaaDoorRows
import Derived.Test.YtiglmmofapcefaaDoorQx10
import Derived.Test.YtiglmmofapcefaaDoorLBase
import Derived.Test.YtiglmmofapcefaaDoorQx0
import Derived.Test.YtiglmmofapcefaaDoorQx3
import Derived.Test.YtiglmmofapcefaaDoorQx2
import Derived.Test.YtiglmmofapcefaaDoorExtItoa
import Derived.Test.YtiglmmofapcefaaDoorLDigits
import Derived.Test.YtiglmmofapcefaaDoorExtNarrow
import Derived.Test.YtiglmmofapcefaaDoorQx7
import Derived.Test.YtiglmmofapcefaaDoorExtTextNum
import Derived.Test.YtiglmmofapcefaaDoorQx9
import Derived.Test.YtiglmmofapcefaaDoorCards
import Derived.Test.YtiglmmofapcefaaDoorTie
import Derived.Test.YtiglmmofapcefaaDoorLaidS
import Derived.WalkKit
import Derived.ProofKit
import Derived.OpenShut
import Derived.ShutString
import Derived.ChangeOld
import Derived.Below
import Derived.SizedLaws
import Derived.ChangeSame
import Derived.ChangeVars
import Derived.ChangeMaps5
import Derived.JoinedOf
import Derived.JoinedAt
import Derived.LaidLaws
import Derived.Handed
import Derived.SevenTiedAt
section
/- Lemmas on what the printed functions compute (rdset); no condition. -/
namespace Go.Proofs.YtiglmmofapcefaaDoor.Q
open Go.RowKit Go.Proofs.YtiglmmofapcefaaDoorW.PrintWords Go.Proofs.YtiglmmofapcefaaDoorW.PrintLast Go.Proofs.YtiglmmofapcefaaDoorW.PrintMore
set_option linter.unusedVariables false
set_option linter.unusedSimpArgs false

theorem rd_set_same (y : List Int) (n : Nat) (v : Int) (h : n < y.length) : rd (y.set n v) (n : Int) = v := by
  rw [rd_nat _ _ (by simpa using h)]
  simp

theorem rd_set_other (y : List Int) (n j : Nat) (v : Int) (h : j ≠ n) : rd (y.set n v) (j : Int) = rd y (j : Int) := by
  unfold rd
  simp [List.getD, List.getElem?_set, Ne.symm h]

theorem toNat_cast (n : Nat) : ((n : Int) : Int).toNat = n := by simp

theorem take_set_succ (y l : List Int) (n : Nat) (hn : n < l.length) (hy : y.length = l.length) (h : y.take n = l.take n) :
    (y.set n (rd l (n : Int))).take (n + 1) = l.take (n + 1) := by
  rw [List.take_succ_eq_append_getElem (by simpa [hy] using hn), List.take_succ_eq_append_getElem hn, rd_nat l n hn]
  simp [List.take_set_of_le, h]
end Go.Proofs.YtiglmmofapcefaaDoor.Q
end
section
/- Lemmas on what the printed functions compute (strs); no condition. -/
namespace Go.Proofs.YtiglmmofapcefaaDoor.Q
open Go.RowKit Go.Proofs.YtiglmmofapcefaaDoorW.PrintWords Go.Proofs.YtiglmmofapcefaaDoorW.PrintLast Go.Proofs.YtiglmmofapcefaaDoorW.PrintMore
set_option linter.unusedVariables false
set_option linter.unusedSimpArgs false

def isByte (c : Int) : Prop := 0 ≤ c ∧ c ≤ 255

theorem bytesOf_range (s : ByteArray) : ∀ c ∈ bytesOf s, isByte c := by
  intro c hc
  unfold bytesOf at hc
  obtain ⟨b, _, rfl⟩ := List.mem_map.1 hc
  have := b.toNat_lt
  exact ⟨by omega, by omega⟩

theorem bytesOf_inj {s t : ByteArray} (h : bytesOf s = bytesOf t) : s = t := by
  have e : s.data.toList = t.data.toList := by
    unfold bytesOf at h
    have := congrArg (List.map fun n : Int => UInt8.ofNat n.toNat) h
    simpa [List.map_map, Function.comp_def] using this
  cases s; cases t
  congr 1
  exact Array.toList_inj.1 e

theorem bytesOf_append (s t : ByteArray) : bytesOf (s ++ t) = bytesOf s ++ bytesOf t := by
  unfold bytesOf
  simp

theorem bytesOf_strOfNums (l : List Int) (h : ∀ c ∈ l, isByte c) : bytesOf (strOfNums l) = l := by
  unfold bytesOf
  rw [strOfNums_data, List.map_map]
  have : ∀ c ∈ l, ((fun b : UInt8 => (b.toNat : Int)) ∘ fun n : Int => UInt8.ofNat n.toNat) c = c := by
    intro c hc
    obtain ⟨h0, h1⟩ := h c hc
    have e : (UInt8.ofNat c.toNat).toNat = c.toNat := by simp [UInt8.toNat_ofNat']; omega
    simp only [Function.comp, e]
    omega
  rw [List.map_congr_left this]
  simp

theorem strOfNums_bytesOf (s : ByteArray) : strOfNums (bytesOf s) = s := bytesOf_inj (bytesOf_strOfNums _ (bytesOf_range s))

theorem strOfNums_append (a b : List Int) : strOfNums (a ++ b) = strOfNums a ++ strOfNums b := by
  have e : (strOfNums (a ++ b)).data.toList = (strOfNums a ++ strOfNums b).data.toList := by
    rw [strOfNums_data, ByteArray.toList_data_append, strOfNums_data, strOfNums_data, List.map_append]
  revert e
  generalize strOfNums (a ++ b) = x
  generalize strOfNums a ++ strOfNums b = y
  intro e
  cases x; cases y
  congr 1
  exact Array.toList_inj.1 e

theorem size_eq (s : ByteArray) : s.size = (bytesOf s).length := (bytesOf_length s).symm

theorem bytesOf_extract (s : ByteArray) (a b : Nat) : bytesOf (s.extract a b) = ((bytesOf s).take b).drop a := by
  unfold bytesOf
  rw [ByteArray.data_extract, Array.toList_extract, List.extract_eq_take_drop, List.map_take, List.map_drop, List.drop_take]

theorem toList_of_eq {s t : ByteArray} (h : bytesOf s = bytesOf t) : s.toList = t.toList := by rw [bytesOf_inj h]

theorem bt_eq (s : ByteArray) (i : Int) : bt s i = rd (bytesOf s) i := (rd_bytesOf s i).symm
end Go.Proofs.YtiglmmofapcefaaDoor.Q
end
section
/- Lemmas on what the printed functions compute (numText); no condition. -/
namespace Go.Proofs.YtiglmmofapcefaaDoor.Q
open Go.RowKit Go.Proofs.YtiglmmofapcefaaDoorW.PrintWords Go.Proofs.YtiglmmofapcefaaDoorW.PrintLast Go.Proofs.YtiglmmofapcefaaDoorW.PrintMore
set_option linter.unusedVariables false
set_option linter.unusedSimpArgs false

/-- The digits of a number. -/
def decL (n : Nat) : List Int := (Lib.decDigits n).map fun b => (b.toNat : Int)

def decS (n : Nat) : ByteArray := ⟨(Lib.decDigits n).toArray⟩

theorem bytesOf_decS (n : Nat) : bytesOf (decS n) = decL n := by
  unfold bytesOf decS decL
  simp

theorem decL_small (n : Nat) (h : n < 10) : decL n = [48 + (n : Int)] := by
  unfold decL
  rw [Lib.decDigits, dif_pos h]
  simp only [List.map_cons, List.map_nil]
  congr 1
  rw [UInt8.toNat_ofNat']
  omega

theorem decL_step (n : Nat) (h : ¬ n < 10) : decL n = decL (n / 10) ++ [48 + ((n % 10 : Nat) : Int)] := by
  unfold decL
  rw [Lib.decDigits, dif_neg h, List.map_append]
  congr 1
  simp only [List.map_cons, List.map_nil]
  congr 1
  rw [UInt8.toNat_ofNat']
  omega

theorem decL_length (n : Nat) : ∀ d : Nat, n < 10 ^ (d + 1) → (decL n).length ≤ d + 1 := by
  intro d
  induction d generalizing n with
  | zero =>
    intro h
    rw [decL_small n (by simpa using h)]
    simp
  | succ d ih =>
    intro h
    by_cases q : n < 10
    · rw [decL_small n q]; simp
    · rw [decL_step n q, List.length_append]
      have := ih (n / 10) (by rw [Nat.pow_succ] at h; omega)
      simp
      omega

theorem decL_range (n : Nat) : ∀ c ∈ decL n, 48 ≤ c ∧ c ≤ 57 := by
  induction n using Nat.strongRecOn with
  | ind n ih =>
    by_cases q : n < 10
    · rw [decL_small n q]
      intro c hc
      obtain rfl := List.mem_singleton.1 hc
      omega
    · rw [decL_step n q]
      intro c hc
      rcases List.mem_append.1 hc with hc | hc
      · exact ih (n / 10) (by omega) c hc
      · obtain rfl := List.mem_singleton.1 hc
        omega

theorem spec_NumText_l : ∀ (d : Nat) (n k : Nat) (x : ByteArray), n < 10 ^ (d + 1) → n ≤ 9223372036854775807 → x.size + d ≤ 1000 → d < k →
    spec_NumText.l0 k (n : Int) x = some (decS n ++ x) := by
  intro d
  induction d with
  | zero =>
    intro n k x hn hm hx hk
    obtain ⟨k, rfl⟩ : ∃ m, k = m + 1 := ⟨k - 1, by omega⟩
    have h10 : n < 10 := by simpa using hn
    have c1 : ¬ (n : Int) > 9 := by omega
    have e : wrap64 (48 + (n : Int)) % 256 = 48 + (n : Int) := by unfold wrap64; omega
    have es : strOfNums [48 + (n : Int)] = decS n := by
      apply bytesOf_inj
      rw [bytesOf_decS, decL_small n h10, bytesOf_strOfNums]
      intro c hc
      obtain rfl := List.mem_singleton.1 hc
      unfold isByte
      omega
    have hz : (decS n).size = 1 := by rw [size_eq, bytesOf_decS, decL_small n h10]; rfl
    simp only [spec_NumText.l0, if_neg c1, Option.bind_some, e, es]
    rw [if_pos (by omega)]
  | succ d ih =>
    intro n k x hn hm hx hk
    obtain ⟨k, rfl⟩ : ∃ m, k = m + 1 := ⟨k - 1, by omega⟩
    by_cases h10 : n < 10
    · have c1 : ¬ (n : Int) > 9 := by omega
      have e : wrap64 (48 + (n : Int)) % 256 = 48 + (n : Int) := by unfold wrap64; omega
      have es : strOfNums [48 + (n : Int)] = decS n := by
        apply bytesOf_inj
        rw [bytesOf_decS, decL_small n h10, bytesOf_strOfNums]
        intro c hc
        obtain rfl := List.mem_singleton.1 hc
        unfold isByte
        omega
      have hz : (decS n).size = 1 := by rw [size_eq, bytesOf_decS, decL_small n h10]; rfl
      simp only [spec_NumText.l0, if_neg c1, Option.bind_some, e, es]
      rw [if_pos (by omega)]
    · have c1 : (n : Int) > 9 := by omega
      have e1 : True → Int.tmod (n : Int) 10 = ((n % 10 : Nat) : Int) := by intro _; rw [Int.tmod_eq_emod_of_nonneg (by omega)]; omega
      have e2 : True → Int.tdiv (n : Int) 10 = ((n / 10 : Nat) : Int) := by intro _; rw [Int.tdiv_eq_ediv_of_nonneg (by omega)]; omega
      have e3 : True → wrap64 ((n / 10 : Nat) : Int) = ((n / 10 : Nat) : Int) := fun _ => w64id (by omega) (by omega)
      have e : True → wrap64 (48 + ((n % 10 : Nat) : Int)) % 256 = 48 + ((n % 10 : Nat) : Int) := by intro _; unfold wrap64; omega
      have hz : (strOfNums [48 + ((n % 10 : Nat) : Int)]).size = 1 := by rw [strOfNums_size]; rfl
      have hz2 : (strOfNums [48 + ((n % 10 : Nat) : Int)] ++ x).size = 1 + x.size := by rw [ByteArray.size_append, hz]
      simp only [spec_NumText.l0, if_pos c1, Option.bind_some, e1 trivial, e2 trivial, e3 trivial, e trivial]
      rw [if_pos (by omega), ih (n / 10) k _ (by rw [Nat.pow_succ] at hn; omega) (by omega) (by omega) (by omega)]
      congr 1
      apply bytesOf_inj
      rw [bytesOf_append, bytesOf_append, bytesOf_append, bytesOf_decS, bytesOf_decS, decL_step n h10, bytesOf_strOfNums, List.append_assoc]
      intro c hc
      obtain rfl := List.mem_singleton.1 hc
      unfold isByte
      omega

/-- What NumText answers. -/
def numText (n : Int) : ByteArray := if 0 ≤ n ∧ n ≤ 4611686018427387904 then decS n.toNat else ⟨#[]⟩

theorem spec_NumText_at (n : Int) (k : Nat) (hk : 30 < k) : spec_NumText.f k n = some (numText n) := by
  unfold spec_NumText.f spec_l01Money.f numText
  by_cases h0 : n ≥ 0
  · rw [if_pos h0, Option.bind_some]
    by_cases h1 : n ≤ 4611686018427387904
    · rw [if_pos (decide_eq_true h1), if_pos ⟨h0, h1⟩]
      have h := spec_NumText_l 19 n.toNat k ⟨#[]⟩ (by omega) (by omega) (by decide) (by omega)
      have e : ((n.toNat : Nat) : Int) = n := by omega
      rw [e] at h
      rw [h]
      congr 1
      apply bytesOf_inj
      rw [bytesOf_append]
      exact List.append_nil _
    · rw [if_neg (by simpa using h1), if_neg (fun q => h1 q.2)]
  · rw [if_neg h0, Option.bind_some, if_neg (by simp), if_neg (fun q => h0 q.1)]

theorem itoa_at (n : Int) (h0 : 0 ≤ n) (h1 : n ≤ 9223372036854775807) : strconv_Itoa.f n = some (decS n.toNat) := by
  unfold strconv_Itoa.f
  rw [if_pos ⟨by omega, h1⟩]
  unfold decS Lib.itoa
  rw [if_neg (by omega)]

theorem impl_NumText_at (n : Int) : impl_NumText.f n = some (numText n) := by
  unfold impl_NumText.f impl_isMoney.f impl_within.f numText
  by_cases h0 : 0 ≤ n
  · rw [if_pos h0]
    simp only [Option.bind_some]
    by_cases h1 : n ≤ 4611686018427387904
    · rw [if_pos (decide_eq_true h1), if_pos ⟨h0, h1⟩, itoa_at n h0 (by omega)]
      rfl
    · rw [if_neg (by simpa using h1), if_neg (fun q => h1 q.2)]
  · rw [if_neg h0]
    simp only [Option.bind_some]
    rw [if_neg (by simp), if_neg (fun q => h0 q.1)]
end Go.Proofs.YtiglmmofapcefaaDoor.Q
end
section
/- Lemmas on what the printed functions compute (bcdPure); no condition. -/
namespace Go.Proofs.YtiglmmofapcefaaDoor.Q
open Go.RowKit Go.Proofs.YtiglmmofapcefaaDoorW.PrintWords Go.Proofs.YtiglmmofapcefaaDoorW.PrintLast Go.Proofs.YtiglmmofapcefaaDoorW.PrintMore
set_option linter.unusedVariables false
set_option linter.unusedSimpArgs false

/-- Two and two digits in one byte. -/
def bcd : List Int → List Int
  | a :: b :: t => ((a - 48) * 16 + (b - 48)) :: bcd t
  | _ => []
def evened (l : List Int) : List Int := if l.length % 2 = 1 then 48 :: l else l
def putBcd (l : List Int) : List Int × Bool := if digs l && decide (l.length ≤ 38) then (bcd (evened l), true) else ([], false)

theorem bcd_length : ∀ (n : Nat) (l : List Int), l.length = 2 * n → (bcd l).length = n
  | 0, l, h => by
    have : l = [] := List.length_eq_zero_iff.1 (by omega)
    rw [this]; rfl
  | n + 1, a :: b :: t, h => by
    simp only [bcd, List.length_cons]
    rw [bcd_length n t (by simp at h; omega)]
  | n + 1, [a], h => by simp at h; omega
  | n + 1, [], h => by simp at h

theorem evened_length (l : List Int) : (evened l).length = 2 * ((l.length + 1) / 2) := by
  unfold evened
  split
  · simp; omega
  · omega

theorem evened_all (l : List Int) (h : l.all isDig = true) : (evened l).all isDig = true := by
  unfold evened
  split
  · simp only [List.all_cons, h, Bool.and_true]; decide
  · exact h

theorem dig_range' {c : Int} (h : isDig c = true) : 48 ≤ c ∧ c ≤ 57 := by
  unfold isDig at h
  simpa using h

theorem all_rd' (l : List Int) (p : Int → Bool) (h : l.all p = true) (n : Nat) (hn : n < l.length) : p (rd l (n : Int)) = true := by
  rw [List.all_eq_true] at h
  exact h _ (rd_mem l n hn)

theorem drop_two (l : List Int) (n : Nat) (h : n + 1 < l.length) : l.drop n = rd l (n : Int) :: rd l ((n + 1 : Nat) : Int) :: l.drop (n + 2) := by
  rw [drop_rd l n (by omega), drop_rd l (n + 1) (by omega)]

theorem digs_and (l : List Int) (h : digs l = true) : l.all isDig = true ∧ 0 < l.length := by
  unfold digs at h
  cases l with
  | nil => simp at h
  | cons a t => simpa using h
end Go.Proofs.YtiglmmofapcefaaDoor.Q
end
section
/- Lemmas on what the printed functions compute (narrow); no condition. -/
namespace Go.Proofs.YtiglmmofapcefaaDoor.Q
open Go.RowKit Go.Proofs.YtiglmmofapcefaaDoorW.PrintWords Go.Proofs.YtiglmmofapcefaaDoorW.PrintLast Go.Proofs.YtiglmmofapcefaaDoorW.PrintMore
set_option linter.unusedVariables false
set_option linter.unusedSimpArgs false

/-- What Narrow answers (impl_Narrow.f). -/
def narrow (l : List Int) : Int × Bool := if digs l = true ∧ l.length ≤ 18 then ((natFrom 0 l : Nat), true) else (0, false)

theorem spec_Narrow_l (s : ByteArray) (hs : s.size ≤ 18) (hd : (bytesOf s).all isDig = true) : ∀ (d n k a : Nat), n + d = s.size → a < 10 ^ n → d < k →
    spec_Narrow.l0 k s (a : Int) (n : Int) = some (((natFrom a ((bytesOf s).drop n) : Nat) : Int), true) := by
  intro d
  induction d with
  | zero =>
    intro n k a hn ha hk
    obtain ⟨k, rfl⟩ : ∃ m, k = m + 1 := ⟨k - 1, by omega⟩
    have c1 : ¬ (n : Int) < (s.size : Int) := by omega
    simp only [spec_Narrow.l0, if_neg c1]
    rw [List.drop_of_length_le (by rw [bytesOf_length]; omega)]
    rfl
  | succ d ih =>
    intro n k a hn ha hk
    obtain ⟨k, rfl⟩ : ∃ m, k = m + 1 := ⟨k - 1, by omega⟩
    have c1 : (n : Int) < (s.size : Int) := by omega
    have c2 : 0 ≤ (n : Int) := by omega
    obtain ⟨b0, b1⟩ := dig_range' (all_rd' _ _ hd n (by rw [bytesOf_length]; omega))
    have hp : 10 ^ (n + 1) = 10 ^ n * 10 := Nat.pow_succ 10 n
    have hq : 10 ^ n ≤ 10 ^ 17 := Nat.pow_le_pow_right (by omega) (by omega)
    have hq2 : (10 : Nat) ^ 17 = 100000000000000000 := by decide
    rw [drop_bt s n (by omega), natFrom, bt_eq]
    simp only [spec_Narrow.l0, if_pos c1, if_pos c2, bt_eq]
    generalize rd (bytesOf s) (n : Int) = c at b0 b1
    have ih' := ih (n + 1) k (a * 10 + (c - 48).toNat) (by omega) (by rw [hp]; omega) (by omega)
    have e2 : wrap64 ((n : Int) + 1) = ((n + 1 : Nat) : Int) := by rw [w64 c2 (by omega)]; omega
    have e1 : wrap64 (wrap64 (wrap64 ((a : Int) * 10) + wrap64 c) - 48) = ((a * 10 + (c - 48).toNat : Nat) : Int) := by
      clear e2 ih'
      have q1 : wrap64 ((a : Int) * 10) = (a : Int) * 10 := w64id (by omega) (by omega)
      rw [q1]
      clear q1
      have q2 : wrap64 c = c := w64id (by omega) (by omega)
      rw [q2]
      clear q2
      have q3 : wrap64 ((a : Int) * 10 + c) = (a : Int) * 10 + c := w64id (by omega) (by omega)
      rw [q3]
      clear q3
      rw [w64id (by omega) (by omega)]
      omega
    rw [e1, e2]
    exact ih'

theorem spec_Narrow_at (s : ByteArray) (hs : s.size ≤ 140737488351232) (k : Nat) (hk : s.size + 30 < k) : spec_Narrow.f k s = some (narrow (bytesOf s)) := by
  obtain ⟨k, rfl⟩ : ∃ m, k = m + 1 := ⟨k - 1, by omega⟩
  unfold spec_Narrow.f narrow
  rw [spec_Digits_at s hs _ (by omega), Option.bind_some, bytesOf_length]
  by_cases h : digs (bytesOf s) = true
  · rw [if_pos h]
    by_cases h2 : s.size ≤ 18
    · have e : decide ((s.size : Int) > 18) = false := decide_eq_false (by omega)
      rw [e, if_pos ⟨h, h2⟩, spec_Narrow.j0, if_neg (by simp)]
      exact spec_Narrow_l s h2 (digs_and _ h).1 s.size 0 k 0 (by omega) (by simp) (by omega)
    · have e : decide ((s.size : Int) > 18) = true := decide_eq_true (by omega)
      rw [e, if_neg (fun q => h2 q.2), spec_Narrow.j0, if_pos rfl]
  · rw [if_neg h, if_neg (fun q => h q.1), spec_Narrow.j0, if_pos rfl]

theorem impl_Narrow_at (s : ByteArray) (hs : s.size ≤ 140737488351232) : impl_Narrow.f s = some (narrow (bytesOf s)) := by
  unfold impl_Narrow.f narrow
  rw [if_pos hs, bytesOf_length]
end Go.Proofs.YtiglmmofapcefaaDoor.Q
end
section
/- Lemmas on what the printed functions compute (textNum); no condition. -/
namespace Go.Proofs.YtiglmmofapcefaaDoor.Q
open Go.RowKit Go.Proofs.YtiglmmofapcefaaDoorW.PrintWords Go.Proofs.YtiglmmofapcefaaDoorW.PrintLast Go.Proofs.YtiglmmofapcefaaDoorW.PrintMore
set_option linter.unusedVariables false
set_option linter.unusedSimpArgs false

theorem parse_digs : ∀ (l : List UInt8) (acc : Nat), (l.map fun b => (b.toNat : Int)).all isDig = true → natFrom acc (l.map fun b => (b.toNat : Int)) < 18446744073709551616 → acc < 18446744073709551616 →
    Lib.parseUint10 acc l = .ok (natFrom acc (l.map fun b => (b.toNat : Int))) := by
  intro l
  induction l with
  | nil => intro acc _ _ _; rfl
  | cons b t ih =>
    intro acc h hn ha
    simp only [List.map_cons, List.all_cons, Bool.and_eq_true] at h
    have hd := dig_range' h.1
    have hge : ∀ (u : List Int) (a : Nat), a ≤ natFrom a u := by
      intro u
      induction u with
      | nil => intro a; exact Nat.le_refl _
      | cons c u iu => intro a; rw [natFrom]; exact Nat.le_trans (by omega) (iu _)
    rw [List.map_cons, natFrom] at hn ⊢
    have e : ((b.toNat : Int) - 48).toNat = b.toNat - 48 := by omega
    rw [e] at hn ⊢
    have := hge (t.map fun b => (b.toNat : Int)) (acc * 10 + (b.toNat - 48))
    rw [Lib.parseUint10, if_pos (by omega), if_neg (by omega), if_neg (by omega)]
    exact ih _ h.2 hn (by omega)

theorem natFrom_append : ∀ (l : List Int) (a : Nat) (c : Int), natFrom a (l ++ [c]) = natFrom a l * 10 + (c - 48).toNat := by
  intro l
  induction l with
  | nil => intro a c; rfl
  | cons b t ih => intro a c; rw [List.cons_append, natFrom, natFrom, ih]

theorem natFrom_decL : ∀ (d n : Nat), n < 10 ^ (d + 1) → natFrom 0 (decL n) = n := by
  intro d
  induction d with
  | zero =>
    intro n h
    rw [decL_small n (by omega)]
    simp [natFrom]
    omega
  | succ d ih =>
    intro n h
    by_cases q : n < 10
    · rw [decL_small n q]
      simp [natFrom]
      omega
    · rw [decL_step n q, natFrom_append, ih (n / 10) (by rw [Nat.pow_succ] at h; omega)]
      omega

theorem decL_digs (n : Nat) : digs (decL n) = true := by
  unfold digs
  have hp : 0 < (decL n).length := by
    by_cases q : n < 10
    · rw [decL_small n q]; simp
    · rw [decL_step n q]; simp
  have ha : (decL n).all isDig = true := by
    rw [List.all_eq_true]
    intro c hc
    have := decL_range n c hc
    unfold isDig
    simp; omega
  rw [ha]
  cases he : decL n with
  | nil => rw [he] at hp; exact absurd hp (by simp)
  | cons a t => rfl

theorem natFrom_take_le (s : List Int) : ∀ (d n : Nat), n + d = s.length → natFrom 0 (s.take n) ≤ natFrom 0 s := by
  intro d
  induction d with
  | zero => intro n h; rw [List.take_of_length_le (by omega)]; exact Nat.le_refl _
  | succ d ih =>
    intro n h
    refine Nat.le_trans ?_ (ih (n + 1) (by omega))
    rw [List.take_succ_eq_append_getElem (by omega), natFrom_append]
    omega

theorem numText_nat (n : Nat) (h : n ≤ 4611686018427387904) : numText (n : Int) = decS n := by
  unfold numText
  rw [if_pos (by omega), Int.toNat_natCast]

/-- What TextNum answers. -/
def textNum (s : ByteArray) : Int × Bool :=
  if natFrom 0 (bytesOf s) ≤ 4611686018427387904 ∧ decS (natFrom 0 (bytesOf s)) = s then (((natFrom 0 (bytesOf s) : Nat) : Int), true) else (0, false)

theorem textNum_of (n : Nat) (h : n ≤ 4611686018427387904) : textNum (decS n) = ((n : Int), true) := by
  unfold textNum
  rw [bytesOf_decS, natFrom_decL 30 n (by omega), if_pos ⟨h, rfl⟩]

theorem textNum_no (s : ByteArray) (h : ∀ n, n ≤ 4611686018427387904 → ¬ decS n = s) : textNum s = (0, false) := by
  unfold textNum
  rw [if_neg (fun q => h _ q.1 q.2)]

theorem toList_inj {s t : ByteArray} (h : s.toList = t.toList) : s = t := by
  rw [Lib.toList_data, Lib.toList_data] at h
  cases s; cases t
  congr 1
  exact Array.toList_inj.1 h

theorem impl_TextNum_at (s : ByteArray) (hs : s.size ≤ 140737488351232) : impl_TextNum.f s = some (textNum s) := by
  unfold impl_TextNum.f
  rw [if_pos hs]
  by_cases h : ∃ n, n ≤ 4611686018427387904 ∧ decS n = s
  · obtain ⟨n, hn, rfl⟩ := h
    rw [textNum_of n hn]
    have hdat : (decS n).data.toList = Lib.decDigits n := by unfold decS; simp
    have hd := decL_digs n
    have ha : Lib.atoiAll (decS n).data.toList = .ok (n : Int) := by
      rw [hdat]
      have hd2 := digs_and _ hd
      unfold decL at hd2
      have hv := parse_digs (Lib.decDigits n) 0 hd2.1 (by have := natFrom_decL 30 n (by omega); unfold decL at this; rw [this]; omega) (by omega)
      have hv2 := natFrom_decL 30 n (by omega)
      unfold decL at hv2
      rw [hv2] at hv
      cases he : Lib.decDigits n with
      | nil => rw [he] at hd2; exact absurd hd2.2 (by simp)
      | cons b t =>
        rw [he] at hd2 hv
        simp only [List.map_cons, List.all_cons, Bool.and_eq_true] at hd2
        have hb := dig_range' hd2.1.1
        unfold Lib.atoiAll
        have q1 : ¬ (b.toNat = 43 ∨ b.toNat = 45) := by omega
        have q2 : ¬ b.toNat = 45 := by omega
        simp only [if_neg q1]
        unfold Lib.parseMag
        rw [if_neg (by simp), hv]
        simp only [q2, not_false_eq_true, true_and, false_and, if_false]
        rw [if_neg (by omega)]
    rw [ha]
    simp only
    rw [if_pos (by omega), impl_NumText_at, Option.bind_some, numText_nat n hn, if_pos rfl]
  · have h' : ∀ n, n ≤ 4611686018427387904 → ¬ decS n = s := fun n hn e => h ⟨n, hn, e⟩
    rw [textNum_no s h']
    cases ha : Lib.atoiAll s.data.toList with
    | ok v =>
      simp only
      by_cases hm : 0 ≤ v ∧ v ≤ 4611686018427387904
      · have en0 := hm
        rw [if_pos hm, impl_NumText_at, Option.bind_some]
        have en : numText v = decS v.toNat := by unfold numText; rw [if_pos hm]
        rw [en, if_neg (fun e => h' v.toNat (by omega) (toList_inj e))]
      · rw [if_neg hm]
    | «syntax» => rfl
    | range => rfl

theorem spec_TextNum_l (s : ByteArray) (hs : s.size ≤ 19) (hd : (bytesOf s).all isDig = true) : ∀ (d n k : Nat), n + d = s.size → d + 40 < k → natFrom 0 ((bytesOf s).take n) ≤ 4611686018427387904 →
    spec_TextNum.l0 k s ((natFrom 0 ((bytesOf s).take n) : Nat) : Int) (n : Int) = some (textNum s) := by
  intro d
  induction d with
  | zero =>
    intro n k hn hk hb
    obtain ⟨k, rfl⟩ : ∃ m, k = m + 1 := ⟨k - 1, by omega⟩
    rw [spec_TextNum.l0, if_neg (by omega)]
    rw [List.take_of_length_le (by rw [bytesOf_length]; omega)] at hb ⊢
    rw [spec_NumText_at _ k (by omega), Option.bind_some, numText_nat _ hb]
    unfold textNum
    by_cases q : decS (natFrom 0 (bytesOf s)) = s
    · rw [if_pos (by rw [q]), if_pos ⟨hb, q⟩]
    · rw [if_neg (fun e => q (toList_inj e)), if_neg (fun e => q e.2)]
  | succ d ih =>
    intro n k hn hk hb
    obtain ⟨k, rfl⟩ : ∃ m, k = m + 1 := ⟨k - 1, by omega⟩
    have hlt : n < (bytesOf s).length := by rw [bytesOf_length]; omega
    have hc := dig_range' (all_rd' _ _ hd n hlt)
    have ht : (bytesOf s).take (n + 1) = (bytesOf s).take n ++ [rd (bytesOf s) (n : Int)] := by rw [List.take_succ_eq_append_getElem hlt, rd_nat _ _ hlt]
    have hv := natFrom_append ((bytesOf s).take n) 0 (rd (bytesOf s) (n : Int))
    rw [← ht] at hv
    have hle := natFrom_take_le (bytesOf s) d (n + 1) (by rw [bytesOf_length]; omega)
    rw [spec_TextNum.l0, if_pos (by omega), if_pos (by omega), bt_eq]
    generalize rd (bytesOf s) (n : Int) = c at hc hv ht
    generalize natFrom 0 ((bytesOf s).take n) = a at hb hv
    have e1 : wrap64 c = c := by unfold wrap64; omega
    have e2 : wrap64 (c - 48) = c - 48 := by unfold wrap64; omega
    have e3 : wrap64 (4611686018427387904 - (c - 48)) = 4611686018427387904 - (c - 48) := by unfold wrap64; omega
    rw [e1, e2, e3, Int.tdiv_eq_ediv_of_nonneg (by omega)]
    have e4 : wrap64 ((4611686018427387904 - (c - 48)) / 10) = (4611686018427387904 - (c - 48)) / 10 := by unfold wrap64; omega
    rw [e4]
    by_cases q : (a : Int) > (4611686018427387904 - (c - 48)) / 10
    · rw [if_pos q]
      have hbig : 4611686018427387904 < natFrom 0 (bytesOf s) := by omega
      unfold textNum
      rw [if_neg (fun z => by omega)]
    · have e5 : wrap64 ((a : Int) * 10) = (a : Int) * 10 := by unfold wrap64; omega
      have e6 : wrap64 ((a : Int) * 10 + (c - 48)) = ((natFrom 0 ((bytesOf s).take (n + 1)) : Nat) : Int) := by rw [hv]; unfold wrap64; omega
      have e7 : wrap64 ((n : Int) + 1) = ((n + 1 : Nat) : Int) := by unfold wrap64; omega
      rw [if_neg q, e5, e6, e7]
      exact ih (n + 1) k (by omega) (by omega) (by omega)

theorem spec_TextNum_at (s : ByteArray) (hs : s.size ≤ 140737488351232) (k : Nat) (hk : s.size + 100 < k) : spec_TextNum.f k s = some (textNum s) := by
  obtain ⟨k, rfl⟩ : ∃ m, k = m + 1 := ⟨k - 1, by omega⟩
  unfold spec_TextNum.f
  rw [spec_Digits_at s hs _ (by omega), Option.bind_some]
  by_cases hd : digs (bytesOf s) = true
  · rw [if_pos hd]
    by_cases hz : (s.size : Int) > 19
    · rw [decide_eq_true hz, spec_TextNum.j0, if_pos rfl, textNum_no]
      intro n hn e
      subst e
      have := decL_length n 18 (by omega)
      rw [size_eq, bytesOf_decS] at hz
      omega
    · rw [decide_eq_false hz, spec_TextNum.j0, if_neg (by simp)]
      exact spec_TextNum_l s (by omega) (digs_and _ hd).1 s.size 0 k (by omega) (by omega) (by simp [natFrom])
  · rw [if_neg hd, spec_TextNum.j0, if_pos rfl, textNum_no]
    intro n hn e
    subst e
    rw [bytesOf_decS] at hd
    exact hd (decL_digs n)
end Go.Proofs.YtiglmmofapcefaaDoor.Q
end
section
/- FnExactTextNum of the given program answers true at every string; the listed variables hold what the program's text lays. -/
namespace Go.Proofs.YtiglmmofapcefaaDoor.Q
open Go.RowKit Go.Proofs.YtiglmmofapcefaaDoorW.PrintWords Go.Proofs.YtiglmmofapcefaaDoorW.PrintLast Go.Proofs.YtiglmmofapcefaaDoorW.PrintMore
set_option linter.unusedVariables false
set_option linter.unusedSimpArgs false

theorem FnExactTextNum : ∀ (a0 : ByteArray), a0.size ≤ 140737488351232 → ∃ k, laws_FnExactTextNum.f k a0 = some true := by
  intro s hs
  refine ⟨s.size + 200, ?_⟩
  unfold laws_FnExactTextNum.f
  by_cases hl : (s.size : Int) > 1048576
  · rw [if_pos hl]
  rw [if_neg hl, spec_TextNum_at s hs _ (by omega), impl_TextNum_at s hs]
  simp
end Go.Proofs.YtiglmmofapcefaaDoor.Q
end
section
/- The tied card of FnExactTextNum: over what the printed walk tells and the pure law; for every input; the listed variables hold what the program's text lays. -/
namespace Go.Proofs.YtiglmmofapcefaaDoor.Q
open Go.RowKit Go.Proofs.YtiglmmofapcefaaDoorW.PrintWords Go.Proofs.YtiglmmofapcefaaDoorW.PrintLast Go.Proofs.YtiglmmofapcefaaDoorW.PrintMore
set_option linter.unusedVariables false
theorem laws_FnExactTextNum.walk (a0 : ByteArray) (w : World) (w0 : a0.size ≤ 140737488351232) (hG : GLS w) :
    Calls Tryd.prog 6 #[.string a0] w fun e w' => e = .returned (.bool true) ∧ Below w.heap.size w w' := by
  obtain ⟨k, h⟩ := FnExactTextNum a0 w0
  refine (laws_FnExactTextNum.calls k a0 true w hG rfl h).mono ?_
  rintro e w' ⟨rfl, hd⟩
  exact ⟨rfl, hd⟩
end Go.Proofs.YtiglmmofapcefaaDoor.Q
namespace Go.Proofs.YtiglmmofapcefaaDoor.fnExactTextNum
open Go.ChangeShapes Go.WideShapes Go.ChangeAt Go.RowKit
open Go.ChangeMaps (open_string shut_string)
set_option linter.unusedVariables false
theorem own : ownKnob Tryd.prog.godebug = none := by kernel_rfl
set_option maxRecDepth 100000 in
theorem lifted (os : Os) (started : os.Started) (H : Type) (enc : TypeId × Value → H) :
    ReturnsInHanded {} Tryd.checked os 6 .any (fun w args => (Rows.fnExactTextNumSpec.pre enc Tryd.prog Tryd.f6 Rows.fnExactTextNumRow.domain false w args ∧ laidMet Tryd.prog Laid.list5 w) ∧ sizedMet enc Tryd.prog Tryd.f6 (OpenSpec.ofChange Rows.fnExactTextNumSpec) false w args) (Rows.fnExactTextNumSpec.post enc Tryd.prog Tryd.f6 false true false false) := by
  refine returnsInHanded_of_change_and (C := Tryd.checked) (X := fun w _ => laidMet Tryd.prog Laid.list5 w) (fun _ _ _ hh h => h.of_heap hh) own started (by kernel_rfl) Tryd.func6
    (ChangeSpec.witness_at (enc := enc) (C := Tryd.checked) (os := os) (X := fun w _ => laidMet Tryd.prog Laid.list5 w) false (Laid.world os) #[.string ByteArray.empty] 8 rfl (by kernel_rfl) (by kernel_rfl) (by kernel_rfl) (by kernel_rfl) (by kernel_rfl) (Laid.met os _)) ?_
  intro W base args ds gs before hval0 hW hcnd hsz0 hL _
  have hG := Laid.gls hL
  have hsz : (DataW.weightsEach Tryd.prog (Tryd.f6.params.toList ++ Rows.fnExactTextNumSpec.plain.varTypes Tryd.prog) (ds ++ gs)).all (· ≤ reachBytes) = true := hsz0
  have hval : ∀ (j : Nat) t v, Tryd.f6.params[j]? = some t → args[j]? = some v → Value.okWide Tryd.prog W .any base t v := hval0
  have hW' := hW
  obtain ⟨p, q, hA0, hV, rfl, hfz, hnd⟩ := hW
  have hA : DataW.TrodAll enc Tryd.prog W 0 (fun _ => true) true Tryd.f6.params.toList args.toList ds p := hA0
  rw [Tryd.params6] at hA hval hsz
  obtain ⟨v0, vs0, d0, ds0, p0, q0, hargs, rfl, rfl, h0, r0⟩ := trodAll_cons hA
  obtain ⟨rfl, rfl, rfl⟩ := trodAll_nil r0
  obtain rfl : args = #[v0] := by cases args; simp_all
  obtain ⟨rfl, rfl⟩ := trodVars_none hV
  obtain ⟨a0, rfl, rfl, rfl, y0⟩ := open_string Tryd.underlying9 (hval 0 9 v0 rfl rfl) h0
  have w0 : a0.size ≤ 140737488351232 := by
    have z := sized_string hsz (j := 0) (t := 9) rfl rfl
    rw [Array.length_toList] at z
    exact z
  clear hA0 hval0 hsz0 hsz
  refine (Q.laws_FnExactTextNum.walk a0 W w0 hG).mono fun e W' ⟨he, bel⟩ => ?_
  subst he
  exact ⟨_, rfl, _, _, _, [], _, [], hW', trodAll_mk1 (shut_bool Tryd.underlying4 _), (trodAll_cons_mk (shut_string Tryd.underlying9 y0) trodAll_mk0), rfl, bel.frame _, fun h => by cases h⟩
theorem over : Rows.fnExactTextNumRow.holds Tryd.pinned (OpenSpec.ofChange Rows.fnExactTextNumSpec) :=
  OpenClaim.holds_of_wide 6 Tryd.f6 rfl rfl rfl rfl rfl rfl rfl ⟨rfl, rfl, rfl, rfl, rfl⟩ rfl rfl rfl rfl rfl (by kernel_rfl) Tryd.func6 (by kernel_rfl)
    (of_decide_eq_true (by kernel_rfl)) (by unfold Func.isWrapper; first | (rw [if_pos (by decide +kernel)]; kernel_rfl) | (rw [if_neg (by decide +kernel)]; exact ⟨rfl, rfl⟩))
    (fun os started H enc _ => lifted os started H enc)
open Go in
set_option maxRecDepth 100000 in
theorem proved : Rows.FnExactTextNumCardSaid :=
  Claim7.holds_tied_plain_at .later [] [.data, .data, .data, .sentinel, .sentinel] true (true, "e319ee1b9ad5d5822beadd882dd403e21ec2a96a5af03b9775b81c9845301121") true
    over (fun _ h => by cases h) (by kernel_rfl) (fun _ h => by cases h) fnExactTextNum_row_tie rfl ⟨rfl, rfl⟩ (by kernel_rfl) rfl
    (fun f fn hf hfn => by
      obtain rfl : f = 6 := Option.some.inj ((show Tryd.prog.funcNamed "loop.example/g00735/laws.FnExactTextNum" = some 6 by kernel_rfl).symm.trans hf) |>.symm
      obtain rfl : fn = Tryd.f6 := (Option.some.inj (Tryd.func6.symm.trans hfn)).symm
      refine ⟨by kernel_rfl, fun j t ht => ?_⟩
      rw [Tryd.params6] at ht
      have h3 : t = 9 := by
        rcases j with _ | j
        · simpa using ht.symm
        · simp at ht
      subst h3
      exact (show Tryd.prog.wantsStandIn 9 = false by kernel_rfl))
    (by kernel_rfl)
#print axioms proved
end Go.Proofs.YtiglmmofapcefaaDoor.fnExactTextNum
namespace Go.Proofs.YtiglmmofapcefaaDoor
/-- The row, under a short name, for the claim. -/
theorem fnExactTextNum_holds : Rows.FnExactTextNumCardSaid := fnExactTextNum.proved
end Go.Proofs.YtiglmmofapcefaaDoor
end
