/- FnExactBare of the given program answers true at every string and every int64. -/
import Derived.Test.YtnhejdelcopphaaRows
import Derived.Test.YtnhejdelcopphaaQx57
import Derived.Test.YtnhejdelcopphaaQx0
import Derived.Test.YtnhejdelcopphaaQx5
import Derived.Test.YtnhejdelcopphaaQx2
import Derived.Test.YtnhejdelcopphaaQx55
import Derived.Test.YtnhejdelcopphaaQx50
import Derived.Test.YtnhejdelcopphaaQx53
import Derived.Test.YtnhejdelcopphaaQx38
import Derived.Test.YtnhejdelcopphaaQx35
import Derived.Test.YtnhejdelcopphaaQx34
import Derived.Test.YtnhejdelcopphaaQx39
import Derived.Test.YtnhejdelcopphaaQx36
import Derived.Test.YtnhejdelcopphaaQx40
import Derived.Test.YtnhejdelcopphaaQx4
import Derived.Test.YtnhejdelcopphaaQx37
import Derived.Test.YtnhejdelcopphaaQx27
import Derived.Test.YtnhejdelcopphaaQx51
import Derived.Test.YtnhejdelcopphaaQx49
import Derived.Test.YtnhejdelcopphaaQx56
import Derived.Test.YtnhejdelcopphaaQx54
import Derived.Test.YtnhejdelcopphaaQx19
import Derived.Test.YtnhejdelcopphaaQx20
import Derived.Test.YtnhejdelcopphaaQx21
import Derived.Test.YtnhejdelcopphaaQx46
import Derived.Test.YtnhejdelcopphaaQx47
import Derived.Test.YtnhejdelcopphaaQx45
import Derived.Test.YtnhejdelcopphaaQx44
import Derived.WalkKit
import Derived.ProofKit
import Derived.OpenShut
import Derived.ShutString
import Derived.ChangeOld
import Derived.Below
import Derived.SizedLaws
section
/- Lemmas on what the printed functions compute (base); no condition. -/
namespace Go.Proofs.Ytnhejdelcopphaa.Q
open Go.RowKit Go.Proofs.YtnhejdelcopphaaW.PrintWords Go.Proofs.YtnhejdelcopphaaW.PrintLast Go.Proofs.YtnhejdelcopphaaW.PrintMore
set_option linter.unusedVariables false
set_option linter.unusedSimpArgs false

theorem w64 {i : Int} (h0 : 0 ≤ i) (h : i ≤ 140737488351232) : wrap64 (i + 1) = i + 1 := by
  unfold wrap64
  omega

theorem drop_bt (s : ByteArray) (n : Nat) (h : n < s.size) : (bytesOf s).drop n = bt s (n : Int) :: (bytesOf s).drop (n + 1) := by
  have hl : n < (bytesOf s).length := by rw [bytesOf_length]; exact h
  rw [List.drop_eq_getElem_cons hl]
  congr 1
  rw [← rd_bytesOf]
  unfold rd
  simp [List.getD, hl]

theorem drop_rd (l : List Int) (n : Nat) (h : n < l.length) : l.drop n = rd l (n : Int) :: l.drop (n + 1) := by
  rw [List.drop_eq_getElem_cons h]
  congr 1
  unfold rd
  simp [List.getD, h]


theorem wf_i64 {a : Int} (h : (Lit.int .i64 a).wf = true) : -9223372036854775808 ≤ a ∧ a ≤ 9223372036854775807 := by
  simp only [Lit.wf, IntKind.min, IntKind.max, IntKind.signed, IntKind.bits, Bool.and_eq_true, decide_eq_true_eq, if_true] at h
  omega

theorem wf_u8 {a : Int} (h : (Lit.int .u8 a).wf = true) : 0 ≤ a ∧ a ≤ 255 := by
  simp [Lit.wf, IntKind.min, IntKind.max, IntKind.signed, IntKind.bits] at h
  omega

theorem w64id {i : Int} (h0 : -9223372036854775808 ≤ i) (h : i ≤ 9223372036854775807) : wrap64 i = i := by
  unfold wrap64
  omega

theorem rd_nat (l : List Int) (n : Nat) (h : n < l.length) : rd l (n : Int) = l[n] := by
  unfold rd
  simp [List.getD, h]

theorem rd_mem (l : List Int) (n : Nat) (h : n < l.length) : rd l (n : Int) ∈ l := by
  rw [rd_nat l n h]
  exact List.getElem_mem h

/-- More rounds tell the same. -/
theorem later {α : Type} {g : Nat → Option α} {r : α} {k0 : Nat} (hm : ∀ k, LeO (g k) (g (k + 1))) (h : g k0 = some r) (k : Nat) (hk : k0 ≤ k) : g k = some r :=
  at_rounds hm hk h
end Go.Proofs.Ytnhejdelcopphaa.Q
end
section
/- Lemmas on what the printed functions compute (digits); no condition. -/
namespace Go.Proofs.Ytnhejdelcopphaa.Q
open Go.RowKit Go.Proofs.YtnhejdelcopphaaW.PrintWords Go.Proofs.YtnhejdelcopphaaW.PrintLast Go.Proofs.YtnhejdelcopphaaW.PrintMore
set_option linter.unusedVariables false
set_option linter.unusedSimpArgs false

def isDig (c : Int) : Bool := decide (48 ≤ c) && decide (c ≤ 57)
def digs (l : List Int) : Bool := l.all isDig && !l.isEmpty

theorem spec_Digits_l (s : ByteArray) (hs : s.size ≤ 140737488351232) : ∀ (d n k : Nat), n + d = s.size → d < k →
    spec_Digits.l0 k s (n : Int) = some (((bytesOf s).drop n).all isDig && decide (0 < s.size)) := by
  intro d
  induction d with
  | zero =>
    intro n k hd hk
    obtain ⟨k, rfl⟩ : ∃ m, k = m + 1 := ⟨k - 1, by omega⟩
    simp only [spec_Digits.l0]
    rw [if_neg (by omega), List.drop_of_length_le (by rw [bytesOf_length]; omega)]
    simp
  | succ d ih =>
    intro n k hd hk
    obtain ⟨k, rfl⟩ : ∃ m, k = m + 1 := ⟨k - 1, by omega⟩
    simp only [spec_Digits.l0]
    rw [if_pos (by omega), if_pos (by omega), drop_bt s n (by omega), List.all_cons]
    by_cases h1 : bt s (n : Int) < 48
    · rw [if_pos h1]
      have e : isDig (bt s (n : Int)) = false := by unfold isDig; simp; omega
      rw [e]; simp
    · rw [if_neg h1]
      by_cases h2 : bt s (n : Int) > 57
      · rw [if_pos h2]
        have e : isDig (bt s (n : Int)) = false := by unfold isDig; simp; omega
        rw [e]; simp
      · rw [if_neg h2, w64 (by omega) (by omega)]
        have e : isDig (bt s (n : Int)) = true := by unfold isDig; simp; omega
        rw [e, Bool.true_and]
        exact ih (n + 1) k (by omega) (by omega)

theorem digs_eq (s : ByteArray) : ((bytesOf s).all isDig && decide (0 < s.size)) = digs (bytesOf s) := by
  unfold digs
  congr 1
  rw [← bytesOf_length s]
  cases bytesOf s <;> simp

theorem spec_Digits_at (s : ByteArray) (hs : s.size ≤ 140737488351232) (k : Nat) (hk : s.size < k) : spec_Digits.f k s = some (digs (bytesOf s)) := by
  unfold spec_Digits.f
  have h := spec_Digits_l s hs s.size 0 k (by omega) hk
  rw [← digs_eq]
  simpa using h

theorem toList_ne (s : ByteArray) : (s.toList != ([] : List UInt8)) = decide (0 < s.size) := by
  rw [ByteArray.toList_eq, ← data_length s]
  cases s.data.toList <;> simp

theorem impl_Digits_l (s : ByteArray) (hs : s.size ≤ 140737488351232) : ∀ (d n k : Nat), n + d = s.size → d < k →
    impl_Digits.l0 k s (s.size : Int) (n : Int) = some (((bytesOf s).drop n).all isDig && decide (0 < s.size)) := by
  intro d
  induction d with
  | zero =>
    intro n k hd hk
    obtain ⟨k, rfl⟩ : ∃ m, k = m + 1 := ⟨k - 1, by omega⟩
    simp only [impl_Digits.l0]
    rw [if_neg (by omega), List.drop_of_length_le (by rw [bytesOf_length]; omega), toList_ne]
    simp
  | succ d ih =>
    intro n k hd hk
    obtain ⟨k, rfl⟩ : ∃ m, k = m + 1 := ⟨k - 1, by omega⟩
    simp only [impl_Digits.l0]
    rw [if_pos (by omega), if_pos (by omega), if_pos (by omega), drop_bt s n (by omega), List.all_cons]
    by_cases h1 : bt s (n : Int) < 48
    · rw [if_pos h1]
      have e : isDig (bt s (n : Int)) = false := by unfold isDig; simp; omega
      rw [e]; simp
    · rw [if_neg h1]
      by_cases h2 : bt s (n : Int) > 57
      · rw [if_pos h2]
        have e : isDig (bt s (n : Int)) = false := by unfold isDig; simp; omega
        rw [e]; simp
      · rw [if_neg h2, w64 (by omega) (by omega)]
        have e : isDig (bt s (n : Int)) = true := by unfold isDig; simp; omega
        rw [e, Bool.true_and]
        exact ih (n + 1) k (by omega) (by omega)

theorem impl_Digits_at (s : ByteArray) (hs : s.size ≤ 140737488351232) (k : Nat) (hk : s.size < k) : impl_Digits.f k s = some (digs (bytesOf s)) := by
  unfold impl_Digits.f
  have h := impl_Digits_l s hs s.size 0 k (by omega) hk
  rw [← digs_eq]
  simpa using h
end Go.Proofs.Ytnhejdelcopphaa.Q
end
section
/- Lemmas on what the printed functions compute (rdset); no condition. -/
namespace Go.Proofs.Ytnhejdelcopphaa.Q
open Go.RowKit Go.Proofs.YtnhejdelcopphaaW.PrintWords Go.Proofs.YtnhejdelcopphaaW.PrintLast Go.Proofs.YtnhejdelcopphaaW.PrintMore
set_option linter.unusedVariables false
set_option linter.unusedSimpArgs false

theorem rd_set_same (y : List Int) (n : Nat) (v : Int) (h : n < y.length) : rd (y.set n v) (n : Int) = v := by
  rw [rd_nat _ _ (by simpa using h)]
  simp

theorem rd_set_other (y : List Int) (n j : Nat) (v : Int) (h : j ≠ n) : rd (y.set n v) (j : Int) = rd y (j : Int) := by
  unfold rd
  simp [List.getD, List.getElem?_set, Ne.symm h]

theorem toNat_cast (n : Nat) : ((n : Int) : Int).toNat = n := by simp

theorem take_set_succ (y l : List Int) (n : Nat) (hn : n < l.length) (hy : y.length = l.length) (h : y.take n = l.take n) :
    (y.set n (rd l (n : Int))).take (n + 1) = l.take (n + 1) := by
  rw [List.take_succ_eq_append_getElem (by simpa [hy] using hn), List.take_succ_eq_append_getElem hn, rd_nat l n hn]
  simp [List.take_set_of_le, h]
end Go.Proofs.Ytnhejdelcopphaa.Q
end
section
/- Lemmas on what the printed functions compute (strs); no condition. -/
namespace Go.Proofs.Ytnhejdelcopphaa.Q
open Go.RowKit Go.Proofs.YtnhejdelcopphaaW.PrintWords Go.Proofs.YtnhejdelcopphaaW.PrintLast Go.Proofs.YtnhejdelcopphaaW.PrintMore
set_option linter.unusedVariables false
set_option linter.unusedSimpArgs false

def isByte (c : Int) : Prop := 0 ≤ c ∧ c ≤ 255

theorem bytesOf_range (s : ByteArray) : ∀ c ∈ bytesOf s, isByte c := by
  intro c hc
  unfold bytesOf at hc
  obtain ⟨b, _, rfl⟩ := List.mem_map.1 hc
  have := b.toNat_lt
  exact ⟨by omega, by omega⟩

theorem bytesOf_inj {s t : ByteArray} (h : bytesOf s = bytesOf t) : s = t := by
  have e : s.data.toList = t.data.toList := by
    unfold bytesOf at h
    have := congrArg (List.map fun n : Int => UInt8.ofNat n.toNat) h
    simpa [List.map_map, Function.comp_def] using this
  cases s; cases t
  congr 1
  exact Array.toList_inj.1 e

theorem bytesOf_append (s t : ByteArray) : bytesOf (s ++ t) = bytesOf s ++ bytesOf t := by
  unfold bytesOf
  simp

theorem bytesOf_strOfNums (l : List Int) (h : ∀ c ∈ l, isByte c) : bytesOf (strOfNums l) = l := by
  unfold bytesOf
  rw [strOfNums_data, List.map_map]
  have : ∀ c ∈ l, ((fun b : UInt8 => (b.toNat : Int)) ∘ fun n : Int => UInt8.ofNat n.toNat) c = c := by
    intro c hc
    obtain ⟨h0, h1⟩ := h c hc
    have e : (UInt8.ofNat c.toNat).toNat = c.toNat := by simp [UInt8.toNat_ofNat']; omega
    simp only [Function.comp, e]
    omega
  rw [List.map_congr_left this]
  simp

theorem strOfNums_bytesOf (s : ByteArray) : strOfNums (bytesOf s) = s := bytesOf_inj (bytesOf_strOfNums _ (bytesOf_range s))

theorem strOfNums_append (a b : List Int) : strOfNums (a ++ b) = strOfNums a ++ strOfNums b := by
  have e : (strOfNums (a ++ b)).data.toList = (strOfNums a ++ strOfNums b).data.toList := by
    rw [strOfNums_data, ByteArray.toList_data_append, strOfNums_data, strOfNums_data, List.map_append]
  revert e
  generalize strOfNums (a ++ b) = x
  generalize strOfNums a ++ strOfNums b = y
  intro e
  cases x; cases y
  congr 1
  exact Array.toList_inj.1 e

theorem size_eq (s : ByteArray) : s.size = (bytesOf s).length := (bytesOf_length s).symm

theorem bytesOf_extract (s : ByteArray) (a b : Nat) : bytesOf (s.extract a b) = ((bytesOf s).take b).drop a := by
  unfold bytesOf
  rw [ByteArray.data_extract, Array.toList_extract, List.extract_eq_take_drop, List.map_take, List.map_drop, List.drop_take]

theorem toList_of_eq {s t : ByteArray} (h : bytesOf s = bytesOf t) : s.toList = t.toList := by rw [bytesOf_inj h]

theorem bt_eq (s : ByteArray) (i : Int) : bt s i = rd (bytesOf s) i := (rd_bytesOf s i).symm
end Go.Proofs.Ytnhejdelcopphaa.Q
end
section
/- Lemmas on what the printed functions compute (digCases); no condition. -/
namespace Go.Proofs.Ytnhejdelcopphaa.Q
open Go.RowKit Go.Proofs.YtnhejdelcopphaaW.PrintWords Go.Proofs.YtnhejdelcopphaaW.PrintLast Go.Proofs.YtnhejdelcopphaaW.PrintMore
set_option linter.unusedVariables false
set_option linter.unusedSimpArgs false

theorem dig_bounds {c : Int} (h : isDig c = true) : 48 ≤ c ∧ c ≤ 57 := by
  unfold isDig at h
  simpa using h

theorem all_at (l : List Int) (p : Int → Bool) (h : l.all p = true) (n : Nat) (hn : n < l.length) : p (rd l (n : Int)) = true := by
  rw [List.all_eq_true] at h
  exact h _ (rd_mem l n hn)

theorem digs_both (l : List Int) (h : digs l = true) : l.all isDig = true ∧ 0 < l.length := by
  unfold digs at h
  cases l with
  | nil => simp at h
  | cons a t => simpa using h
end Go.Proofs.Ytnhejdelcopphaa.Q
end
section
/- Lemmas on what the printed functions compute (replyMti); no condition. -/
namespace Go.Proofs.Ytnhejdelcopphaa.Q
open Go.RowKit Go.Proofs.YtnhejdelcopphaaW.PrintWords Go.Proofs.YtnhejdelcopphaaW.PrintLast Go.Proofs.YtnhejdelcopphaaW.PrintMore
set_option linter.unusedVariables false
set_option linter.unusedSimpArgs false

def replyL (l : List Int) : List Int := if digs l && decide (l.length = 4) && decide (rd l 2 % 2 = 0) then l.take 2 ++ [rd l 2 + 1] ++ l.drop 3 else []

theorem encode_small (c : Int) (h0 : 0 ≤ c) (h1 : c < 128) : Utf8.encode c = strOfNums [c] := by
  have h : ∀ n : Fin 128, (Utf8.encode (n.val : Int)).data.toList = (strOfNums [(n.val : Int)]).data.toList := by decide +kernel
  have := h ⟨c.toNat, by omega⟩
  have e : ((c.toNat : Nat) : Int) = c := by omega
  simp only [e] at this
  revert this
  generalize Utf8.encode c = x
  generalize strOfNums [c] = y
  intro this
  cases x; cases y
  congr 1
  exact Array.toList_inj.1 this

theorem extract_str (s : ByteArray) (a b : Nat) : s.extract a b = strOfNums (((bytesOf s).take b).drop a) := by
  rw [← bytesOf_extract, strOfNums_bytesOf]

theorem spec_ReplyMti_at (s : ByteArray) (hs : s.size ≤ 10000000) (k : Nat) (hk : s.size < k) : spec_ReplyMti.f k s = some (strOfNums (replyL (bytesOf s))) := by
  unfold spec_ReplyMti.f replyL
  rw [spec_Digits_at s (by omega) k hk, bytesOf_length]
  simp only [Option.bind_some]
  by_cases h : digs (bytesOf s) = true
  · rw [if_pos h, h]
    by_cases h4 : s.size = 4
    · have c1 : (s.size : Int) = 4 := by omega
      have c2 : 2 < (s.size : Int) := by omega
      have c3 : (0 : Int) ≤ 2 := by omega
      have c4 : 2 ≤ (s.size : Int) := by omega
      have c5 : 3 ≤ (s.size : Int) := by omega
      obtain ⟨b0, b1⟩ := dig_bounds (all_at (bytesOf s) isDig (digs_both _ h).1 2 (by rw [bytesOf_length]; omega))
      have hb : bt s 2 = rd (bytesOf s) ((2 : Nat) : Int) := bt_eq s 2
      rw [if_pos c1, if_pos c2]
      simp only [if_pos c3, if_pos c4, if_pos c5, hb]
      have hb2 : rd (bytesOf s) 2 = rd (bytesOf s) ((2 : Nat) : Int) := rfl
      rw [hb2]
      generalize rd (bytesOf s) ((2 : Nat) : Int) = b at b0 b1
      have e1 : Int.tmod b 2 = b % 2 := Int.tmod_eq_emod_of_nonneg (by omega)
      have e2 : (b + 1) % 256 = b + 1 := by omega
      rw [e1]
      by_cases h5 : b % 2 = 1
      · have : ¬ b % 2 = 0 := by omega
        rw [if_pos h5]
        simp [this, h4]
        rfl
      · have h6 : b % 2 = 0 := by omega
        have z1 : (s.extract 0 2).size = 2 := by rw [ByteArray.size_extract]; omega
        have z2 : (s.extract 3 s.size).size = 1 := by rw [ByteArray.size_extract]; omega
        have z3 : (strOfNums [b + 1]).size = 1 := strOfNums_size _
        have q1 : (s.extract 0 2).size + (strOfNums [b + 1]).size ≤ 9223372036854775807 := by omega
        have q2 : ((s.extract 0 2) ++ strOfNums [b + 1]).size + (s.extract 3 s.size).size ≤ 9223372036854775807 := by rw [ByteArray.size_append]; omega
        rw [if_neg h5]
        simp only [Option.bind_some, e2, if_pos q1, if_pos q2]
        have p : (true && decide (s.size = 4) && decide (b % 2 = 0)) = true := by simp [h4, h6]
        rw [if_pos p, strOfNums_append, strOfNums_append, extract_str, extract_str, List.drop_zero, List.take_of_length_le (i := s.size) (by rw [bytesOf_length]; omega)]
        exact if_pos (by decide)
    · have c1 : ¬ (s.size : Int) = 4 := by omega
      rw [if_neg c1]
      simp [h4]
      rfl
  · rw [if_neg h]
    simp [h]
    rfl

theorem impl_isWide_at (s : ByteArray) (hs : s.size ≤ 10000000) (n : Int) (k : Nat) (hk : s.size < k) : impl_isWide.f k s n = some (digs (bytesOf s) && ((s.size : Int) == n)) := by
  unfold impl_isWide.f
  rw [impl_Digits_at s (by omega) k hk]
  simp only [Option.bind_some]
  by_cases h : digs (bytesOf s) = true
  · rw [if_pos h, h, Bool.true_and]
  · rw [if_neg h]
    simp [h]

theorem impl_ReplyMti_at (s : ByteArray) (hs : s.size ≤ 10000000) (k : Nat) (hk : s.size < k) : impl_ReplyMti.f k s = some (strOfNums (replyL (bytesOf s))) := by
  unfold impl_ReplyMti.f replyL
  rw [impl_isWide_at s hs 4 k hk, bytesOf_length]
  simp only [Option.bind_some]
  by_cases h : digs (bytesOf s) = true
  · rw [h]
    by_cases h4 : s.size = 4
    · have c0 : (true && ((s.size : Int) == 4)) = true := by simp [h4]
      have c2 : 2 < (s.size : Int) := by omega
      have c3 : (0 : Int) ≤ 2 := by omega
      have c4 : 2 ≤ (s.size : Int) := by omega
      have c5 : 3 ≤ (s.size : Int) := by omega
      obtain ⟨b0, b1⟩ := dig_bounds (all_at (bytesOf s) isDig (digs_both _ h).1 2 (by rw [bytesOf_length]; omega))
      have hb : bt s 2 = rd (bytesOf s) ((2 : Nat) : Int) := bt_eq s 2
      rw [if_pos c0, if_pos c2]
      simp only [if_pos c3, if_pos c4, if_pos c5, hb]
      have hb2 : rd (bytesOf s) 2 = rd (bytesOf s) ((2 : Nat) : Int) := rfl
      rw [hb2]
      generalize rd (bytesOf s) ((2 : Nat) : Int) = b at b0 b1
      have e1 : ((b - 48) % 256) % 2 = b % 2 := by omega
      have e2 : (b + 1) % 256 = b + 1 := by omega
      rw [e1]
      by_cases h5 : b % 2 = 1
      · have : ¬ b % 2 = 0 := by omega
        rw [if_pos h5]
        simp [this, h4]
        rfl
      · have h6 : b % 2 = 0 := by omega
        have en := encode_small (b + 1) (by omega) (by omega)
        have z1 : (s.extract 0 2).size = 2 := by rw [ByteArray.size_extract]; omega
        have z2 : (s.extract 3 s.size).size = 1 := by rw [ByteArray.size_extract]; omega
        have z3 : (strOfNums [b + 1]).size = 1 := strOfNums_size _
        have q1 : (s.extract 0 2).size + (strOfNums [b + 1]).size ≤ 9223372036854775807 := by omega
        have q2 : ((s.extract 0 2) ++ strOfNums [b + 1]).size + (s.extract 3 s.size).size ≤ 9223372036854775807 := by rw [ByteArray.size_append]; omega
        rw [if_neg h5]
        simp only [e2, en, if_pos q1, if_pos q2]
        have p : (true && decide (s.size = 4) && decide (b % 2 = 0)) = true := by simp [h4, h6]
        rw [if_pos p, strOfNums_append, strOfNums_append, extract_str, extract_str, List.drop_zero, List.take_of_length_le (i := s.size) (by rw [bytesOf_length]; omega)]
        exact if_pos (by decide)
    · have c0 : ¬ (true && ((s.size : Int) == 4)) = true := by simp; omega
      rw [if_neg c0]
      simp [h4]
      rfl
  · have c0 : ¬ (digs (bytesOf s) && ((s.size : Int) == 4)) = true := by simp [h]
    rw [if_neg c0]
    simp [h]
    rfl
end Go.Proofs.Ytnhejdelcopphaa.Q
end
section
/- Lemmas on what the printed functions compute (msgs); no condition. -/
namespace Go.Proofs.Ytnhejdelcopphaa.Q
open Go.RowKit Go.Proofs.YtnhejdelcopphaaW.PrintWords Go.Proofs.YtnhejdelcopphaaW.PrintLast Go.Proofs.YtnhejdelcopphaaW.PrintMore
set_option linter.unusedVariables false
set_option linter.unusedSimpArgs false

abbrev LF := S85
abbrev IF := S71

theorem rdL_nat (l : List LF) (n : Nat) (h : n < l.length) : rd_T85 l (n : Int) = l[n] := by
  unfold rd_T85
  simp [List.getD, h]

theorem rdF_nat (l : List IF) (n : Nat) (h : n < l.length) : rd_T71 l (n : Int) = l[n] := by
  unfold rd_T71
  simp [List.getD, h]

theorem dropL (l : List LF) (n : Nat) (h : n < l.length) : l.drop n = rd_T85 l (n : Int) :: l.drop (n + 1) := by
  rw [List.drop_eq_getElem_cons h, rdL_nat l n h]

theorem dropF (l : List IF) (n : Nat) (h : n < l.length) : l.drop n = rd_T71 l (n : Int) :: l.drop (n + 1) := by
  rw [List.drop_eq_getElem_cons h, rdF_nat l n h]

theorem rdF_mem (l : List IF) (n : Nat) (h : n < l.length) : rd_T71 l (n : Int) ∈ l := by
  rw [rdF_nat l n h]
  exact List.getElem_mem h

theorem rdL_mem (l : List LF) (n : Nat) (h : n < l.length) : rd_T85 l (n : Int) ∈ l := by
  rw [rdL_nat l n h]
  exact List.getElem_mem h

theorem rdF_set_same (y : List IF) (n : Nat) (v : IF) (h : n < y.length) : rd_T71 (y.set n v) (n : Int) = v := by
  rw [rdF_nat _ _ (by simpa using h)]
  simp

theorem rdF_set_other (y : List IF) (n j : Nat) (v : IF) (h : j ≠ n) : rd_T71 (y.set n v) (j : Int) = rd_T71 y (j : Int) := by
  unfold rd_T71
  simp [List.getD, List.getElem?_set, Ne.symm h]

theorem intNat (n : Nat) : ((n : Int) : Int).toNat = n := by simp
theorem w64s {n : Nat} (h : n ≤ 140737488351232) : wrap64 ((n : Int) + 1) = ((n + 1 : Nat) : Int) := by unfold wrap64; omega
end Go.Proofs.Ytnhejdelcopphaa.Q
end
section
/- Lemmas on what the printed functions compute (kinds); no condition. -/
namespace Go.Proofs.Ytnhejdelcopphaa.Q
open Go.RowKit Go.Proofs.YtnhejdelcopphaaW.PrintWords Go.Proofs.YtnhejdelcopphaaW.PrintLast Go.Proofs.YtnhejdelcopphaaW.PrintMore
set_option linter.unusedVariables false
set_option linter.unusedSimpArgs false

def kindOf (x : Int) : Int := if x = 2 then 3 else if x = 3 ∨ x = 4 ∨ x = 7 ∨ x = 11 ∨ x = 14 ∨ x = 49 then 1 else if x = 37 ∨ x = 38 ∨ x = 39 ∨ x = 41 ∨ x = 95 then 2 else if x = 102 ∨ x = 103 then 4 else if x = 48 ∨ x = 54 then 5 else 0
def sizeOf_ (x : Int) : Int := if x = 2 then 19 else if x = 3 ∨ x = 11 ∨ x = 38 then 6 else if x = 4 ∨ x = 37 ∨ x = 95 then 12 else if x = 7 then 10 else if x = 14 then 4 else if x = 39 then 2 else if x = 41 then 8 else if x = 49 then 3 else if x = 102 ∨ x = 103 then 20 else if x = 48 ∨ x = 54 then 60 else 0

/-- Every number is one of the sixteen, or none of them. -/
theorem nos_cases (P : Int → Prop) (h2 : P 2) (h3 : P 3) (h4 : P 4) (h7 : P 7) (h11 : P 11) (h14 : P 14) (h37 : P 37) (h38 : P 38) (h39 : P 39) (h41 : P 41) (h48 : P 48) (h49 : P 49) (h54 : P 54) (h95 : P 95) (h102 : P 102) (h103 : P 103)
    (hno : ∀ x : Int, ¬ x = 2 → ¬ x = 3 → ¬ x = 4 → ¬ x = 7 → ¬ x = 11 → ¬ x = 14 → ¬ x = 37 → ¬ x = 38 → ¬ x = 39 → ¬ x = 41 → ¬ x = 48 → ¬ x = 49 → ¬ x = 54 → ¬ x = 95 → ¬ x = 102 → ¬ x = 103 → P x) (x : Int) : P x := by
  by_cases e2 : x = 2
  · subst e2; exact h2
  by_cases e3 : x = 3
  · subst e3; exact h3
  by_cases e4 : x = 4
  · subst e4; exact h4
  by_cases e7 : x = 7
  · subst e7; exact h7
  by_cases e11 : x = 11
  · subst e11; exact h11
  by_cases e14 : x = 14
  · subst e14; exact h14
  by_cases e37 : x = 37
  · subst e37; exact h37
  by_cases e38 : x = 38
  · subst e38; exact h38
  by_cases e39 : x = 39
  · subst e39; exact h39
  by_cases e41 : x = 41
  · subst e41; exact h41
  by_cases e48 : x = 48
  · subst e48; exact h48
  by_cases e49 : x = 49
  · subst e49; exact h49
  by_cases e54 : x = 54
  · subst e54; exact h54
  by_cases e95 : x = 95
  · subst e95; exact h95
  by_cases e102 : x = 102
  · subst e102; exact h102
  by_cases e103 : x = 103
  · subst e103; exact h103
  exact hno x e2 e3 e4 e7 e11 e14 e37 e38 e39 e41 e48 e49 e54 e95 e102 e103
end Go.Proofs.Ytnhejdelcopphaa.Q
end
section
/- Lemmas on what the printed functions compute (rowOf); no condition. -/
namespace Go.Proofs.Ytnhejdelcopphaa.Q
open Go.RowKit Go.Proofs.YtnhejdelcopphaaW.PrintWords Go.Proofs.YtnhejdelcopphaaW.PrintLast Go.Proofs.YtnhejdelcopphaaW.PrintMore
set_option linter.unusedVariables false
set_option linter.unusedSimpArgs false

theorem rowOf_none (x : Int) (l : List S79) (hl : l.length ≤ 1000) (h : ∀ r ∈ l, ¬ r.f0 = x) : ∀ (d n k : Nat), n + d = l.length → d < k →
    impl_rowOf.l0 k x l (l.length : Int) (n : Int) = some (0, 0, 0) := by
  intro d
  induction d with
  | zero =>
    intro n k hd hk
    obtain ⟨k, rfl⟩ : ∃ m, k = m + 1 := ⟨k - 1, by omega⟩
    have c1 : ¬ (n : Int) < (l.length : Int) := by omega
    simp only [impl_rowOf.l0, if_neg c1]
  | succ d ih =>
    intro n k hd hk
    obtain ⟨k, rfl⟩ : ∃ m, k = m + 1 := ⟨k - 1, by omega⟩
    have c1 : (n : Int) < (l.length : Int) := by omega
    have c2 : 0 ≤ (n : Int) := by omega
    have hn : n < l.length := by omega
    have c3 : ¬ (rd_T79 l (n : Int)).f0 = x := by
      have e : rd_T79 l (n : Int) = l[n] := by unfold rd_T79; simp [List.getD, hn]
      rw [e]
      exact h _ (List.getElem_mem hn)
    simp only [impl_rowOf.l0, if_pos c1, if_pos c2, if_neg c3, w64 c2 (by omega)]
    exact ih (n + 1) k (by omega) (by omega)

theorem rowOf_at (x : Int) (k : Nat) (hk : 20 ≤ k) : ∃ y, impl_rowOf.f k x = some (y, kindOf x, sizeOf_ x) := by
  have h : ∃ y, impl_rowOf.f 20 x = some (y, kindOf x, sizeOf_ x) := by
    refine nos_cases (fun x => ∃ y, impl_rowOf.f 20 x = some (y, kindOf x, sizeOf_ x)) ⟨2, by decide +kernel⟩ ⟨3, by decide +kernel⟩ ⟨4, by decide +kernel⟩ ⟨7, by decide +kernel⟩ ⟨11, by decide +kernel⟩ ⟨14, by decide +kernel⟩ ⟨37, by decide +kernel⟩ ⟨38, by decide +kernel⟩ ⟨39, by decide +kernel⟩ ⟨41, by decide +kernel⟩ ⟨48, by decide +kernel⟩ ⟨49, by decide +kernel⟩ ⟨54, by decide +kernel⟩ ⟨95, by decide +kernel⟩ ⟨102, by decide +kernel⟩ ⟨103, by decide +kernel⟩ ?_ x
    intro x e2 e3 e4 e7 e11 e14 e37 e38 e39 e41 e48 e49 e54 e95 e102 e103
    refine ⟨0, ?_⟩
    have hk : kindOf x = 0 := by unfold kindOf; simp [*]
    have hs : sizeOf_ x = 0 := by unfold sizeOf_; simp [*]
    rw [hk, hs]
    obtain ⟨l, hl, hn⟩ : ∃ l, impl_fieldRows.f = some l ∧ l.length = 16 ∧ ∀ r ∈ l, ¬ r.f0 = x := by
      refine ⟨_, rfl, rfl, ?_⟩
      intro r hr
      simp only [List.mem_cons, List.not_mem_nil, or_false] at hr
      rcases hr with rfl | rfl | rfl | rfl | rfl | rfl | rfl | rfl | rfl | rfl | rfl | rfl | rfl | rfl | rfl | rfl <;> (intro h; first | exact e2 h.symm | exact e3 h.symm | exact e4 h.symm | exact e7 h.symm | exact e11 h.symm | exact e14 h.symm | exact e37 h.symm | exact e38 h.symm | exact e39 h.symm | exact e41 h.symm | exact e48 h.symm | exact e49 h.symm | exact e54 h.symm | exact e95 h.symm | exact e102 h.symm | exact e103 h.symm)
    unfold impl_rowOf.f
    rw [hl]
    exact rowOf_none x l (by omega) hn.2 16 0 20 (by omega) (by omega)
  obtain ⟨y, h⟩ := h
  exact ⟨y, later (g := fun k => impl_rowOf.f k x) (fun k => impl_rowOf.mono x k) h k hk⟩
end Go.Proofs.Ytnhejdelcopphaa.Q
end
section
/- Lemmas on what the printed functions compute (specKind); no condition. -/
namespace Go.Proofs.Ytnhejdelcopphaa.Q
open Go.RowKit Go.Proofs.YtnhejdelcopphaaW.PrintWords Go.Proofs.YtnhejdelcopphaaW.PrintLast Go.Proofs.YtnhejdelcopphaaW.PrintMore
set_option linter.unusedVariables false
set_option linter.unusedSimpArgs false

theorem spec_FieldKind_at (x : Int) (k : Nat) (hk : 20 ≤ k) : spec_FieldKind.f k x = some (kindOf x) := by
  refine later (g := fun k => spec_FieldKind.f k x) (fun k => spec_FieldKind.mono x k) ?_ k hk
  show spec_FieldKind.f 20 x = some (kindOf x)
  refine nos_cases (fun x => spec_FieldKind.f 20 x = some (kindOf x)) (by decide +kernel) (by decide +kernel) (by decide +kernel) (by decide +kernel) (by decide +kernel) (by decide +kernel) (by decide +kernel) (by decide +kernel) (by decide +kernel) (by decide +kernel) (by decide +kernel) (by decide +kernel) (by decide +kernel) (by decide +kernel) (by decide +kernel) (by decide +kernel) ?_ x
  intro x e2 e3 e4 e7 e11 e14 e37 e38 e39 e41 e48 e49 e54 e95 e102 e103
  unfold kindOf
  simp [spec_FieldKind.f, spec_FieldKind.j0, spec_FieldKind.j1, spec_FieldKind.j2, *]
end Go.Proofs.Ytnhejdelcopphaa.Q
end
section
/- Lemmas on what the printed functions compute (specSize); no condition. -/
namespace Go.Proofs.Ytnhejdelcopphaa.Q
open Go.RowKit Go.Proofs.YtnhejdelcopphaaW.PrintWords Go.Proofs.YtnhejdelcopphaaW.PrintLast Go.Proofs.YtnhejdelcopphaaW.PrintMore
set_option linter.unusedVariables false
set_option linter.unusedSimpArgs false

theorem spec_FieldSize_at (x : Int) (k : Nat) (hk : 20 ≤ k) : spec_FieldSize.f k x = some (sizeOf_ x) := by
  refine later (g := fun k => spec_FieldSize.f k x) (fun k => spec_FieldSize.mono x k) ?_ k hk
  show spec_FieldSize.f 20 x = some (sizeOf_ x)
  refine nos_cases (fun x => spec_FieldSize.f 20 x = some (sizeOf_ x)) (by decide +kernel) (by decide +kernel) (by decide +kernel) (by decide +kernel) (by decide +kernel) (by decide +kernel) (by decide +kernel) (by decide +kernel) (by decide +kernel) (by decide +kernel) (by decide +kernel) (by decide +kernel) (by decide +kernel) (by decide +kernel) (by decide +kernel) (by decide +kernel) ?_ x
  intro x e2 e3 e4 e7 e11 e14 e37 e38 e39 e41 e48 e49 e54 e95 e102 e103
  unfold sizeOf_
  simp [spec_FieldSize.f, spec_FieldSize.j0, spec_FieldSize.j1, spec_FieldSize.j2, *]
end Go.Proofs.Ytnhejdelcopphaa.Q
end
section
/- Lemmas on what the printed functions compute (printable); no condition. -/
namespace Go.Proofs.Ytnhejdelcopphaa.Q
open Go.RowKit Go.Proofs.YtnhejdelcopphaaW.PrintWords Go.Proofs.YtnhejdelcopphaaW.PrintLast Go.Proofs.YtnhejdelcopphaaW.PrintMore
set_option linter.unusedVariables false
set_option linter.unusedSimpArgs false

def isPri (c : Int) : Bool := decide (32 ≤ c) && decide (c ≤ 126)

theorem spec_Printable_l (s : ByteArray) (hs : s.size ≤ 140737488351232) : ∀ (d n k : Nat), n + d = s.size → d < k →
    spec_Printable.l0 k s (n : Int) = some (((bytesOf s).drop n).all isPri) := by
  intro d
  induction d with
  | zero =>
    intro n k hd hk
    obtain ⟨k, rfl⟩ : ∃ m, k = m + 1 := ⟨k - 1, by omega⟩
    simp only [spec_Printable.l0]
    rw [if_neg (by omega), List.drop_of_length_le (by rw [bytesOf_length]; omega)]
    simp
  | succ d ih =>
    intro n k hd hk
    obtain ⟨k, rfl⟩ : ∃ m, k = m + 1 := ⟨k - 1, by omega⟩
    simp only [spec_Printable.l0]
    rw [if_pos (by omega), if_pos (by omega), drop_bt s n (by omega), List.all_cons]
    by_cases h1 : bt s (n : Int) < 32
    · rw [if_pos h1]
      have e : isPri (bt s (n : Int)) = false := by unfold isPri; simp; omega
      rw [e]; simp
    · rw [if_neg h1]
      by_cases h2 : bt s (n : Int) > 126
      · rw [if_pos h2]
        have e : isPri (bt s (n : Int)) = false := by unfold isPri; simp; omega
        rw [e]; simp
      · rw [if_neg h2, w64 (by omega) (by omega)]
        have e : isPri (bt s (n : Int)) = true := by unfold isPri; simp; omega
        rw [e, Bool.true_and]
        exact ih (n + 1) k (by omega) (by omega)

theorem spec_Printable_at (s : ByteArray) (hs : s.size ≤ 140737488351232) (k : Nat) (hk : s.size < k) : spec_Printable.f k s = some ((bytesOf s).all isPri) := by
  unfold spec_Printable.f
  have h := spec_Printable_l s hs s.size 0 k (by omega) hk
  simpa using h

theorem impl_Printable_l (s : ByteArray) (hs : s.size ≤ 140737488351232) : ∀ (d n k : Nat), n + d = s.size → d < k →
    impl_Printable.l0 k s (s.size : Int) (n : Int) = some (((bytesOf s).drop n).all isPri) := by
  intro d
  induction d with
  | zero =>
    intro n k hd hk
    obtain ⟨k, rfl⟩ : ∃ m, k = m + 1 := ⟨k - 1, by omega⟩
    simp only [impl_Printable.l0]
    rw [if_neg (by omega), List.drop_of_length_le (by rw [bytesOf_length]; omega)]
    simp
  | succ d ih =>
    intro n k hd hk
    obtain ⟨k, rfl⟩ : ∃ m, k = m + 1 := ⟨k - 1, by omega⟩
    simp only [impl_Printable.l0]
    rw [if_pos (by omega), if_pos (by omega), if_pos (by omega), drop_bt s n (by omega), List.all_cons]
    by_cases h1 : bt s (n : Int) < 32
    · rw [if_pos h1]
      have e : isPri (bt s (n : Int)) = false := by unfold isPri; simp; omega
      rw [e]; simp
    · rw [if_neg h1]
      by_cases h2 : bt s (n : Int) > 126
      · rw [if_pos h2]
        have e : isPri (bt s (n : Int)) = false := by unfold isPri; simp; omega
        rw [e]; simp
      · rw [if_neg h2, w64 (by omega) (by omega)]
        have e : isPri (bt s (n : Int)) = true := by unfold isPri; simp; omega
        rw [e, Bool.true_and]
        exact ih (n + 1) k (by omega) (by omega)

theorem impl_Printable_at (s : ByteArray) (hs : s.size ≤ 140737488351232) (k : Nat) (hk : s.size < k) : impl_Printable.f k s = some ((bytesOf s).all isPri) := by
  unfold impl_Printable.f
  have h := impl_Printable_l s hs s.size 0 k (by omega) hk
  simpa using h
end Go.Proofs.Ytnhejdelcopphaa.Q
end
section
/- Lemmas on what the printed functions compute (bcdPure); no condition. -/
namespace Go.Proofs.Ytnhejdelcopphaa.Q
open Go.RowKit Go.Proofs.YtnhejdelcopphaaW.PrintWords Go.Proofs.YtnhejdelcopphaaW.PrintLast Go.Proofs.YtnhejdelcopphaaW.PrintMore
set_option linter.unusedVariables false
set_option linter.unusedSimpArgs false

/-- Two and two digits in one byte. -/
def bcd : List Int → List Int
  | a :: b :: t => ((a - 48) * 16 + (b - 48)) :: bcd t
  | _ => []
def evened (l : List Int) : List Int := if l.length % 2 = 1 then 48 :: l else l
def putBcd (l : List Int) : List Int × Bool := if digs l && decide (l.length ≤ 38) then (bcd (evened l), true) else ([], false)

theorem bcd_length : ∀ (n : Nat) (l : List Int), l.length = 2 * n → (bcd l).length = n
  | 0, l, h => by
    have : l = [] := List.length_eq_zero_iff.1 (by omega)
    rw [this]; rfl
  | n + 1, a :: b :: t, h => by
    simp only [bcd, List.length_cons]
    rw [bcd_length n t (by simp at h; omega)]
  | n + 1, [a], h => by simp at h; omega
  | n + 1, [], h => by simp at h

theorem evened_length (l : List Int) : (evened l).length = 2 * ((l.length + 1) / 2) := by
  unfold evened
  split
  · simp; omega
  · omega

theorem evened_all (l : List Int) (h : l.all isDig = true) : (evened l).all isDig = true := by
  unfold evened
  split
  · simp only [List.all_cons, h, Bool.and_true]; decide
  · exact h

theorem dig_range' {c : Int} (h : isDig c = true) : 48 ≤ c ∧ c ≤ 57 := by
  unfold isDig at h
  simpa using h

theorem all_rd' (l : List Int) (p : Int → Bool) (h : l.all p = true) (n : Nat) (hn : n < l.length) : p (rd l (n : Int)) = true := by
  rw [List.all_eq_true] at h
  exact h _ (rd_mem l n hn)

theorem drop_two (l : List Int) (n : Nat) (h : n + 1 < l.length) : l.drop n = rd l (n : Int) :: rd l ((n + 1 : Nat) : Int) :: l.drop (n + 2) := by
  rw [drop_rd l n (by omega), drop_rd l (n + 1) (by omega)]

theorem digs_and (l : List Int) (h : digs l = true) : l.all isDig = true ∧ 0 < l.length := by
  unfold digs at h
  cases l with
  | nil => simp at h
  | cons a t => simpa using h
end Go.Proofs.Ytnhejdelcopphaa.Q
end
section
/- Lemmas on what the printed functions compute (fieldOk); no condition. -/
namespace Go.Proofs.Ytnhejdelcopphaa.Q
open Go.RowKit Go.Proofs.YtnhejdelcopphaaW.PrintWords Go.Proofs.YtnhejdelcopphaaW.PrintLast Go.Proofs.YtnhejdelcopphaaW.PrintMore
set_option linter.unusedVariables false
set_option linter.unusedSimpArgs false

/-- Whether a text is a content of a field. -/
def fieldOk (x : Int) (l : List Int) : Bool :=
  if kindOf x = 1 then digs l && ((l.length : Int) == sizeOf_ x)
  else if kindOf x = 2 then l.all isPri && ((l.length : Int) == sizeOf_ x)
  else if kindOf x = 3 then digs l && decide ((l.length : Int) ≤ sizeOf_ x)
  else if kindOf x = 4 ∨ kindOf x = 5 then l.all isPri && decide (1 ≤ (l.length : Int) ∧ (l.length : Int) ≤ sizeOf_ x)
  else false

theorem kind_range (x : Int) : 0 ≤ kindOf x ∧ kindOf x ≤ 5 := by
  unfold kindOf
  repeat' split
  all_goals omega

theorem spec_FieldOk_at (x : Int) (s : ByteArray) (hs : s.size ≤ 140737488351232) (k : Nat) (hk : s.size + 22 < k) : spec_FieldOk.f k x s = some (fieldOk x (bytesOf s)) := by
  unfold spec_FieldOk.f fieldOk
  rw [spec_FieldSize_at x k (by omega), spec_FieldKind_at x k (by omega)]
  simp only [Option.bind_some]
  obtain ⟨r0, r1⟩ := kind_range x
  rw [bytesOf_length]
  generalize kindOf x = t at r0 r1
  by_cases h1 : t = 1
  · rw [if_pos h1, if_pos h1, spec_Digits_at s hs k (by omega), Option.bind_some]
    cases digs (bytesOf s) <;> simp
  by_cases h2 : t = 2
  · rw [if_neg h1, if_neg h1, if_pos h2, if_pos h2, spec_Printable_at s hs k (by omega), Option.bind_some]
    cases (bytesOf s).all isPri <;> simp
  by_cases h3 : t = 3
  · rw [if_neg h1, if_neg h1, if_neg h2, if_neg h2, if_pos h3, if_pos h3, spec_Digits_at s hs k (by omega), Option.bind_some]
    cases digs (bytesOf s) <;> simp
  rw [if_neg h1, if_neg h1, if_neg h2, if_neg h2, if_neg h3, if_neg h3]
  obtain ⟨k, rfl⟩ : ∃ m, k = m + 1 := ⟨k - 1, by omega⟩
  have hp := spec_Printable_at s hs k (by omega)
  have hin : spec_l01In.f (s.size : Int) 1 (sizeOf_ x) = some (decide (1 ≤ (s.size : Int) ∧ (s.size : Int) ≤ sizeOf_ x)) := by
    unfold spec_l01In.f
    by_cases h : (s.size : Int) ≥ 1
    · have h' : 1 ≤ (s.size : Int) := h
      rw [if_pos h]; simp only [h', true_and]
    · have h' : ¬ 1 ≤ (s.size : Int) := h
      rw [if_neg h]; simp only [h', false_and, decide_false]
  by_cases h4 : t = 4 ∨ t = 5
  · rw [if_pos h4]
    have e : (if t = 4 then spec_FieldOk.j0 (k + 1) s (sizeOf_ x) (t == 4) else spec_FieldOk.j0 (k + 1) s (sizeOf_ x) (t == 5)) = spec_FieldOk.j0 (k + 1) s (sizeOf_ x) true := by
      rcases h4 with h | h
      · rw [if_pos h, h]; rfl
      · rw [if_neg (by omega), h]; rfl
    rw [e, spec_FieldOk.j0, if_pos rfl, hp, Option.bind_some, hin]
    cases (bytesOf s).all isPri <;> simp
  · rw [if_neg h4]
    have e : (if t = 4 then spec_FieldOk.j0 (k + 1) s (sizeOf_ x) (t == 4) else spec_FieldOk.j0 (k + 1) s (sizeOf_ x) (t == 5)) = spec_FieldOk.j0 (k + 1) s (sizeOf_ x) false := by
      have h5 : ¬ t = 5 := fun h => h4 (Or.inr h)
      rw [if_neg (fun h => h4 (Or.inl h)), show (t == 5) = false from by simpa using h5]
    rw [e, spec_FieldOk.j0, if_neg (by simp)]

theorem impl_FieldOk_at (x : Int) (s : ByteArray) (hs : s.size ≤ 140737488351232) (k : Nat) (hk : s.size + 22 < k) : impl_FieldOk.f k x s = some (fieldOk x (bytesOf s)) := by
  unfold impl_FieldOk.f fieldOk
  obtain ⟨y, hy⟩ := rowOf_at x k (by omega)
  rw [hy, Option.bind_some]
  simp only
  obtain ⟨r0, r1⟩ := kind_range x
  have hl := bytesOf_length s
  rw [hl]
  generalize kindOf x = t at r0 r1
  have hin : impl_within.f (s.size : Int) 1 (sizeOf_ x) = some (decide (1 ≤ (s.size : Int) ∧ (s.size : Int) ≤ sizeOf_ x)) := by
    unfold impl_within.f
    by_cases h : 1 ≤ (s.size : Int)
    · rw [if_pos h]; simp only [h, true_and]
    · rw [if_neg h]; simp only [h, false_and, decide_false]
  by_cases h1 : t = 1
  · rw [if_pos h1, if_pos h1, impl_Digits_at s hs k (by omega), Option.bind_some]
    cases digs (bytesOf s) <;> simp
  by_cases h2 : t = 2
  · rw [if_neg h1, if_neg h1, if_pos h2, if_pos h2, impl_Printable_at s hs k (by omega), Option.bind_some]
    cases (bytesOf s).all isPri <;> simp
  by_cases h3 : t = 3
  · rw [if_neg h1, if_neg h1, if_neg h2, if_neg h2, if_pos h3, if_pos h3, impl_Digits_at s hs k (by omega), Option.bind_some, hin]
    by_cases hg : digs (bytesOf s) = true
    · have := (digs_and _ hg).2
      rw [hl] at this
      have h' : 1 ≤ (s.size : Int) := by omega
      rw [if_pos hg, hg]
      simp only [h', true_and, Option.bind_some, Bool.true_and]
    · rw [if_neg hg]
      simp [hg]
  rw [if_neg h1, if_neg h1, if_neg h2, if_neg h2, if_neg h3, if_neg h3]
  obtain ⟨k, rfl⟩ : ∃ m, k = m + 1 := ⟨k - 1, by omega⟩
  have hp := impl_Printable_at s hs k (by omega)
  by_cases h4 : t = 4 ∨ t = 5
  · rw [if_pos h4]
    have e : (if t = 4 then impl_FieldOk.j0 (k + 1) s (t == 4) y t (sizeOf_ x) else impl_FieldOk.j0 (k + 1) s (t == 5) y t (sizeOf_ x)) = impl_FieldOk.j0 (k + 1) s true y t (sizeOf_ x) := by
      rcases h4 with h | h
      · rw [if_pos h, h]; rfl
      · rw [if_neg (by omega), h]; rfl
    rw [e, impl_FieldOk.j0, if_pos rfl, hp, Option.bind_some, hin]
    cases (bytesOf s).all isPri <;> simp
  · rw [if_neg h4]
    have e : (if t = 4 then impl_FieldOk.j0 (k + 1) s (t == 4) y t (sizeOf_ x) else impl_FieldOk.j0 (k + 1) s (t == 5) y t (sizeOf_ x)) = impl_FieldOk.j0 (k + 1) s false y t (sizeOf_ x) := by
      have h5 : ¬ t = 5 := fun h => h4 (Or.inr h)
      rw [if_neg (fun h => h4 (Or.inl h)), show (t == 5) = false from by simpa using h5]
    rw [e, impl_FieldOk.j0, if_neg (by simp)]
end Go.Proofs.Ytnhejdelcopphaa.Q
end
section
/- Lemmas on what the printed functions compute (msgOk); no condition. -/
namespace Go.Proofs.Ytnhejdelcopphaa.Q
open Go.RowKit Go.Proofs.YtnhejdelcopphaaW.PrintWords Go.Proofs.YtnhejdelcopphaaW.PrintLast Go.Proofs.YtnhejdelcopphaaW.PrintMore
set_option linter.unusedVariables false
set_option linter.unusedSimpArgs false

/-- The contents are right and the numbers grow. -/
def okFrom : Option Int → List IF → Bool
  | _, [] => true
  | p, f :: t => fieldOk f.f0 (bytesOf f.f1) && (match p with | none => true | some q => decide (q < f.f0)) && okFrom (some f.f0) t

theorem okFrom_cons (p : Option Int) (f : IF) (t : List IF) : okFrom p (f :: t) = (fieldOk f.f0 (bytesOf f.f1) && (match p with | none => true | some q => decide (q < f.f0)) && okFrom (some f.f0) t) := by
  cases p <;> rfl

def isMti (m : ByteArray) : Bool := digs (bytesOf m) && decide (m.size = 4)
def msgOk (m : ByteArray) (l : List IF) : Bool := isMti m && okFrom none l

def prevOf (l : List IF) (n : Nat) : Option Int := if n = 0 then none else some (rd_T71 l (((n - 1 : Nat)) : Int)).f0

theorem spec_MsgOk_l (m : ByteArray) (l : List IF) (hl : l.length ≤ 10000000) (B : Nat) (hB : B ≤ 10000000) (hw : ∀ f ∈ l, f.f1.size ≤ B) : ∀ (d n k : Nat), n + d = l.length → d + B + 30 < k →
    spec_MsgOk.l0 k l (l.length : Int) (n : Int) m l = some (okFrom (prevOf l n) (l.drop n)) := by
  intro d
  induction d with
  | zero =>
    intro n k hd hk
    obtain ⟨k, rfl⟩ : ∃ m, k = m + 1 := ⟨k - 1, by omega⟩
    have c1 : ¬ (n : Int) < (l.length : Int) := by omega
    simp only [spec_MsgOk.l0, if_neg c1]
    rw [List.drop_of_length_le (by omega)]
    rfl
  | succ d ih =>
    intro n k hd hk
    obtain ⟨k, rfl⟩ : ∃ m, k = m + 1 := ⟨k - 1, by omega⟩
    have c1 : (n : Int) < (l.length : Int) := by omega
    have c2 : 0 ≤ (n : Int) := by omega
    have hs := hw _ (rdF_mem l n (by omega))
    have hp : prevOf l (n + 1) = some (rd_T71 l (n : Int)).f0 := by unfold prevOf; rw [if_neg (by omega)]; rfl
    have ih' := ih (n + 1) k (by omega) (by omega)
    rw [hp] at ih'
    rw [dropF l n (by omega), okFrom_cons]
    simp only [spec_MsgOk.l0, if_pos c1, if_pos c2, w64s (n := n) (by omega)]
    rw [spec_FieldOk_at _ _ (by omega) k (by omega), Option.bind_some]
    by_cases h : fieldOk (rd_T71 l (n : Int)).f0 (bytesOf (rd_T71 l (n : Int)).f1) = true
    · rw [if_pos h, h, Bool.true_and]
      by_cases h0 : n = 0
      · have hpn : prevOf l n = none := by unfold prevOf; rw [if_pos h0]
        rw [if_neg (by omega), hpn, ih', Bool.true_and]
      · have hpn : prevOf l n = some (rd_T71 l ((n - 1 : Nat) : Int)).f0 := by unfold prevOf; rw [if_neg h0]
        have e : wrap64 ((n : Int) - 1) = ((n - 1 : Nat) : Int) := by rw [w64id (by omega) (by omega)]; omega
        rw [if_pos (by omega), e, if_pos (by omega), if_pos (by omega), hpn, ih']
        generalize (rd_T71 l (n : Int)).f0 = u
        generalize (rd_T71 l ((n - 1 : Nat) : Int)).f0 = v
        by_cases g : v ≥ u
        · rw [if_pos g]
          have : decide (v < u) = false := decide_eq_false (by omega)
          simp only [this, Bool.false_and]
        · rw [if_neg g]
          have : decide (v < u) = true := decide_eq_true (by omega)
          simp only [this, Bool.true_and]
    · rw [if_neg h]
      simp [h]

theorem impl_MsgOk_l (m : ByteArray) (hm : m.size ≤ 10000000) (l : List IF) (hl : l.length ≤ 10000000) (B : Nat) (hB : B ≤ 10000000) (hw : ∀ f ∈ l, f.f1.size ≤ B) : ∀ (d n k : Nat), n + d = l.length → d + B + m.size + 30 < k →
    impl_MsgOk.l0 k l (l.length : Int) (n : Int) m l = some (okFrom (prevOf l n) (l.drop n) && isMti m) := by
  intro d
  induction d with
  | zero =>
    intro n k hd hk
    obtain ⟨k, rfl⟩ : ∃ m, k = m + 1 := ⟨k - 1, by omega⟩
    have c1 : ¬ (n : Int) < (l.length : Int) := by omega
    simp only [impl_MsgOk.l0, if_neg c1]
    rw [List.drop_of_length_le (by omega)]
    unfold impl_isWide.f isMti
    rw [impl_Digits_at m (by omega) k (by omega), Option.bind_some]
    have e : ((m.size : Int) == 4) = decide (m.size = 4) := by
      by_cases h : m.size = 4
      · rw [h]; rfl
      · have h' : ¬ (m.size : Int) = 4 := by omega
        rw [decide_eq_false h]
        simpa using h'
    rw [e]
    cases digs (bytesOf m) <;> simp [okFrom]
  | succ d ih =>
    intro n k hd hk
    obtain ⟨k, rfl⟩ : ∃ m, k = m + 1 := ⟨k - 1, by omega⟩
    have c1 : (n : Int) < (l.length : Int) := by omega
    have c2 : 0 ≤ (n : Int) := by omega
    have hs := hw _ (rdF_mem l n (by omega))
    have hp : prevOf l (n + 1) = some (rd_T71 l (n : Int)).f0 := by unfold prevOf; rw [if_neg (by omega)]; rfl
    have ih' := ih (n + 1) k (by omega) (by omega)
    rw [hp] at ih'
    rw [dropF l n (by omega), okFrom_cons]
    simp only [impl_MsgOk.l0, if_pos c1, if_pos c2, w64s (n := n) (by omega)]
    rw [impl_FieldOk_at _ _ (by omega) k (by omega), Option.bind_some]
    by_cases h : fieldOk (rd_T71 l (n : Int)).f0 (bytesOf (rd_T71 l (n : Int)).f1) = true
    · rw [if_pos h, h, Bool.true_and]
      by_cases h0 : n = 0
      · have hpn : prevOf l n = none := by unfold prevOf; rw [if_pos h0]
        rw [if_neg (by omega), hpn, ih', Bool.true_and]
      · have hpn : prevOf l n = some (rd_T71 l ((n - 1 : Nat) : Int)).f0 := by unfold prevOf; rw [if_neg h0]
        have e : wrap64 ((n : Int) - 1) = ((n - 1 : Nat) : Int) := by rw [w64id (by omega) (by omega)]; omega
        rw [if_pos (by omega), e, if_pos (by omega), if_pos (by omega), hpn, ih']
        generalize (rd_T71 l (n : Int)).f0 = u
        generalize (rd_T71 l ((n - 1 : Nat) : Int)).f0 = v
        by_cases g : u ≤ v
        · rw [if_pos g]
          have : decide (v < u) = false := decide_eq_false (by omega)
          simp only [this, Bool.false_and]
        · rw [if_neg g]
          have : decide (v < u) = true := decide_eq_true (by omega)
          simp only [this, Bool.true_and]
    · rw [if_neg h]
      simp [h]

theorem spec_MsgOk_at (m : ByteArray) (l : List IF) (hm : m.size ≤ 10000000) (hl : l.length ≤ 10000000) (B : Nat) (hB : B ≤ 10000000) (hw : ∀ f ∈ l, f.f1.size ≤ B) (k : Nat) (hk : l.length + B + m.size + 40 < k) : spec_MsgOk.f k m l = some (msgOk m l) := by
  obtain ⟨k, rfl⟩ : ∃ m, k = m + 1 := ⟨k - 1, by omega⟩
  unfold spec_MsgOk.f msgOk isMti
  rw [spec_Digits_at m (by omega) _ (by omega), Option.bind_some]
  by_cases h : digs (bytesOf m) = true
  · rw [if_pos h, h, Bool.true_and, spec_MsgOk.j0]
    by_cases h4 : m.size = 4
    · have e : ((m.size : Int) != 4) = false := by rw [h4]; rfl
      rw [e, decide_eq_true h4, Bool.true_and, if_neg (by simp)]
      exact spec_MsgOk_l m l hl B hB hw l.length 0 k (by omega) (by omega)
    · have e : ((m.size : Int) != 4) = true := by simp; omega
      rw [e, decide_eq_false h4, Bool.false_and, if_pos rfl]
  · rw [if_neg h, spec_MsgOk.j0, if_pos rfl]
    simp [h]

theorem impl_MsgOk_at (m : ByteArray) (l : List IF) (hm : m.size ≤ 10000000) (hl : l.length ≤ 10000000) (B : Nat) (hB : B ≤ 10000000) (hw : ∀ f ∈ l, f.f1.size ≤ B) (k : Nat) (hk : l.length + B + m.size + 40 < k) : impl_MsgOk.f k m l = some (msgOk m l) := by
  unfold impl_MsgOk.f
  have h := impl_MsgOk_l m hm l hl B hB hw l.length 0 k (by omega) (by omega)
  unfold msgOk
  rw [Bool.and_comm]
  exact h
end Go.Proofs.Ytnhejdelcopphaa.Q
end
section
/- Lemmas on what the printed functions compute (bare); no condition. -/
namespace Go.Proofs.Ytnhejdelcopphaa.Q
open Go.RowKit Go.Proofs.YtnhejdelcopphaaW.PrintWords Go.Proofs.YtnhejdelcopphaaW.PrintLast Go.Proofs.YtnhejdelcopphaaW.PrintMore
set_option linter.unusedVariables false
set_option linter.unusedSimpArgs false

theorem replyL_short (l : List Int) : (replyL l).length ≤ 4 := by
  unfold replyL
  split
  · rename_i h
    simp only [Bool.and_eq_true, decide_eq_true_eq] at h
    simp
    omega
  · simp

theorem rsText_at (c : Int) : ∃ t, spec_RsText.f c = some t ∧ impl_RsText.f c = some t ∧ t.size ≤ 10 := by
  obtain ⟨l, hl, hi, hn, hs⟩ : ∃ l, spec_l05Texts.f = some l ∧ impl_rsTexts.f = some l ∧ l.length = 11 ∧ ∀ t ∈ l, t.size ≤ 10 := ⟨_, rfl, rfl, rfl, by decide +kernel⟩
  have w : wrap64 (((11 : Nat) : Int) - 1) = 10 := by unfold wrap64; omega
  unfold spec_RsText.f impl_RsText.f
  rw [hl, hi]
  simp only [Option.bind_some, hn, w]
  unfold impl_within.f spec_l01In.f
  by_cases h : 0 ≤ c
  · have h' : c ≥ 0 := h
    simp only [if_pos h, if_pos h', Option.bind_some]
    by_cases h2 : c ≤ 10
    · have h3 : c < 11 := by omega
      refine ⟨rdOf ByteArray.empty l c, by simp [h2, h3], by simp [h2, h3], ?_⟩
      have e : rdOf ByteArray.empty l c = l[c.toNat]'(by omega) := by
        unfold rdOf
        simp [List.getD, (by omega : c.toNat < l.length)]
      rw [e]
      exact hs _ (List.getElem_mem _)
    · exact ⟨⟨#[]⟩, by simp [h2], by simp [h2], by decide⟩
  · have h' : ¬ c ≥ 0 := h
    simp only [if_neg h, if_neg h', Option.bind_some]
    exact ⟨⟨#[]⟩, by simp, by simp, by decide⟩

theorem bare_at (s : ByteArray) (hs : s.size ≤ 10000000) (c : Int) : ∃ r : ByteArray × List IF × Bool, r.2.1.length ≤ 1 ∧ ∀ k, s.size + 100 ≤ k → spec_Bare.f k s c = some r ∧ impl_Bare.f k s c = some r := by
  obtain ⟨t, t1, t2, t3⟩ := rsText_at c
  have hz := replyL_short (bytesOf s)
  have g1 := spec_ReplyMti_at s hs
  have g2 := impl_ReplyMti_at s hs
  have hz2 : (strOfNums (replyL (bytesOf s))).size ≤ 4 := by rw [strOfNums_size]; exact hz
  generalize strOfNums (replyL (bytesOf s)) = m at g1 g2 hz2
  have hw : ∀ f ∈ [(⟨39, t⟩ : IF)], f.f1.size ≤ 10 := by
    intro f hf
    obtain rfl := List.mem_singleton.1 hf
    exact t3
  have g3 := spec_MsgOk_at m [⟨39, t⟩] (by omega) (by simp) 10 (by omega) hw
  have g4 := impl_MsgOk_at m [⟨39, t⟩] (by omega) (by simp) 10 (by omega) hw
  have h1 : ([(⟨39, t⟩ : IF)]).length = 1 := rfl
  refine ⟨if msgOk m [⟨39, t⟩] = true then (m, [⟨39, t⟩], true) else (⟨#[]⟩, [], false), ?_, fun k hk => ⟨?_, ?_⟩⟩
  · split <;> simp
  · unfold spec_Bare.f
    rw [g1 k (by omega), Option.bind_some, t1, Option.bind_some, Option.bind_some, g3 k (by omega), Option.bind_some]
    split <;> rfl
  · unfold impl_Bare.f
    rw [g2 k (by omega), Option.bind_some, t2, Option.bind_some, Option.bind_some, g4 k (by omega), Option.bind_some]
    split <;> rfl
end Go.Proofs.Ytnhejdelcopphaa.Q
end
section
/- Lemmas on what the printed functions compute (msgEq); no condition. -/
namespace Go.Proofs.Ytnhejdelcopphaa.Q
open Go.RowKit Go.Proofs.YtnhejdelcopphaaW.PrintWords Go.Proofs.YtnhejdelcopphaaW.PrintLast Go.Proofs.YtnhejdelcopphaaW.PrintMore
set_option linter.unusedVariables false
set_option linter.unusedSimpArgs false

theorem eqFieldS_l (l : List IF) (hl : l.length ≤ 10000000) : ∀ (d n k : Nat), n + d = l.length → d < k → laws_eqFieldS.l0 k l l (n : Int) = some true := by
  intro d
  induction d with
  | zero =>
    intro n k hd hk
    obtain ⟨k, rfl⟩ : ∃ m, k = m + 1 := ⟨k - 1, by omega⟩
    have c1 : ¬ (n : Int) < (l.length : Int) := by omega
    simp only [laws_eqFieldS.l0, if_neg c1]
  | succ d ih =>
    intro n k hd hk
    obtain ⟨k, rfl⟩ : ∃ m, k = m + 1 := ⟨k - 1, by omega⟩
    have c1 : (n : Int) < (l.length : Int) := by omega
    have c2 : 0 ≤ (n : Int) := by omega
    simp only [laws_eqFieldS.l0, if_pos c1, if_pos c2, w64s (n := n) (by omega), laws_eqField.f, if_true, Option.bind_some]
    exact ih (n + 1) k (by omega) (by omega)

theorem eqMsg_self (m : ByteArray) (l : List IF) (hl : l.length ≤ 10000000) (k : Nat) (hk : l.length < k) : laws_eqMsg.f k m l m l = some true := by
  unfold laws_eqMsg.f laws_eqFieldS.f
  have h : laws_eqFieldS.l0 k l l 0 = some true := eqFieldS_l l hl l.length 0 k (by omega) hk
  rw [if_pos rfl, if_pos rfl, h]
  rfl
end Go.Proofs.Ytnhejdelcopphaa.Q
end
section
/- Lemmas on what the printed functions compute (msgMark); no condition. -/
namespace Go.Proofs.Ytnhejdelcopphaa.Q
open Go.RowKit Go.Proofs.YtnhejdelcopphaaW.PrintWords Go.Proofs.YtnhejdelcopphaaW.PrintLast Go.Proofs.YtnhejdelcopphaaW.PrintMore
set_option linter.unusedVariables false
set_option linter.unusedSimpArgs false

theorem markText_l : ∀ (d k : Nat) (a : Int) (x : ByteArray), 0 ≤ a → a ≤ 1000000000 → a < 10 ^ d → x.size + d ≤ 1000 → d < k → ∃ t, laws_markText.l0 k a x = some t := by
  intro d
  induction d with
  | zero =>
    intro k a x h0 hg h1 hx hk
    obtain ⟨k, rfl⟩ : ∃ m, k = m + 1 := ⟨k - 1, by omega⟩
    have c1 : ¬ a > 0 := by simp at h1; omega
    have c2 : 1 + x.size ≤ 9223372036854775807 := by omega
    simp only [laws_markText.l0, if_neg c1, if_pos c2]
    exact ⟨_, rfl⟩
  | succ d ih =>
    intro k a x h0 hg h1 hx hk
    obtain ⟨k, rfl⟩ : ∃ m, k = m + 1 := ⟨k - 1, by omega⟩
    simp only [laws_markText.l0]
    by_cases c1 : a > 0
    · have hz : (strOfNums [wrap64 (48 + Int.tmod a 10) % 256]).size = 1 := by rw [strOfNums_size]; rfl
      rw [if_pos c1, Option.bind_some, if_pos (by omega)]
      have hq : 0 ≤ wrap64 (Int.tdiv a 10) ∧ wrap64 (Int.tdiv a 10) ≤ 1000000000 ∧ wrap64 (Int.tdiv a 10) < 10 ^ d := by
        rw [Int.tdiv_eq_ediv_of_nonneg h0]
        have hp : (10 : Int) ^ (d + 1) = 10 ^ d * 10 := Int.pow_succ 10 d
        rw [hp] at h1
        generalize (10 : Int) ^ d = p at h1
        rw [w64id (by omega) (by omega)]
        omega
      refine ih k _ _ hq.1 hq.2.1 hq.2.2 ?_ (by omega)
      rw [ByteArray.size_append, hz]
      omega
    · have c2 : 1 + x.size ≤ 9223372036854775807 := by omega
      rw [if_neg c1, if_pos c2]
      exact ⟨_, rfl⟩

def mtext (a : Int) : ByteArray := (laws_markText.f 30 a).getD ⟨#[]⟩

theorem markText_at (a : Int) (h1 : a ≤ 1000000000) (k : Nat) (hk : 30 ≤ k) : laws_markText.f k a = some (mtext a) := by
  have h : laws_markText.f 30 a = some (mtext a) := by
    unfold mtext
    by_cases h : a ≤ 0
    · unfold laws_markText.f
      rw [if_pos h]; rfl
    · obtain ⟨t, ht⟩ := markText_l 10 30 a ⟨#[]⟩ (by omega) (by omega) (by omega) (by decide) (by omega)
      have : laws_markText.f 30 a = some t := by
        unfold laws_markText.f
        rw [if_neg h]; exact ht
      rw [this]; rfl
  exact later (g := fun k => laws_markText.f k a) (fun k => laws_markText.mono a k) h k hk

def mfield (a : Int) : IF := ⟨a, mtext (a + 1)⟩

theorem markFieldS_l : ∀ (d n k : Nat) (y : List IF) (a : Int), n + d = y.length → y.length ≤ 10000000 → 0 ≤ a → a + 2 * d ≤ 900000000 → d + 30 ≤ k →
    ∃ y', laws_markFieldS.l0 k y a (n : Int) = some (a + 2 * d, y') ∧ y'.length = y.length ∧ (∀ j : Nat, j < n → rd_T71 y' (j : Int) = rd_T71 y (j : Int)) ∧ ∀ j : Nat, n ≤ j → j < y.length → rd_T71 y' (j : Int) = mfield (a + 2 * ((j : Int) - (n : Int))) := by
  intro d
  induction d with
  | zero =>
    intro n k y a hd hy ha hb hk
    obtain ⟨k, rfl⟩ : ∃ m, k = m + 1 := ⟨k - 1, by omega⟩
    have c1 : ¬ (n : Int) < (y.length : Int) := by omega
    simp only [laws_markFieldS.l0, if_neg c1]
    refine ⟨y, ?_, rfl, fun _ _ => rfl, fun j h1 h2 => by omega⟩
    simp
  | succ d ih =>
    intro n k y a hd hy ha hb hk
    obtain ⟨k, rfl⟩ : ∃ m, k = m + 1 := ⟨k - 1, by omega⟩
    have c1 : (n : Int) < (y.length : Int) := by omega
    have c2 : 0 ≤ (n : Int) := by omega
    have e1 : wrap64 (a + 1) = a + 1 := w64id (by omega) (by omega)
    have e2 : wrap64 (a + 1 + 1) = a + 2 := by rw [w64id (by omega) (by omega)]; omega
    simp only [laws_markFieldS.l0, if_pos c1, if_pos c2, intNat, Option.bind_some, e1, e2, w64s (n := n) (by omega), markText_at (a + 1) (by omega) k (by omega)]
    have hset : (y.set n ⟨a, (rd_T71 y (n : Int)).f1⟩).set n ⟨(rd_T71 (y.set n ⟨a, (rd_T71 y (n : Int)).f1⟩) (n : Int)).f0, mtext (a + 1)⟩ = y.set n (mfield a) := by
      rw [rdF_set_same _ _ _ (by omega), List.set_set]
      rfl
    rw [hset]
    obtain ⟨y', h1, h2, h3, h4⟩ := ih (n + 1) k (y.set n (mfield a)) (a + 2) (by simpa using (by omega : n + 1 + d = y.length)) (by simpa using hy) (by omega) (by omega) (by omega)
    refine ⟨y', ?_, by simpa using h2, fun j hj => ?_, fun j hj1 hj2 => ?_⟩
    · rw [h1, show a + 2 + 2 * (d : Int) = a + 2 * ((d + 1 : Nat) : Int) from by omega]
    · rw [h3 j (by omega), rdF_set_other _ _ _ _ (by omega)]
    · by_cases e : j = n
      · rw [e, h3 n (by omega), rdF_set_same _ _ _ (by omega)]
        have : a + 2 * ((n : Int) - (n : Int)) = a := by omega
        rw [this]
      · rw [h4 j (by omega) (by simpa using hj2)]
        have : a + 2 + 2 * ((j : Int) - ((n + 1 : Nat) : Int)) = a + 2 * ((j : Int) - (n : Int)) := by omega
        rw [this]

theorem heldFieldS_l : ∀ (d n k : Nat) (y : List IF) (a : Int), n + d = y.length → y.length ≤ 10000000 → 0 ≤ a → a + 2 * d ≤ 900000000 → d + 30 ≤ k → (∀ j : Nat, n ≤ j → j < y.length → rd_T71 y (j : Int) = mfield (a + 2 * ((j : Int) - (n : Int)))) →
    laws_heldFieldS.l0 k y a (n : Int) = some (a + 2 * d) := by
  intro d
  induction d with
  | zero =>
    intro n k y a hd hy ha hb hk hv
    obtain ⟨k, rfl⟩ : ∃ m, k = m + 1 := ⟨k - 1, by omega⟩
    have c1 : ¬ (n : Int) < (y.length : Int) := by omega
    simp only [laws_heldFieldS.l0, if_neg c1]
    simp
  | succ d ih =>
    intro n k y a hd hy ha hb hk hv
    obtain ⟨k, rfl⟩ : ∃ m, k = m + 1 := ⟨k - 1, by omega⟩
    have c1 : (n : Int) < (y.length : Int) := by omega
    have c2 : 0 ≤ (n : Int) := by omega
    have e1 : wrap64 (a + 1) = a + 1 := w64id (by omega) (by omega)
    have e2 : wrap64 (a + 1 + 1) = a + 2 := by rw [w64id (by omega) (by omega)]; omega
    have c3 : rd_T71 y (n : Int) = mfield a := by
      rw [hv n (by omega) (by omega)]
      have : a + 2 * ((n : Int) - (n : Int)) = a := by omega
      rw [this]
    simp only [laws_heldFieldS.l0, if_pos c1, if_pos c2, c3, mfield, if_true, e1, e2, w64s (n := n) (by omega), markText_at (a + 1) (by omega) k (by omega), Option.bind_some]
    rw [ih (n + 1) k y (a + 2) (by omega) hy (by omega) (by omega) (by omega) (fun j h1 h2 => ?_)]
    · rw [show a + 2 + 2 * (d : Int) = a + 2 * ((d + 1 : Nat) : Int) from by omega]
    · rw [hv j (by omega) h2]
      have : a + 2 + 2 * ((j : Int) - ((n + 1 : Nat) : Int)) = a + 2 * ((j : Int) - (n : Int)) := by omega
      rw [this]

/-- A message that is marked holds its marks. -/
theorem markMsg_held (m : ByteArray) (y : List IF) (hy : y.length ≤ 10000000) (a : Int) (ha : 0 ≤ a) (hb : a ≤ 1000000) :
    ∃ y', y'.length = y.length ∧ ∀ k, y.length + 30 ≤ k → laws_markMsg.f k m y a = some (a + 2 * y.length, y') ∧ laws_heldMsg.f k m y' a = some (a + 2 * y.length) := by
  obtain ⟨y', h1, h2, _, h4⟩ := markFieldS_l y.length 0 (y.length + 30) y a (by omega) (by omega) ha (by omega) (by omega)
  have hm : ∀ k, y.length + 30 ≤ k → laws_markFieldS.f k y a = some (a + 2 * y.length, y') := fun k hk => later (g := fun k => laws_markFieldS.f k y a) (fun k => laws_markFieldS.mono y a k) h1 k hk
  refine ⟨y', h2, fun k hk => ⟨?_, ?_⟩⟩
  · unfold laws_markMsg.f
    rw [hm k hk]; rfl
  · have h := heldFieldS_l y'.length 0 k y' a (by omega) (by omega) ha (by omega) (by omega) (fun j hj1 hj2 => h4 j hj1 (by omega))
    have hf : laws_heldFieldS.f k y' a = some (a + 2 * y.length) := by rw [h2] at h; exact h
    unfold laws_heldMsg.f
    rw [hf, Option.bind_some, if_neg (by omega)]
end Go.Proofs.Ytnhejdelcopphaa.Q
end
section
/- FnExactBare of the given program answers true at every string and every int64. -/
namespace Go.Proofs.Ytnhejdelcopphaa.Q
open Go.RowKit Go.Proofs.YtnhejdelcopphaaW.PrintWords Go.Proofs.YtnhejdelcopphaaW.PrintLast Go.Proofs.YtnhejdelcopphaaW.PrintMore
set_option linter.unusedVariables false
set_option linter.unusedSimpArgs false

theorem FnExactBare : ∀ (a0 : ByteArray) (a1 : Int), a0.size ≤ 140737488351232 → (Lit.int .i64 a1).wf = true → ∃ k, laws_FnExactBare.f k a0 a1 = some true := by
  intro s c _ _
  by_cases hl : (s.size : Int) > 1048576
  · exact ⟨0, by unfold laws_FnExactBare.f; rw [if_pos hl]⟩
  obtain ⟨r, hr, hb⟩ := bare_at s (by omega) c
  refine ⟨s.size + 200, ?_⟩
  have g1 := fun k hk => (hb k hk).1
  have g2 := fun k hk => (hb k hk).2
  have g3 := eqMsg_self r.1 r.2.1 (by omega)
  obtain ⟨z, hz3, n2⟩ := markMsg_held r.1 r.2.1 (by omega) 1 (by omega) (by omega)
  have n3 := fun k hk => (n2 k hk).1
  have n4 := fun k hk => (n2 k hk).2
  have p2 : ¬ (1 + 2 * (r.2.1.length : Int)) < 0 := by omega
  unfold laws_FnExactBare.f
  rw [if_neg hl]
  simp (disch := omega) only [g1, g2, g3, Option.bind_some, if_true, bne_self_eq_false]
  rw [laws_FnExactBare.j0]
  simp (disch := omega) only [g2, g3, n3, n4, if_neg p2, Option.bind_some, if_true, bne_self_eq_false, Bool.false_eq_true, if_false]
  rw [laws_FnExactBare.j1]
  simp (disch := omega) only [n4, if_neg p2, Option.bind_some, if_true, Bool.false_eq_true, if_false]
end Go.Proofs.Ytnhejdelcopphaa.Q
end
section
/- The row of FnExactBare: over what the printed walk tells and the pure law; for every input, no condition. -/
namespace Go.Proofs.Ytnhejdelcopphaa.Q
open Go.RowKit Go.Proofs.YtnhejdelcopphaaW.PrintWords Go.Proofs.YtnhejdelcopphaaW.PrintLast Go.Proofs.YtnhejdelcopphaaW.PrintMore
set_option linter.unusedVariables false
theorem laws_FnExactBare.walk (a0 : ByteArray) (a1 : Int) (w : World) (w0 : a0.size ≤ 140737488351232) (w1 : (Lit.int .i64 a1).wf = true) :
    Calls Try.prog 11 #[.string a0, .int .i64 a1] w fun e w' => e = .returned (.bool true) ∧ Below w.heap.size w w' := by
  obtain ⟨k, h⟩ := FnExactBare a0 a1 w0 w1
  refine (laws_FnExactBare.calls k a0 a1 true w rfl h).mono ?_
  rintro e w' ⟨rfl, hd⟩
  exact ⟨rfl, hd⟩
end Go.Proofs.Ytnhejdelcopphaa.Q
namespace Go.Proofs.Ytnhejdelcopphaa.fnExactBare
open Go.ChangeShapes Go.WideShapes Go.ChangeAt Go.RowKit
open Go.ChangeMaps (open_string shut_string)
set_option linter.unusedVariables false
theorem own : ownKnob Try.prog.godebug = none := by kernel_rfl
set_option maxRecDepth 100000 in
theorem lifted (os : Os) (started : os.Started) (H : Type) (enc : TypeId × Value → H) :
    ReturnsInHanded {} Try.checked os 11 .any (Rows.fnExactBareSpec.pre6 enc Try.prog Try.f11 Rows.fnExactBareRow.domain false) (Rows.fnExactBareSpec.post enc Try.prog Try.f11 false true false false) := by
  refine returnsInHanded_of_change_sized (C := Try.checked) own started (by kernel_rfl) Try.func11
    (ChangeSpec.witness6 (enc := enc) (C := Try.checked) false ⟨#[], #[.string ByteArray.empty, .int .i64 0], []⟩ 8 (by kernel_rfl) (by kernel_rfl) (by kernel_rfl) (by kernel_rfl)) ?_
  intro W base args ds gs before hval0 hW hcnd hsz0 _
  have hsz : (DataW.weightsEach Try.prog (Try.f11.params.toList ++ Rows.fnExactBareSpec.plain.varTypes Try.prog) (ds ++ gs)).all (· ≤ reachBytes) = true := hsz0
  have hval : ∀ (j : Nat) t v, Try.f11.params[j]? = some t → args[j]? = some v → Value.okWide Try.prog W .any base t v := hval0
  have hW' := hW
  obtain ⟨p, q, hA0, hV, rfl, hfz, hnd⟩ := hW
  have hA : DataW.TrodAll enc Try.prog W 0 (fun _ => true) true Try.f11.params.toList args.toList ds p := hA0
  rw [Try.params11] at hA hval hsz
  obtain ⟨v0, vs0, d0, ds0, p0, q0, hargs, rfl, rfl, h0, r0⟩ := trodAll_cons hA
  obtain ⟨v1, vs1, d1, ds1, p1, q1, rfl, rfl, rfl, h1, r1⟩ := trodAll_cons r0
  obtain ⟨rfl, rfl, rfl⟩ := trodAll_nil r1
  obtain rfl : args = #[v0, v1] := by cases args; simp_all
  obtain ⟨rfl, rfl⟩ := trodVars_none hV
  obtain ⟨a0, rfl, rfl, rfl, y0⟩ := open_string Try.underlying9 (hval 0 9 v0 rfl rfl) h0
  have w0 : a0.size ≤ 140737488351232 := by
    have z := sized_string hsz (j := 0) (t := 9) rfl rfl
    rw [Array.length_toList] at z
    exact z
  obtain ⟨a1, rfl, rfl, rfl, w1⟩ := open_int Try.underlying3 (hval 1 3 v1 rfl rfl) h1
  clear hA0 hval0 hsz0 hsz
  refine (Q.laws_FnExactBare.walk a0 a1 W w0 w1).mono fun e W' ⟨he, bel⟩ => ?_
  subst he
  exact ⟨_, rfl, _, _, _, [], _, [], hW', trodAll_mk1 (shut_bool Try.underlying4 _), (trodAll_cons_mk (shut_string Try.underlying9 y0) (trodAll_cons_mk (shut_int Try.underlying3 w1) trodAll_mk0)), rfl, bel.frame _, fun h => by cases h⟩
theorem over : Rows.fnExactBareRow.holds Try.pinned (OpenSpec.ofChange Rows.fnExactBareSpec) :=
  OpenClaim.holds_of_wide 11 Try.f11 rfl rfl rfl rfl rfl rfl rfl ⟨rfl, rfl, rfl, rfl, rfl⟩ rfl rfl rfl rfl rfl (by kernel_rfl) Try.func11 (by kernel_rfl)
    (of_decide_eq_true (by kernel_rfl)) (by unfold Func.isWrapper; first | (rw [if_pos (by decide +kernel)]; kernel_rfl) | (rw [if_neg (by decide +kernel)]; exact ⟨rfl, rfl⟩))
    (fun os started H enc _ => lifted os started H enc)
theorem proved : Rows.FnExactBareSaid := over
#print axioms proved
end Go.Proofs.Ytnhejdelcopphaa.fnExactBare
namespace Go.Proofs.Ytnhejdelcopphaa
/-- The row, under a short name, for the claim. -/
theorem fnExactBare_holds : Rows.FnExactBareSaid := fnExactBare.proved
end Go.Proofs.Ytnhejdelcopphaa
end
