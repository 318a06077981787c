/- FnExactPutLen of the given program answers true at every two int64; the listed tables hold what the program's text lays. -/
import Derived.Test.YtiglmmofapcefaaDoorRows
import Derived.Test.YtiglmmofapcefaaDoorQx19
import Derived.Test.YtiglmmofapcefaaDoorQx0
import Derived.Test.YtiglmmofapcefaaDoorQx3
import Derived.Test.YtiglmmofapcefaaDoorQx2
import Derived.Test.YtiglmmofapcefaaDoorExtItoa
import Derived.Test.YtiglmmofapcefaaDoorExtRepeat
import Derived.Test.YtiglmmofapcefaaDoorQx5
import Derived.Test.YtiglmmofapcefaaDoorQx4
import Derived.Test.YtiglmmofapcefaaDoorQx13
import Derived.Test.YtiglmmofapcefaaDoorQx6
import Derived.Test.YtiglmmofapcefaaDoorQx11
import Derived.Test.YtiglmmofapcefaaDoorQx14
import Derived.Test.YtiglmmofapcefaaDoorQx15
import Derived.Test.YtiglmmofapcefaaDoorQx12
import Derived.Test.YtiglmmofapcefaaDoorQx16
import Derived.Test.YtiglmmofapcefaaDoorQx18
import Derived.Test.YtiglmmofapcefaaDoorQx17
import Derived.Test.YtiglmmofapcefaaDoorCards
import Derived.Test.YtiglmmofapcefaaDoorTie
import Derived.Test.YtiglmmofapcefaaDoorLaid3
import Derived.WalkKit
import Derived.ProofKit
import Derived.OpenShut
import Derived.ShutString
import Derived.ChangeOld
import Derived.Below
import Derived.SizedLaws
import Derived.ChangeSame
import Derived.ChangeVars
import Derived.ChangeMaps5
import Derived.JoinedOf
import Derived.JoinedAt
import Derived.LaidLaws
import Derived.Handed
import Derived.SevenTiedAt
section
/- Lemmas on what the printed functions compute (base); no condition. -/
namespace Go.Proofs.YtiglmmofapcefaaDoor.Q
open Go.RowKit Go.Proofs.YtiglmmofapcefaaDoorW.PrintWords Go.Proofs.YtiglmmofapcefaaDoorW.PrintLast Go.Proofs.YtiglmmofapcefaaDoorW.PrintMore
set_option linter.unusedVariables false
set_option linter.unusedSimpArgs false

theorem w64 {i : Int} (h0 : 0 ≤ i) (h : i ≤ 140737488351232) : wrap64 (i + 1) = i + 1 := by
  unfold wrap64
  omega

theorem drop_bt (s : ByteArray) (n : Nat) (h : n < s.size) : (bytesOf s).drop n = bt s (n : Int) :: (bytesOf s).drop (n + 1) := by
  have hl : n < (bytesOf s).length := by rw [bytesOf_length]; exact h
  rw [List.drop_eq_getElem_cons hl]
  congr 1
  rw [← rd_bytesOf]
  unfold rd
  simp [List.getD, hl]

theorem drop_rd (l : List Int) (n : Nat) (h : n < l.length) : l.drop n = rd l (n : Int) :: l.drop (n + 1) := by
  rw [List.drop_eq_getElem_cons h]
  congr 1
  unfold rd
  simp [List.getD, h]


theorem wf_i64 {a : Int} (h : (Lit.int .i64 a).wf = true) : -9223372036854775808 ≤ a ∧ a ≤ 9223372036854775807 := by
  simp only [Lit.wf, IntKind.min, IntKind.max, IntKind.signed, IntKind.bits, Bool.and_eq_true, decide_eq_true_eq, if_true] at h
  omega

theorem wf_u8 {a : Int} (h : (Lit.int .u8 a).wf = true) : 0 ≤ a ∧ a ≤ 255 := by
  simp [Lit.wf, IntKind.min, IntKind.max, IntKind.signed, IntKind.bits] at h
  omega

theorem w64id {i : Int} (h0 : -9223372036854775808 ≤ i) (h : i ≤ 9223372036854775807) : wrap64 i = i := by
  unfold wrap64
  omega

theorem rd_nat (l : List Int) (n : Nat) (h : n < l.length) : rd l (n : Int) = l[n] := by
  unfold rd
  simp [List.getD, h]

theorem rd_mem (l : List Int) (n : Nat) (h : n < l.length) : rd l (n : Int) ∈ l := by
  rw [rd_nat l n h]
  exact List.getElem_mem h

/-- More rounds tell the same. -/
theorem later {α : Type} {g : Nat → Option α} {r : α} {k0 : Nat} (hm : ∀ k, LeO (g k) (g (k + 1))) (h : g k0 = some r) (k : Nat) (hk : k0 ≤ k) : g k = some r :=
  at_rounds hm hk h
end Go.Proofs.YtiglmmofapcefaaDoor.Q
end
section
/- Lemmas on what the printed functions compute (rdset); no condition. -/
namespace Go.Proofs.YtiglmmofapcefaaDoor.Q
open Go.RowKit Go.Proofs.YtiglmmofapcefaaDoorW.PrintWords Go.Proofs.YtiglmmofapcefaaDoorW.PrintLast Go.Proofs.YtiglmmofapcefaaDoorW.PrintMore
set_option linter.unusedVariables false
set_option linter.unusedSimpArgs false

theorem rd_set_same (y : List Int) (n : Nat) (v : Int) (h : n < y.length) : rd (y.set n v) (n : Int) = v := by
  rw [rd_nat _ _ (by simpa using h)]
  simp

theorem rd_set_other (y : List Int) (n j : Nat) (v : Int) (h : j ≠ n) : rd (y.set n v) (j : Int) = rd y (j : Int) := by
  unfold rd
  simp [List.getD, List.getElem?_set, Ne.symm h]

theorem toNat_cast (n : Nat) : ((n : Int) : Int).toNat = n := by simp

theorem take_set_succ (y l : List Int) (n : Nat) (hn : n < l.length) (hy : y.length = l.length) (h : y.take n = l.take n) :
    (y.set n (rd l (n : Int))).take (n + 1) = l.take (n + 1) := by
  rw [List.take_succ_eq_append_getElem (by simpa [hy] using hn), List.take_succ_eq_append_getElem hn, rd_nat l n hn]
  simp [List.take_set_of_le, h]
end Go.Proofs.YtiglmmofapcefaaDoor.Q
end
section
/- Lemmas on what the printed functions compute (strs); no condition. -/
namespace Go.Proofs.YtiglmmofapcefaaDoor.Q
open Go.RowKit Go.Proofs.YtiglmmofapcefaaDoorW.PrintWords Go.Proofs.YtiglmmofapcefaaDoorW.PrintLast Go.Proofs.YtiglmmofapcefaaDoorW.PrintMore
set_option linter.unusedVariables false
set_option linter.unusedSimpArgs false

def isByte (c : Int) : Prop := 0 ≤ c ∧ c ≤ 255

theorem bytesOf_range (s : ByteArray) : ∀ c ∈ bytesOf s, isByte c := by
  intro c hc
  unfold bytesOf at hc
  obtain ⟨b, _, rfl⟩ := List.mem_map.1 hc
  have := b.toNat_lt
  exact ⟨by omega, by omega⟩

theorem bytesOf_inj {s t : ByteArray} (h : bytesOf s = bytesOf t) : s = t := by
  have e : s.data.toList = t.data.toList := by
    unfold bytesOf at h
    have := congrArg (List.map fun n : Int => UInt8.ofNat n.toNat) h
    simpa [List.map_map, Function.comp_def] using this
  cases s; cases t
  congr 1
  exact Array.toList_inj.1 e

theorem bytesOf_append (s t : ByteArray) : bytesOf (s ++ t) = bytesOf s ++ bytesOf t := by
  unfold bytesOf
  simp

theorem bytesOf_strOfNums (l : List Int) (h : ∀ c ∈ l, isByte c) : bytesOf (strOfNums l) = l := by
  unfold bytesOf
  rw [strOfNums_data, List.map_map]
  have : ∀ c ∈ l, ((fun b : UInt8 => (b.toNat : Int)) ∘ fun n : Int => UInt8.ofNat n.toNat) c = c := by
    intro c hc
    obtain ⟨h0, h1⟩ := h c hc
    have e : (UInt8.ofNat c.toNat).toNat = c.toNat := by simp [UInt8.toNat_ofNat']; omega
    simp only [Function.comp, e]
    omega
  rw [List.map_congr_left this]
  simp

theorem strOfNums_bytesOf (s : ByteArray) : strOfNums (bytesOf s) = s := bytesOf_inj (bytesOf_strOfNums _ (bytesOf_range s))

theorem strOfNums_append (a b : List Int) : strOfNums (a ++ b) = strOfNums a ++ strOfNums b := by
  have e : (strOfNums (a ++ b)).data.toList = (strOfNums a ++ strOfNums b).data.toList := by
    rw [strOfNums_data, ByteArray.toList_data_append, strOfNums_data, strOfNums_data, List.map_append]
  revert e
  generalize strOfNums (a ++ b) = x
  generalize strOfNums a ++ strOfNums b = y
  intro e
  cases x; cases y
  congr 1
  exact Array.toList_inj.1 e

theorem size_eq (s : ByteArray) : s.size = (bytesOf s).length := (bytesOf_length s).symm

theorem bytesOf_extract (s : ByteArray) (a b : Nat) : bytesOf (s.extract a b) = ((bytesOf s).take b).drop a := by
  unfold bytesOf
  rw [ByteArray.data_extract, Array.toList_extract, List.extract_eq_take_drop, List.map_take, List.map_drop, List.drop_take]

theorem toList_of_eq {s t : ByteArray} (h : bytesOf s = bytesOf t) : s.toList = t.toList := by rw [bytesOf_inj h]

theorem bt_eq (s : ByteArray) (i : Int) : bt s i = rd (bytesOf s) i := (rd_bytesOf s i).symm
end Go.Proofs.YtiglmmofapcefaaDoor.Q
end
section
/- Lemmas on what the printed functions compute (numText); no condition. -/
namespace Go.Proofs.YtiglmmofapcefaaDoor.Q
open Go.RowKit Go.Proofs.YtiglmmofapcefaaDoorW.PrintWords Go.Proofs.YtiglmmofapcefaaDoorW.PrintLast Go.Proofs.YtiglmmofapcefaaDoorW.PrintMore
set_option linter.unusedVariables false
set_option linter.unusedSimpArgs false

/-- The digits of a number. -/
def decL (n : Nat) : List Int := (Lib.decDigits n).map fun b => (b.toNat : Int)

def decS (n : Nat) : ByteArray := ⟨(Lib.decDigits n).toArray⟩

theorem bytesOf_decS (n : Nat) : bytesOf (decS n) = decL n := by
  unfold bytesOf decS decL
  simp

theorem decL_small (n : Nat) (h : n < 10) : decL n = [48 + (n : Int)] := by
  unfold decL
  rw [Lib.decDigits, dif_pos h]
  simp only [List.map_cons, List.map_nil]
  congr 1
  rw [UInt8.toNat_ofNat']
  omega

theorem decL_step (n : Nat) (h : ¬ n < 10) : decL n = decL (n / 10) ++ [48 + ((n % 10 : Nat) : Int)] := by
  unfold decL
  rw [Lib.decDigits, dif_neg h, List.map_append]
  congr 1
  simp only [List.map_cons, List.map_nil]
  congr 1
  rw [UInt8.toNat_ofNat']
  omega

theorem decL_length (n : Nat) : ∀ d : Nat, n < 10 ^ (d + 1) → (decL n).length ≤ d + 1 := by
  intro d
  induction d generalizing n with
  | zero =>
    intro h
    rw [decL_small n (by simpa using h)]
    simp
  | succ d ih =>
    intro h
    by_cases q : n < 10
    · rw [decL_small n q]; simp
    · rw [decL_step n q, List.length_append]
      have := ih (n / 10) (by rw [Nat.pow_succ] at h; omega)
      simp
      omega

theorem decL_range (n : Nat) : ∀ c ∈ decL n, 48 ≤ c ∧ c ≤ 57 := by
  induction n using Nat.strongRecOn with
  | ind n ih =>
    by_cases q : n < 10
    · rw [decL_small n q]
      intro c hc
      obtain rfl := List.mem_singleton.1 hc
      omega
    · rw [decL_step n q]
      intro c hc
      rcases List.mem_append.1 hc with hc | hc
      · exact ih (n / 10) (by omega) c hc
      · obtain rfl := List.mem_singleton.1 hc
        omega

theorem spec_NumText_l : ∀ (d : Nat) (n k : Nat) (x : ByteArray), n < 10 ^ (d + 1) → n ≤ 9223372036854775807 → x.size + d ≤ 1000 → d < k →
    spec_NumText.l0 k (n : Int) x = some (decS n ++ x) := by
  intro d
  induction d with
  | zero =>
    intro n k x hn hm hx hk
    obtain ⟨k, rfl⟩ : ∃ m, k = m + 1 := ⟨k - 1, by omega⟩
    have h10 : n < 10 := by simpa using hn
    have c1 : ¬ (n : Int) > 9 := by omega
    have e : wrap64 (48 + (n : Int)) % 256 = 48 + (n : Int) := by unfold wrap64; omega
    have es : strOfNums [48 + (n : Int)] = decS n := by
      apply bytesOf_inj
      rw [bytesOf_decS, decL_small n h10, bytesOf_strOfNums]
      intro c hc
      obtain rfl := List.mem_singleton.1 hc
      unfold isByte
      omega
    have hz : (decS n).size = 1 := by rw [size_eq, bytesOf_decS, decL_small n h10]; rfl
    simp only [spec_NumText.l0, if_neg c1, Option.bind_some, e, es]
    rw [if_pos (by omega)]
  | succ d ih =>
    intro n k x hn hm hx hk
    obtain ⟨k, rfl⟩ : ∃ m, k = m + 1 := ⟨k - 1, by omega⟩
    by_cases h10 : n < 10
    · have c1 : ¬ (n : Int) > 9 := by omega
      have e : wrap64 (48 + (n : Int)) % 256 = 48 + (n : Int) := by unfold wrap64; omega
      have es : strOfNums [48 + (n : Int)] = decS n := by
        apply bytesOf_inj
        rw [bytesOf_decS, decL_small n h10, bytesOf_strOfNums]
        intro c hc
        obtain rfl := List.mem_singleton.1 hc
        unfold isByte
        omega
      have hz : (decS n).size = 1 := by rw [size_eq, bytesOf_decS, decL_small n h10]; rfl
      simp only [spec_NumText.l0, if_neg c1, Option.bind_some, e, es]
      rw [if_pos (by omega)]
    · have c1 : (n : Int) > 9 := by omega
      have e1 : True → Int.tmod (n : Int) 10 = ((n % 10 : Nat) : Int) := by intro _; rw [Int.tmod_eq_emod_of_nonneg (by omega)]; omega
      have e2 : True → Int.tdiv (n : Int) 10 = ((n / 10 : Nat) : Int) := by intro _; rw [Int.tdiv_eq_ediv_of_nonneg (by omega)]; omega
      have e3 : True → wrap64 ((n / 10 : Nat) : Int) = ((n / 10 : Nat) : Int) := fun _ => w64id (by omega) (by omega)
      have e : True → wrap64 (48 + ((n % 10 : Nat) : Int)) % 256 = 48 + ((n % 10 : Nat) : Int) := by intro _; unfold wrap64; omega
      have hz : (strOfNums [48 + ((n % 10 : Nat) : Int)]).size = 1 := by rw [strOfNums_size]; rfl
      have hz2 : (strOfNums [48 + ((n % 10 : Nat) : Int)] ++ x).size = 1 + x.size := by rw [ByteArray.size_append, hz]
      simp only [spec_NumText.l0, if_pos c1, Option.bind_some, e1 trivial, e2 trivial, e3 trivial, e trivial]
      rw [if_pos (by omega), ih (n / 10) k _ (by rw [Nat.pow_succ] at hn; omega) (by omega) (by omega) (by omega)]
      congr 1
      apply bytesOf_inj
      rw [bytesOf_append, bytesOf_append, bytesOf_append, bytesOf_decS, bytesOf_decS, decL_step n h10, bytesOf_strOfNums, List.append_assoc]
      intro c hc
      obtain rfl := List.mem_singleton.1 hc
      unfold isByte
      omega

/-- What NumText answers. -/
def numText (n : Int) : ByteArray := if 0 ≤ n ∧ n ≤ 4611686018427387904 then decS n.toNat else ⟨#[]⟩

theorem spec_NumText_at (n : Int) (k : Nat) (hk : 30 < k) : spec_NumText.f k n = some (numText n) := by
  unfold spec_NumText.f spec_l01Money.f numText
  by_cases h0 : n ≥ 0
  · rw [if_pos h0, Option.bind_some]
    by_cases h1 : n ≤ 4611686018427387904
    · rw [if_pos (decide_eq_true h1), if_pos ⟨h0, h1⟩]
      have h := spec_NumText_l 19 n.toNat k ⟨#[]⟩ (by omega) (by omega) (by decide) (by omega)
      have e : ((n.toNat : Nat) : Int) = n := by omega
      rw [e] at h
      rw [h]
      congr 1
      apply bytesOf_inj
      rw [bytesOf_append]
      exact List.append_nil _
    · rw [if_neg (by simpa using h1), if_neg (fun q => h1 q.2)]
  · rw [if_neg h0, Option.bind_some, if_neg (by simp), if_neg (fun q => h0 q.1)]

theorem itoa_at (n : Int) (h0 : 0 ≤ n) (h1 : n ≤ 9223372036854775807) : strconv_Itoa.f n = some (decS n.toNat) := by
  unfold strconv_Itoa.f
  rw [if_pos ⟨by omega, h1⟩]
  unfold decS Lib.itoa
  rw [if_neg (by omega)]

theorem impl_NumText_at (n : Int) : impl_NumText.f n = some (numText n) := by
  unfold impl_NumText.f impl_isMoney.f impl_within.f numText
  by_cases h0 : 0 ≤ n
  · rw [if_pos h0]
    simp only [Option.bind_some]
    by_cases h1 : n ≤ 4611686018427387904
    · rw [if_pos (decide_eq_true h1), if_pos ⟨h0, h1⟩, itoa_at n h0 (by omega)]
      rfl
    · rw [if_neg (by simpa using h1), if_neg (fun q => h1 q.2)]
  · rw [if_neg h0]
    simp only [Option.bind_some]
    rw [if_neg (by simp), if_neg (fun q => h0 q.1)]
end Go.Proofs.YtiglmmofapcefaaDoor.Q
end
section
/- Lemmas on what the printed functions compute (rep); no condition. -/
namespace Go.Proofs.YtiglmmofapcefaaDoor.Q
open Go.RowKit Go.Proofs.YtiglmmofapcefaaDoorW.PrintWords Go.Proofs.YtiglmmofapcefaaDoorW.PrintLast Go.Proofs.YtiglmmofapcefaaDoorW.PrintMore
set_option linter.unusedVariables false
set_option linter.unusedSimpArgs false

/-- n times one byte. -/
def rep (b : UInt8) (n : Nat) : ByteArray := ⟨(List.replicate n b).toArray⟩

theorem bytesOf_rep (b : UInt8) (n : Nat) : bytesOf (rep b n) = List.replicate n (b.toNat : Int) := by
  unfold bytesOf rep
  simp

theorem rep_size (b : UInt8) (n : Nat) : (rep b n).size = n := by rw [size_eq, bytesOf_rep, List.length_replicate]

theorem rep_zero (b : UInt8) : rep b 0 = ⟨#[]⟩ := rfl

theorem rep_front (b : UInt8) (n : Nat) : rep b n ++ (⟨#[b]⟩ : ByteArray) = rep b (n + 1) := by
  apply bytesOf_inj
  rw [bytesOf_append, bytesOf_rep, bytesOf_rep, List.replicate_succ']
  rfl

theorem rep_back (b : UInt8) (n : Nat) : (⟨#[b]⟩ : ByteArray) ++ rep b n = rep b (n + 1) := by
  apply bytesOf_inj
  rw [bytesOf_append, bytesOf_rep, bytesOf_rep, List.replicate_succ]
  rfl

theorem app_assoc (a b c : ByteArray) : (a ++ b) ++ c = a ++ (b ++ c) := by
  apply bytesOf_inj
  rw [bytesOf_append, bytesOf_append, bytesOf_append, bytesOf_append, List.append_assoc]

theorem app_nil (a : ByteArray) : a ++ (⟨#[]⟩ : ByteArray) = a := by
  apply bytesOf_inj
  rw [bytesOf_append]
  exact List.append_nil _

theorem nil_app (a : ByteArray) : (⟨#[]⟩ : ByteArray) ++ a = a := by
  apply bytesOf_inj
  rw [bytesOf_append]
  rfl

theorem repeat_one (b : UInt8) (n : Nat) : (⟨(Lib.repeatL [b] n).toArray⟩ : ByteArray) = rep b n := by
  unfold rep
  congr 2
  induction n with
  | zero => rfl
  | succ n ih => rw [Lib.repeatL, ih, List.replicate_succ]; rfl

theorem repeat_at (b : UInt8) (n : Int) (h0 : 0 ≤ n) (h1 : n ≤ 1000000) : strings_Repeat.f (⟨#[b]⟩ : ByteArray) n = some (rep b n.toNat) := by
  unfold strings_Repeat.f
  have hs : (⟨#[b]⟩ : ByteArray).size = 1 := rfl
  rw [if_pos ⟨h0, by omega, by rw [hs]; omega⟩]
  congr 1
  exact repeat_one b n.toNat
end Go.Proofs.YtiglmmofapcefaaDoor.Q
end
section
/- Lemmas on what the printed functions compute (wide); no condition. -/
namespace Go.Proofs.YtiglmmofapcefaaDoor.Q
open Go.RowKit Go.Proofs.YtiglmmofapcefaaDoorW.PrintWords Go.Proofs.YtiglmmofapcefaaDoorW.PrintLast Go.Proofs.YtiglmmofapcefaaDoorW.PrintMore
set_option linter.unusedVariables false
set_option linter.unusedSimpArgs false

/-- What Wide answers. -/
def wide (n w : Int) : ByteArray :=
  if 0 ≤ n ∧ 1 ≤ w ∧ w ≤ 18 ∧ ((decS n.toNat).size : Int) ≤ w then rep 48 (w - (decS n.toNat).size).toNat ++ decS n.toNat else ⟨#[]⟩

theorem decS_size (n : Nat) : (decS n).size = (decL n).length := by rw [size_eq, bytesOf_decS]

theorem decL_pos (n : Nat) : 0 < (decL n).length := by
  by_cases q : n < 10
  · rw [decL_small n q]; simp
  · rw [decL_step n q]; simp

theorem decS_toList (n : Nat) : ¬ (decS n).toList = [] := by
  intro h
  have := decL_pos n
  rw [← decS_size] at this
  have h2 : (decS n).toList.length = (decS n).size := by rw [ByteArray.toList_eq]; exact Array.length_toList
  rw [h] at h2
  simp at h2
  omega

theorem decL_long (n : Nat) : ∀ d : Nat, 10 ^ d ≤ n → d + 1 ≤ (decL n).length := by
  intro d
  induction d generalizing n with
  | zero => intro _; exact decL_pos n
  | succ d ih =>
    intro h
    have hp : 10 ^ (d + 1) = 10 ^ d * 10 := Nat.pow_succ 10 d
    have h1 : 0 < 10 ^ d := Nat.pos_of_ne_zero (by intro h0; simp at h0)
    have q : ¬ n < 10 := by omega
    rw [decL_step n q, List.length_append]
    have := ih (n / 10) (by omega)
    simp
    omega

theorem spec_Wide_l (w : Int) (hw : w ≤ 18) : ∀ (d k : Nat) (s : ByteArray), (s.size : Int) + d = w → d < k → spec_Wide.l0 k w s = some (rep 48 d ++ s) := by
  intro d
  induction d with
  | zero =>
    intro k s hd hk
    obtain ⟨k, rfl⟩ : ∃ m, k = m + 1 := ⟨k - 1, by omega⟩
    have c1 : ¬ (s.size : Int) < w := by omega
    simp only [spec_Wide.l0, if_neg c1]
    rw [rep_zero, nil_app]
  | succ d ih =>
    intro k s hd hk
    obtain ⟨k, rfl⟩ : ∃ m, k = m + 1 := ⟨k - 1, by omega⟩
    have c1 : (s.size : Int) < w := by omega
    have hz : ((⟨#[48]⟩ : ByteArray) ++ s).size = s.size + 1 := by rw [ByteArray.size_append]; exact Nat.add_comm _ _
    simp only [spec_Wide.l0, if_pos c1]
    rw [if_pos (by omega), ih k _ (by omega) (by omega), ← app_assoc, rep_front]

theorem spec_Wide_at (n w : Int) (h1 : n ≤ 9223372036854775807) (k : Nat) (hk : 60 < k) : spec_Wide.f k n w = some (wide n w) := by
  obtain ⟨k, rfl⟩ : ∃ m, k = m + 1 := ⟨k - 1, by omega⟩
  have hno : ¬ (0 ≤ n ∧ 1 ≤ w ∧ w ≤ 18 ∧ ((decS n.toNat).size : Int) ≤ w) → ∀ s, spec_Wide.j0 (k + 1) w s true = some (wide n w) := by
    intro h s
    unfold wide
    rw [if_neg h, spec_Wide.j0, if_pos rfl]
  unfold spec_Wide.f
  rw [spec_NumText_at n (k + 1) (by omega), Option.bind_some]
  by_cases hn : 0 ≤ n ∧ n ≤ 4611686018427387904
  · have e : numText n = decS n.toNat := by unfold numText; rw [if_pos hn]
    rw [e, if_neg (decS_toList _)]
    by_cases c1 : w < 1
    · rw [if_pos c1]; exact hno (by omega) _
    by_cases c2 : w > 18
    · rw [if_neg c1, if_pos c2]; exact hno (by omega) _
    by_cases c3 : ((decS n.toNat).size : Int) > w
    · rw [if_neg c1, if_neg c2, decide_eq_true c3]; exact hno (by omega) _
    rw [if_neg c1, if_neg c2, decide_eq_false c3, spec_Wide.j0, if_neg (by simp), spec_Wide_l w (by omega) (w - (decS n.toNat).size).toNat k _ (by omega) (by omega)]
    unfold wide
    rw [if_pos (by omega)]
  · have e : numText n = ⟨#[]⟩ := by unfold numText; rw [if_neg hn]
    rw [e, if_pos (by rw [ByteArray.toList_eq])]
    refine hno ?_ _
    by_cases h0 : 0 ≤ n
    · have := decL_long n.toNat 18 (by omega)
      rw [decS_size]
      omega
    · omega

theorem impl_Wide_at (n w : Int) (h0 : -9223372036854775808 ≤ n) (h1 : n ≤ 9223372036854775807) : impl_Wide.f n w = some (wide n w) := by
  unfold impl_Wide.f
  have hi : strconv_Itoa.f n = some (⟨(Lib.itoa n).toArray⟩ : ByteArray) := by unfold strconv_Itoa.f; rw [if_pos ⟨h0, h1⟩]
  by_cases hn : n < 0
  · rw [hi, Option.bind_some, if_pos hn]
    unfold wide
    rw [if_neg (by omega)]
  rw [itoa_at n (by omega) h1, Option.bind_some, if_neg hn]
  have hin : impl_within.f w 1 18 = some (decide (1 ≤ w ∧ w ≤ 18)) := by
    unfold impl_within.f
    by_cases h : 1 ≤ w
    · rw [if_pos h]; simp [h]
    · rw [if_neg h]; simp [h]
  rw [hin, Option.bind_some]
  unfold wide
  by_cases hw : 1 ≤ w ∧ w ≤ 18
  · rw [if_pos (decide_eq_true hw)]
    by_cases hz : ((decS n.toNat).size : Int) > w
    · rw [if_pos hz, if_neg (by omega)]
    · have e : wrap64 (w - ((decS n.toNat).size : Int)) = w - ((decS n.toNat).size : Int) := w64id (by omega) (by omega)
      rw [if_neg hz, e, repeat_at 48 _ (by omega) (by omega), Option.bind_some]
      have hz2 : (rep 48 (w - ((decS n.toNat).size : Int)).toNat).size ≤ 18 := by rw [rep_size]; omega
      rw [if_pos (by omega), if_pos (by omega)]
  · rw [if_neg (by simpa using hw), if_neg (by omega)]
end Go.Proofs.YtiglmmofapcefaaDoor.Q
end
section
/- Lemmas on what the printed functions compute (digits); no condition. -/
namespace Go.Proofs.YtiglmmofapcefaaDoor.Q
open Go.RowKit Go.Proofs.YtiglmmofapcefaaDoorW.PrintWords Go.Proofs.YtiglmmofapcefaaDoorW.PrintLast Go.Proofs.YtiglmmofapcefaaDoorW.PrintMore
set_option linter.unusedVariables false
set_option linter.unusedSimpArgs false

def isDig (c : Int) : Bool := decide (48 ≤ c) && decide (c ≤ 57)
def digs (l : List Int) : Bool := l.all isDig && !l.isEmpty

theorem spec_Digits_l (s : ByteArray) (hs : s.size ≤ 140737488351232) : ∀ (d n k : Nat), n + d = s.size → d < k →
    spec_Digits.l0 k s (n : Int) = some (((bytesOf s).drop n).all isDig && decide (0 < s.size)) := by
  intro d
  induction d with
  | zero =>
    intro n k hd hk
    obtain ⟨k, rfl⟩ : ∃ m, k = m + 1 := ⟨k - 1, by omega⟩
    simp only [spec_Digits.l0]
    rw [if_neg (by omega), List.drop_of_length_le (by rw [bytesOf_length]; omega)]
    simp
  | succ d ih =>
    intro n k hd hk
    obtain ⟨k, rfl⟩ : ∃ m, k = m + 1 := ⟨k - 1, by omega⟩
    simp only [spec_Digits.l0]
    rw [if_pos (by omega), if_pos (by omega), drop_bt s n (by omega), List.all_cons]
    by_cases h1 : bt s (n : Int) < 48
    · rw [if_pos h1]
      have e : isDig (bt s (n : Int)) = false := by unfold isDig; simp; omega
      rw [e]; simp
    · rw [if_neg h1]
      by_cases h2 : bt s (n : Int) > 57
      · rw [if_pos h2]
        have e : isDig (bt s (n : Int)) = false := by unfold isDig; simp; omega
        rw [e]; simp
      · rw [if_neg h2, w64 (by omega) (by omega)]
        have e : isDig (bt s (n : Int)) = true := by unfold isDig; simp; omega
        rw [e, Bool.true_and]
        exact ih (n + 1) k (by omega) (by omega)

theorem digs_eq (s : ByteArray) : ((bytesOf s).all isDig && decide (0 < s.size)) = digs (bytesOf s) := by
  unfold digs
  congr 1
  rw [← bytesOf_length s]
  cases bytesOf s <;> simp

theorem spec_Digits_at (s : ByteArray) (hs : s.size ≤ 140737488351232) (k : Nat) (hk : s.size < k) : spec_Digits.f k s = some (digs (bytesOf s)) := by
  unfold spec_Digits.f
  have h := spec_Digits_l s hs s.size 0 k (by omega) hk
  rw [← digs_eq]
  simpa using h

theorem toList_ne (s : ByteArray) : (s.toList != ([] : List UInt8)) = decide (0 < s.size) := by
  rw [ByteArray.toList_eq, ← data_length s]
  cases s.data.toList <;> simp

theorem impl_Digits_l (s : ByteArray) (hs : s.size ≤ 140737488351232) : ∀ (d n k : Nat), n + d = s.size → d < k →
    impl_Digits.l0 k s (s.size : Int) (n : Int) = some (((bytesOf s).drop n).all isDig && decide (0 < s.size)) := by
  intro d
  induction d with
  | zero =>
    intro n k hd hk
    obtain ⟨k, rfl⟩ : ∃ m, k = m + 1 := ⟨k - 1, by omega⟩
    simp only [impl_Digits.l0]
    rw [if_neg (by omega), List.drop_of_length_le (by rw [bytesOf_length]; omega), toList_ne]
    simp
  | succ d ih =>
    intro n k hd hk
    obtain ⟨k, rfl⟩ : ∃ m, k = m + 1 := ⟨k - 1, by omega⟩
    simp only [impl_Digits.l0]
    rw [if_pos (by omega), if_pos (by omega), if_pos (by omega), drop_bt s n (by omega), List.all_cons]
    by_cases h1 : bt s (n : Int) < 48
    · rw [if_pos h1]
      have e : isDig (bt s (n : Int)) = false := by unfold isDig; simp; omega
      rw [e]; simp
    · rw [if_neg h1]
      by_cases h2 : bt s (n : Int) > 57
      · rw [if_pos h2]
        have e : isDig (bt s (n : Int)) = false := by unfold isDig; simp; omega
        rw [e]; simp
      · rw [if_neg h2, w64 (by omega) (by omega)]
        have e : isDig (bt s (n : Int)) = true := by unfold isDig; simp; omega
        rw [e, Bool.true_and]
        exact ih (n + 1) k (by omega) (by omega)

theorem impl_Digits_at (s : ByteArray) (hs : s.size ≤ 140737488351232) (k : Nat) (hk : s.size < k) : impl_Digits.f k s = some (digs (bytesOf s)) := by
  unfold impl_Digits.f
  have h := impl_Digits_l s hs s.size 0 k (by omega) hk
  rw [← digs_eq]
  simpa using h
end Go.Proofs.YtiglmmofapcefaaDoor.Q
end
section
/- Lemmas on what the printed functions compute (bcdPure); no condition. -/
namespace Go.Proofs.YtiglmmofapcefaaDoor.Q
open Go.RowKit Go.Proofs.YtiglmmofapcefaaDoorW.PrintWords Go.Proofs.YtiglmmofapcefaaDoorW.PrintLast Go.Proofs.YtiglmmofapcefaaDoorW.PrintMore
set_option linter.unusedVariables false
set_option linter.unusedSimpArgs false

/-- Two and two digits in one byte. -/
def bcd : List Int → List Int
  | a :: b :: t => ((a - 48) * 16 + (b - 48)) :: bcd t
  | _ => []
def evened (l : List Int) : List Int := if l.length % 2 = 1 then 48 :: l else l
def putBcd (l : List Int) : List Int × Bool := if digs l && decide (l.length ≤ 38) then (bcd (evened l), true) else ([], false)

theorem bcd_length : ∀ (n : Nat) (l : List Int), l.length = 2 * n → (bcd l).length = n
  | 0, l, h => by
    have : l = [] := List.length_eq_zero_iff.1 (by omega)
    rw [this]; rfl
  | n + 1, a :: b :: t, h => by
    simp only [bcd, List.length_cons]
    rw [bcd_length n t (by simp at h; omega)]
  | n + 1, [a], h => by simp at h; omega
  | n + 1, [], h => by simp at h

theorem evened_length (l : List Int) : (evened l).length = 2 * ((l.length + 1) / 2) := by
  unfold evened
  split
  · simp; omega
  · omega

theorem evened_all (l : List Int) (h : l.all isDig = true) : (evened l).all isDig = true := by
  unfold evened
  split
  · simp only [List.all_cons, h, Bool.and_true]; decide
  · exact h

theorem dig_range' {c : Int} (h : isDig c = true) : 48 ≤ c ∧ c ≤ 57 := by
  unfold isDig at h
  simpa using h

theorem all_rd' (l : List Int) (p : Int → Bool) (h : l.all p = true) (n : Nat) (hn : n < l.length) : p (rd l (n : Int)) = true := by
  rw [List.all_eq_true] at h
  exact h _ (rd_mem l n hn)

theorem drop_two (l : List Int) (n : Nat) (h : n + 1 < l.length) : l.drop n = rd l (n : Int) :: rd l ((n + 1 : Nat) : Int) :: l.drop (n + 2) := by
  rw [drop_rd l n (by omega), drop_rd l (n + 1) (by omega)]

theorem digs_and (l : List Int) (h : digs l = true) : l.all isDig = true ∧ 0 < l.length := by
  unfold digs at h
  cases l with
  | nil => simp at h
  | cons a t => simpa using h
end Go.Proofs.YtiglmmofapcefaaDoor.Q
end
section
/- Lemmas on what the printed functions compute (putBcdSpec); no condition. -/
namespace Go.Proofs.YtiglmmofapcefaaDoor.Q
open Go.RowKit Go.Proofs.YtiglmmofapcefaaDoorW.PrintWords Go.Proofs.YtiglmmofapcefaaDoorW.PrintLast Go.Proofs.YtiglmmofapcefaaDoorW.PrintMore
set_option linter.unusedVariables false
set_option linter.unusedSimpArgs false

theorem spec_PutBcd_l (s : ByteArray) (hs : s.size ≤ 10000000) (hd : (bytesOf s).all isDig = true) : ∀ (d n k : Nat) (x : List Int), n + 2 * d = s.size → x.length + d ≤ 1000000000 → d < k →
    spec_PutBcd.l0 k s x (n : Int) = some (x ++ bcd ((bytesOf s).drop n), true) := by
  intro d
  induction d with
  | zero =>
    intro n k x hn hx hk
    obtain ⟨k, rfl⟩ : ∃ m, k = m + 1 := ⟨k - 1, by omega⟩
    have c1 : ¬ (n : Int) < (s.size : Int) := by omega
    simp only [spec_PutBcd.l0, if_neg c1]
    rw [List.drop_of_length_le (by rw [bytesOf_length]; omega)]
    simp [bcd]
  | succ d ih =>
    intro n k x hn hx hk
    obtain ⟨k, rfl⟩ : ∃ m, k = m + 1 := ⟨k - 1, by omega⟩
    have hl : (bytesOf s).length = s.size := bytesOf_length s
    obtain ⟨a0, a1⟩ := dig_range' (all_rd' _ _ hd n (by omega))
    obtain ⟨b0, b1⟩ := dig_range' (all_rd' _ _ hd (n + 1) (by omega))
    have c1 : (n : Int) < (s.size : Int) := by omega
    have c2 : 0 ≤ (n : Int) := by omega
    have e1 : wrap64 ((n : Int) + 1) = ((n + 1 : Nat) : Int) := by unfold wrap64; omega
    have e2 : wrap64 ((n : Int) + 2) = ((n + 2 : Nat) : Int) := by unfold wrap64; omega
    have c3 : 0 ≤ ((n + 1 : Nat) : Int) := by omega
    have c4 : ((n + 1 : Nat) : Int) < (s.size : Int) := by omega
    have c5 : x.length < 140737488355328 := by omega
    rw [drop_two _ n (by omega)]
    simp only [spec_PutBcd.l0, e1, e2, if_pos c1, if_pos c2, if_pos c3, if_pos c4, if_pos c5, bt_eq, bcd]
    generalize rd (bytesOf s) (n : Int) = a at a0 a1
    generalize rd (bytesOf s) ((n + 1 : Nat) : Int) = b at b0 b1
    have e : (wrap64 ((wrap64 ((wrap64 ((wrap64 ((wrap64 a) - 48)) * 16)) + (wrap64 b))) - 48)) % 256 = (a - 48) * 16 + (b - 48) := by
      unfold wrap64
      omega
    rw [e, ih (n + 2) k _ (by omega) (by simp; omega) (by omega)]
    simp

theorem spec_PutBcd_at (s : ByteArray) (hs : s.size ≤ 9000000) (k : Nat) (hk : s.size + 5 ≤ k) : spec_PutBcd.f k s = some (putBcd (bytesOf s)) := by
  obtain ⟨k, rfl⟩ : ∃ m, k = m + 2 := ⟨k - 2, by omega⟩
  unfold spec_PutBcd.f putBcd
  rw [spec_Digits_at s (by omega) (k + 2) (by omega)]
  simp only [Option.bind_some]
  by_cases h : digs (bytesOf s) = true
  · obtain ⟨h1, h2⟩ := digs_and _ h
    rw [bytesOf_length] at h2
    rw [if_pos h, h, spec_PutBcd.j0]
    by_cases h3 : (s.size : Int) > 38
    · have h4 : ¬ s.size ≤ 38 := by omega
      simp [h3, h4, bytesOf_length]
    · have h4 : s.size ≤ 38 := by omega
      simp only [h3, decide_false, Bool.false_eq_true, if_false]
      have q : (true && decide ((bytesOf s).length ≤ 38)) = true := by simp [bytesOf_length, h4]
      rw [if_pos q]
      by_cases h5 : (s.size : Int) % 2 = 1
      · have c1 : 1 + s.size ≤ 9223372036854775807 := by omega
        have eb : bytesOf ((⟨#[48]⟩ : ByteArray) ++ s) = 48 :: bytesOf s := by rw [bytesOf_append]; rfl
        have ez : ((⟨#[48]⟩ : ByteArray) ++ s).size = s.size + 1 := by rw [size_eq, eb, List.length_cons, bytesOf_length]
        have ev : evened (bytesOf s) = 48 :: bytesOf s := by unfold evened; rw [if_pos (by rw [bytesOf_length]; omega)]
        rw [if_pos h5, if_pos c1, spec_PutBcd.j1, ev]
        have hh := spec_PutBcd_l ((⟨#[48]⟩ : ByteArray) ++ s) (by omega) (by rw [eb, List.all_cons, h1]; decide) ((s.size + 1) / 2) 0 k [] (by omega) (by simp; omega) (by omega)
        rw [eb] at hh
        simpa using hh
      · have ev : evened (bytesOf s) = bytesOf s := by unfold evened; rw [if_neg (by rw [bytesOf_length]; omega)]
        rw [if_neg h5, spec_PutBcd.j1, ev]
        have hh := spec_PutBcd_l s (by omega) h1 (s.size / 2) 0 k [] (by omega) (by simp; omega) (by omega)
        simpa using hh
  · rw [if_neg h, spec_PutBcd.j0]
    simp [h]
end Go.Proofs.YtiglmmofapcefaaDoor.Q
end
section
/- Lemmas on what the printed functions compute (putBcdImpl); no condition. -/
namespace Go.Proofs.YtiglmmofapcefaaDoor.Q
open Go.RowKit Go.Proofs.YtiglmmofapcefaaDoorW.PrintWords Go.Proofs.YtiglmmofapcefaaDoorW.PrintLast Go.Proofs.YtiglmmofapcefaaDoorW.PrintMore
set_option linter.unusedVariables false
set_option linter.unusedSimpArgs false

theorem or_bcd (a b : Int) (a0 : 0 ≤ a) (a1 : a ≤ 9) (b0 : 0 ≤ b) (b1 : b ≤ 9) : Go.bits .or .u8 (a * 16) b = a * 16 + b :=
  bits_join .u8 8 (by decide) wraps_u8 4 (a * 16) b (by omega) (by omega) (by omega) (by omega) (by omega) (by omega)

theorem impl_PutBcd_l (s : ByteArray) (hs : s.size ≤ 10000000) (hd : (bytesOf s).all isDig = true) : ∀ (d n k : Nat) (x : List Int), n + 2 * d = s.size → x.length + d ≤ 1000000000 → d < k →
    impl_PutBcd.l0 k s x (n : Int) = some (x ++ bcd ((bytesOf s).drop n), true) := by
  intro d
  induction d with
  | zero =>
    intro n k x hn hx hk
    obtain ⟨k, rfl⟩ : ∃ m, k = m + 1 := ⟨k - 1, by omega⟩
    have c1 : ¬ (n : Int) < (s.size : Int) := by omega
    simp only [impl_PutBcd.l0, if_neg c1]
    rw [List.drop_of_length_le (by rw [bytesOf_length]; omega)]
    simp [bcd]
  | succ d ih =>
    intro n k x hn hx hk
    obtain ⟨k, rfl⟩ : ∃ m, k = m + 1 := ⟨k - 1, by omega⟩
    have hl : (bytesOf s).length = s.size := bytesOf_length s
    obtain ⟨a0, a1⟩ := dig_range' (all_rd' _ _ hd n (by omega))
    obtain ⟨b0, b1⟩ := dig_range' (all_rd' _ _ hd (n + 1) (by omega))
    have c1 : (n : Int) < (s.size : Int) := by omega
    have c2 : 0 ≤ (n : Int) := by omega
    have e1 : wrap64 ((n : Int) + 1) = ((n + 1 : Nat) : Int) := by unfold wrap64; omega
    have e2 : wrap64 ((n : Int) + 2) = ((n + 2 : Nat) : Int) := by unfold wrap64; omega
    have c3 : 0 ≤ ((n + 1 : Nat) : Int) := by omega
    have c4 : ((n + 1 : Nat) : Int) < (s.size : Int) := by omega
    have c5 : x.length < 140737488355328 := by omega
    rw [drop_two _ n (by omega)]
    simp only [impl_PutBcd.l0, e1, e2, if_pos c1, if_pos c2, if_pos c3, if_pos c4, if_pos c5, bt_eq, bcd]
    generalize rd (bytesOf s) (n : Int) = a at a0 a1
    generalize rd (bytesOf s) ((n + 1 : Nat) : Int) = b at b0 b1
    have e : Go.bits .or .u8 ((((a - 48) % 256) * 16) % 256) ((b - 48) % 256) = (a - 48) * 16 + (b - 48) := by
      have f1 : (a - 48) % 256 = a - 48 := by omega
      have f2 : (b - 48) % 256 = b - 48 := by omega
      have f3 : ((a - 48) * 16) % 256 = (a - 48) * 16 := by omega
      rw [f1, f2, f3]
      exact or_bcd _ _ (by omega) (by omega) (by omega) (by omega)
    rw [e, ih (n + 2) k _ (by omega) (by simp; omega) (by omega)]
    simp

theorem impl_PutBcd_at (s : ByteArray) (hs : s.size ≤ 9000000) (k : Nat) (hk : s.size + 5 ≤ k) : impl_PutBcd.f k s = some (putBcd (bytesOf s)) := by
  obtain ⟨k, rfl⟩ : ∃ m, k = m + 2 := ⟨k - 2, by omega⟩
  unfold impl_PutBcd.f putBcd
  rw [impl_Digits_at s (by omega) (k + 2) (by omega)]
  simp only [Option.bind_some]
  by_cases h : digs (bytesOf s) = true
  · obtain ⟨h1, h2⟩ := digs_and _ h
    rw [bytesOf_length] at h2
    rw [if_pos h, h, impl_PutBcd.j0]
    by_cases h3 : (s.size : Int) > 38
    · have h4 : ¬ s.size ≤ 38 := by omega
      simp [h3, h4, bytesOf_length]
    · have h4 : s.size ≤ 38 := by omega
      simp only [h3, decide_false, Bool.false_eq_true, if_false]
      have q : (true && decide ((bytesOf s).length ≤ 38)) = true := by simp [bytesOf_length, h4]
      rw [if_pos q]
      by_cases h5 : (s.size : Int) % 2 = 1
      · have c1 : 1 + s.size ≤ 9223372036854775807 := by omega
        have eb : bytesOf ((⟨#[48]⟩ : ByteArray) ++ s) = 48 :: bytesOf s := by rw [bytesOf_append]; rfl
        have ez : ((⟨#[48]⟩ : ByteArray) ++ s).size = s.size + 1 := by rw [size_eq, eb, List.length_cons, bytesOf_length]
        have ev : evened (bytesOf s) = 48 :: bytesOf s := by unfold evened; rw [if_pos (by rw [bytesOf_length]; omega)]
        rw [if_pos h5, if_pos c1, impl_PutBcd.j1, ev]
        have hh := impl_PutBcd_l ((⟨#[48]⟩ : ByteArray) ++ s) (by omega) (by rw [eb, List.all_cons, h1]; decide) ((s.size + 1) / 2) 0 k [] (by omega) (by simp; omega) (by omega)
        rw [eb] at hh
        simpa using hh
      · have ev : evened (bytesOf s) = bytesOf s := by unfold evened; rw [if_neg (by rw [bytesOf_length]; omega)]
        rw [if_neg h5, impl_PutBcd.j1, ev]
        have hh := impl_PutBcd_l s (by omega) h1 (s.size / 2) 0 k [] (by omega) (by simp; omega) (by omega)
        simpa using hh
  · rw [if_neg h, impl_PutBcd.j0]
    simp [h]
end Go.Proofs.YtiglmmofapcefaaDoor.Q
end
section
/- Lemmas on what the printed functions compute (putLen); no condition. -/
namespace Go.Proofs.YtiglmmofapcefaaDoor.Q
open Go.RowKit Go.Proofs.YtiglmmofapcefaaDoorW.PrintWords Go.Proofs.YtiglmmofapcefaaDoorW.PrintLast Go.Proofs.YtiglmmofapcefaaDoorW.PrintMore
set_option linter.unusedVariables false
set_option linter.unusedSimpArgs false

theorem wide_size (n w : Int) : (wide n w).size ≤ 18 := by
  unfold wide
  split
  · rename_i h
    rw [ByteArray.size_append, rep_size]
    omega
  · decide

/-- What PutLen answers. -/
def putLen (n w : Int) : List Int × Bool := if w = 2 ∨ w = 3 then putBcd (bytesOf (wide n w)) else ([], false)

theorem putLen_short (n w : Int) : (putLen n w).1.length ≤ 38 := by
  unfold putLen
  split
  · unfold putBcd
    split
    · rename_i h
      have h2 : (bytesOf (wide n w)).length ≤ 38 := by simp at h; exact h.2
      rw [bcd_length (((bytesOf (wide n w)).length + 1) / 2) _ (evened_length _)]
      omega
    · simp
  · simp

theorem spec_PutLen_at (n w : Int) (h1 : n ≤ 9223372036854775807) (k : Nat) (hk : 100 < k) : spec_PutLen.f k n w = some (putLen n w) := by
  obtain ⟨k, rfl⟩ : ∃ m, k = m + 1 := ⟨k - 1, by omega⟩
  have hs := wide_size n w
  unfold spec_PutLen.f putLen
  have hj : spec_PutLen.j0 (k + 1) n w false = some (putBcd (bytesOf (wide n w))) := by
    rw [spec_PutLen.j0, if_neg (by simp), spec_Wide_at n w h1 k (by omega), Option.bind_some, spec_PutBcd_at _ (by omega) k (by omega), Option.bind_some]
  by_cases h2 : w = 2
  · rw [if_pos h2, if_pos (Or.inl h2), hj]
  rw [if_neg h2]
  by_cases h3 : w = 3
  · have e : (w != 3) = false := by simp [h3]
    rw [e, if_pos (Or.inr h3), hj]
  · have e : (w != 3) = true := by simp [h3]
    rw [e, if_neg (by omega), spec_PutLen.j0, if_pos rfl]

theorem impl_PutLen_at (n w : Int) (h0 : -9223372036854775808 ≤ n) (h1 : n ≤ 9223372036854775807) (k : Nat) (hk : 100 < k) : impl_PutLen.f k n w = some (putLen n w) := by
  have hs := wide_size n w
  have hin : impl_within.f w 2 3 = some (decide (w = 2 ∨ w = 3)) := by
    unfold impl_within.f
    by_cases h : 2 ≤ w
    · rw [if_pos h]; congr 1; apply decide_eq_decide.2; omega
    · rw [if_neg h]; congr 1; symm; apply decide_eq_false; omega
  unfold impl_PutLen.f putLen
  rw [hin, Option.bind_some]
  by_cases h2 : w = 2 ∨ w = 3
  · rw [if_pos (decide_eq_true h2), if_pos h2, impl_Wide_at n w h0 h1, Option.bind_some, impl_PutBcd_at _ (by omega) k (by omega), Option.bind_some]
  · rw [if_neg (by simpa using h2), if_neg h2]
end Go.Proofs.YtiglmmofapcefaaDoor.Q
end
section
/- Lemmas on what the printed functions compute (eqByteS); no condition. -/
namespace Go.Proofs.YtiglmmofapcefaaDoor.Q
open Go.RowKit Go.Proofs.YtiglmmofapcefaaDoorW.PrintWords Go.Proofs.YtiglmmofapcefaaDoorW.PrintLast Go.Proofs.YtiglmmofapcefaaDoorW.PrintMore
set_option linter.unusedVariables false
set_option linter.unusedSimpArgs false

theorem eqByteS_l (l : List Int) (hl : l.length ≤ 10000000) : ∀ (d n k : Nat), n + d = l.length → d < k → laws_eqByteS.l0 k l l (n : Int) = some true := by
  intro d
  induction d with
  | zero =>
    intro n k hd hk
    obtain ⟨k, rfl⟩ : ∃ m, k = m + 1 := ⟨k - 1, by omega⟩
    have c1 : ¬ (n : Int) < (l.length : Int) := by omega
    simp only [laws_eqByteS.l0, if_neg c1]
  | succ d ih =>
    intro n k hd hk
    obtain ⟨k, rfl⟩ : ∃ m, k = m + 1 := ⟨k - 1, by omega⟩
    have c1 : (n : Int) < (l.length : Int) := by omega
    have c2 : 0 ≤ (n : Int) := by omega
    simp only [laws_eqByteS.l0, if_pos c1, if_pos c2, if_true, w64 c2 (by omega)]
    exact ih (n + 1) k (by omega) (by omega)

theorem eqByteS_self (l : List Int) (hl : l.length ≤ 10000000) (k : Nat) (hk : l.length < k) : laws_eqByteS.f k l l = some true := by
  unfold laws_eqByteS.f
  rw [if_pos rfl]
  exact eqByteS_l l hl l.length 0 k (by omega) hk
end Go.Proofs.YtiglmmofapcefaaDoor.Q
end
section
/- Lemmas on what the printed functions compute (markByteS); no condition. -/
namespace Go.Proofs.YtiglmmofapcefaaDoor.Q
open Go.RowKit Go.Proofs.YtiglmmofapcefaaDoorW.PrintWords Go.Proofs.YtiglmmofapcefaaDoorW.PrintLast Go.Proofs.YtiglmmofapcefaaDoorW.PrintMore
set_option linter.unusedVariables false
set_option linter.unusedSimpArgs false

theorem markByteS_l : ∀ (d n k : Nat) (y : List Int) (a : Int), n + d = y.length → y.length ≤ 1000000000000 → 0 ≤ a → a + d ≤ 1000000000000 → d < k →
    ∃ y', laws_markByteS.l0 k y a (n : Int) = some (a + d, y') ∧ y'.length = y.length ∧ (∀ j : Nat, j < n → rd y' (j : Int) = rd y (j : Int)) ∧ ∀ j : Nat, n ≤ j → j < y.length → rd y' (j : Int) = (a + ((j : Int) - (n : Int))) % 256 := by
  intro d
  induction d with
  | zero =>
    intro n k y a hd hy ha hb hk
    obtain ⟨k, rfl⟩ : ∃ m, k = m + 1 := ⟨k - 1, by omega⟩
    have c1 : ¬ (n : Int) < (y.length : Int) := by omega
    simp only [laws_markByteS.l0, if_neg c1]
    refine ⟨y, ?_, rfl, fun _ _ => rfl, fun j h1 h2 => by omega⟩
    simp
  | succ d ih =>
    intro n k y a hd hy ha hb hk
    obtain ⟨k, rfl⟩ : ∃ m, k = m + 1 := ⟨k - 1, by omega⟩
    have c1 : (n : Int) < (y.length : Int) := by omega
    have c2 : 0 ≤ (n : Int) := by omega
    simp only [laws_markByteS.l0, if_pos c1, if_pos c2, toNat_cast]
    rw [show wrap64 ((n : Int) + 1) = ((n + 1 : Nat) : Int) from by unfold wrap64; omega, show wrap64 (a + 1) = a + 1 from by unfold wrap64; omega]
    obtain ⟨y', h1, h2, h3, h4⟩ := ih (n + 1) k (y.set n ((a) % 256)) (a + 1) (by simpa using (by omega : n + 1 + d = y.length)) (by simpa using hy) (by omega) (by omega) (by omega)
    refine ⟨y', ?_, by simpa using h2, fun j hj => ?_, fun j hj1 hj2 => ?_⟩
    · rw [h1, show a + 1 + (d : Int) = a + ((d + 1 : Nat) : Int) from by omega]
    · rw [h3 j (by omega), rd_set_other _ _ _ _ (by omega)]
    · by_cases e : j = n
      · rw [e, h3 n (by omega), rd_set_same _ _ _ (by omega)]
        have : a + ((n : Int) - (n : Int)) = a := by omega
        rw [this]
      · rw [h4 j (by omega) (by simpa using hj2)]
        have : a + 1 + ((j : Int) - ((n + 1 : Nat) : Int)) = a + ((j : Int) - (n : Int)) := by omega
        rw [this]

theorem heldByteS_l : ∀ (d n k : Nat) (y : List Int) (a : Int), n + d = y.length → y.length ≤ 1000000000000 → 0 ≤ a → a + d ≤ 1000000000000 → d < k → (∀ j : Nat, n ≤ j → j < y.length → rd y (j : Int) = (a + ((j : Int) - (n : Int))) % 256) →
    laws_heldByteS.l0 k y a (n : Int) = some (a + d) := by
  intro d
  induction d with
  | zero =>
    intro n k y a hd hy ha hb hk hv
    obtain ⟨k, rfl⟩ : ∃ m, k = m + 1 := ⟨k - 1, by omega⟩
    have c1 : ¬ (n : Int) < (y.length : Int) := by omega
    simp only [laws_heldByteS.l0, if_neg c1]
    simp
  | succ d ih =>
    intro n k y a hd hy ha hb hk hv
    obtain ⟨k, rfl⟩ : ∃ m, k = m + 1 := ⟨k - 1, by omega⟩
    have c1 : (n : Int) < (y.length : Int) := by omega
    have c2 : 0 ≤ (n : Int) := by omega
    have c3 : rd y (n : Int) = (a) % 256 := by
      rw [hv n (by omega) (by omega)]
      have : a + ((n : Int) - (n : Int)) = a := by omega
      rw [this]
    simp only [laws_heldByteS.l0, if_pos c1, if_pos c2, if_pos c3]
    rw [show wrap64 ((n : Int) + 1) = ((n + 1 : Nat) : Int) from by unfold wrap64; omega, show wrap64 (a + 1) = a + 1 from by unfold wrap64; omega]
    rw [ih (n + 1) k y (a + 1) (by omega) hy (by omega) (by omega) (by omega) (fun j h1 h2 => ?_)]
    · rw [show a + 1 + (d : Int) = a + ((d + 1 : Nat) : Int) from by omega]
    · rw [hv j (by omega) h2]
      have : a + 1 + ((j : Int) - ((n + 1 : Nat) : Int)) = a + ((j : Int) - (n : Int)) := by omega
      rw [this]

/-- What is marked is held, by as many as it has. -/
theorem markByteS_held (y : List Int) (hy : y.length ≤ 10000000) (a : Int) (ha : 0 ≤ a) (hb : a ≤ 1000000000) :
    ∃ y', y'.length = y.length ∧ ∀ k, y.length < k → laws_markByteS.f k y a = some (a + y.length, y') ∧ laws_heldByteS.f k y' a = some (a + y.length) := by
  obtain ⟨y', h1, h2, _, h4⟩ := markByteS_l y.length 0 (y.length + 1) y a (by omega) (by omega) ha (by omega) (by omega)
  refine ⟨y', h2, fun k hk => ⟨later (g := fun k => laws_markByteS.f k y a) (fun k => laws_markByteS.mono y a k) h1 k hk, ?_⟩⟩
  have h := heldByteS_l y'.length 0 k y' a (by omega) (by omega) ha (by omega) (by omega) (fun j hj1 hj2 => h4 j hj1 (by omega))
  rw [h2] at h
  exact h
end Go.Proofs.YtiglmmofapcefaaDoor.Q
end
section
/- FnExactPutLen of the given program answers true at every two int64; the listed tables hold what the program's text lays. -/
namespace Go.Proofs.YtiglmmofapcefaaDoor.Q
open Go.RowKit Go.Proofs.YtiglmmofapcefaaDoorW.PrintWords Go.Proofs.YtiglmmofapcefaaDoorW.PrintLast Go.Proofs.YtiglmmofapcefaaDoorW.PrintMore
set_option linter.unusedVariables false
set_option linter.unusedSimpArgs false

theorem FnExactPutLen : ∀ (a0 a1 : Int), (Lit.int .i64 a0).wf = true → (Lit.int .i64 a1).wf = true → ∃ k, laws_FnExactPutLen.f k a0 a1 = some true := by
  intro n w hn _
  obtain ⟨h0, h1⟩ := wf_i64 hn
  refine ⟨1000, ?_⟩
  have g1 := spec_PutLen_at n w h1
  have g2 := impl_PutLen_at n w h0 h1
  have hz := putLen_short n w
  generalize putLen n w = r at g1 g2 hz
  have t2 := eqByteS_self r.1 (by omega)
  obtain ⟨z, n1, n2⟩ := markByteS_held r.1 (by omega) 1 (by omega) (by omega)
  have n3 := fun k hk => (n2 k hk).1
  have n4 := fun k hk => (n2 k hk).2
  have q2 : ¬ (1 + (r.1.length : Int)) < 0 := by omega
  unfold laws_FnExactPutLen.f
  simp (disch := omega) only [g1, g2, t2, Option.bind_some, if_true, bne_self_eq_false]
  rw [laws_FnExactPutLen.j0]
  simp (disch := omega) only [g2, t2, n3, n4, Option.bind_some, if_true, if_neg q2, Bool.false_eq_true, if_false, bne_self_eq_false]
  rw [laws_FnExactPutLen.j1]
  simp (disch := omega) only [n4, Option.bind_some, if_true, if_neg q2, Bool.false_eq_true, if_false]
end Go.Proofs.YtiglmmofapcefaaDoor.Q
end
section
/- The tied card of FnExactPutLen: over what the printed walk tells and the pure law; for every input; the listed variables hold what the program's text lays. -/
namespace Go.Proofs.YtiglmmofapcefaaDoor.Q
open Go.RowKit Go.Proofs.YtiglmmofapcefaaDoorW.PrintWords Go.Proofs.YtiglmmofapcefaaDoorW.PrintLast Go.Proofs.YtiglmmofapcefaaDoorW.PrintMore
set_option linter.unusedVariables false
theorem laws_FnExactPutLen.walk (a0 : Int) (a1 : Int) (w : World) (w0 : (Lit.int .i64 a0).wf = true) (w1 : (Lit.int .i64 a1).wf = true) (hG : GLW w) :
    Calls Tryd.prog 7 #[.int .i64 a0, .int .i64 a1] w fun e w' => e = .returned (.bool true) ∧ Below w.heap.size w w' := by
  obtain ⟨k, h⟩ := FnExactPutLen a0 a1 w0 w1
  refine (laws_FnExactPutLen.calls k a0 a1 true w hG rfl h).mono ?_
  rintro e w' ⟨rfl, hd⟩
  exact ⟨rfl, hd⟩
end Go.Proofs.YtiglmmofapcefaaDoor.Q
namespace Go.Proofs.YtiglmmofapcefaaDoor.fnExactPutLen
open Go.ChangeShapes Go.WideShapes Go.ChangeAt Go.RowKit
open Go.ChangeMaps (open_string shut_string)
set_option linter.unusedVariables false
theorem own : ownKnob Tryd.prog.godebug = none := by kernel_rfl
set_option maxRecDepth 100000 in
theorem lifted (os : Os) (started : os.Started) (H : Type) (enc : TypeId × Value → H) :
    ReturnsInHanded {} Tryd.checked os 7 .any (fun w args => (Rows.fnExactPutLenSpec.pre enc Tryd.prog Tryd.f7 Rows.fnExactPutLenRow.domain false w args ∧ laidMet Tryd.prog Laid.list3 w) ∧ sizedMet enc Tryd.prog Tryd.f7 (OpenSpec.ofChange Rows.fnExactPutLenSpec) false w args) (Rows.fnExactPutLenSpec.post enc Tryd.prog Tryd.f7 false true false false) := by
  refine returnsInHanded_of_change_and (C := Tryd.checked) (X := fun w _ => laidMet Tryd.prog Laid.list3 w) (fun _ _ _ hh h => h.of_heap hh) own started (by kernel_rfl) Tryd.func7
    (ChangeSpec.witness_at (enc := enc) (C := Tryd.checked) (os := os) (X := fun w _ => laidMet Tryd.prog Laid.list3 w) false (Laid.world os) #[.int .i64 0, .int .i64 0] 8 rfl (by kernel_rfl) (by kernel_rfl) (by kernel_rfl) (by kernel_rfl) (by kernel_rfl) (Laid.met os _)) ?_
  intro W base args ds gs before hval0 hW hcnd hsz0 hL _
  have hG := Laid.gl hL
  have hsz : (DataW.weightsEach Tryd.prog (Tryd.f7.params.toList ++ Rows.fnExactPutLenSpec.plain.varTypes Tryd.prog) (ds ++ gs)).all (· ≤ reachBytes) = true := hsz0
  have hval : ∀ (j : Nat) t v, Tryd.f7.params[j]? = some t → args[j]? = some v → Value.okWide Tryd.prog W .any base t v := hval0
  have hW' := hW
  obtain ⟨p, q, hA0, hV, rfl, hfz, hnd⟩ := hW
  have hA : DataW.TrodAll enc Tryd.prog W 0 (fun _ => true) true Tryd.f7.params.toList args.toList ds p := hA0
  rw [Tryd.params7] at hA hval hsz
  obtain ⟨v0, vs0, d0, ds0, p0, q0, hargs, rfl, rfl, h0, r0⟩ := trodAll_cons hA
  obtain ⟨v1, vs1, d1, ds1, p1, q1, rfl, rfl, rfl, h1, r1⟩ := trodAll_cons r0
  obtain ⟨rfl, rfl, rfl⟩ := trodAll_nil r1
  obtain rfl : args = #[v0, v1] := by cases args; simp_all
  obtain ⟨rfl, rfl⟩ := trodVars_none hV
  obtain ⟨a0, rfl, rfl, rfl, w0⟩ := open_int Tryd.underlying3 (hval 0 3 v0 rfl rfl) h0
  obtain ⟨a1, rfl, rfl, rfl, w1⟩ := open_int Tryd.underlying3 (hval 1 3 v1 rfl rfl) h1
  clear hA0 hval0 hsz0 hsz
  refine (Q.laws_FnExactPutLen.walk a0 a1 W w0 w1 hG).mono fun e W' ⟨he, bel⟩ => ?_
  subst he
  exact ⟨_, rfl, _, _, _, [], _, [], hW', trodAll_mk1 (shut_bool Tryd.underlying4 _), (trodAll_cons_mk (shut_int Tryd.underlying3 w0) (trodAll_cons_mk (shut_int Tryd.underlying3 w1) trodAll_mk0)), rfl, bel.frame _, fun h => by cases h⟩
theorem over : Rows.fnExactPutLenRow.holds Tryd.pinned (OpenSpec.ofChange Rows.fnExactPutLenSpec) :=
  OpenClaim.holds_of_wide 7 Tryd.f7 rfl rfl rfl rfl rfl rfl rfl ⟨rfl, rfl, rfl, rfl, rfl⟩ rfl rfl rfl rfl rfl (by kernel_rfl) Tryd.func7 (by kernel_rfl)
    (of_decide_eq_true (by kernel_rfl)) (by unfold Func.isWrapper; first | (rw [if_pos (by decide +kernel)]; kernel_rfl) | (rw [if_neg (by decide +kernel)]; exact ⟨rfl, rfl⟩))
    (fun os started H enc _ => lifted os started H enc)
open Go in
set_option maxRecDepth 100000 in
theorem proved : Rows.FnExactPutLenCardSaid :=
  Claim7.holds_tied_plain_at .later [] [.data, .data, .data] true (true, "e319ee1b9ad5d5822beadd882dd403e21ec2a96a5af03b9775b81c9845301121") true
    over (fun _ h => by cases h) (by kernel_rfl) (fun _ h => by cases h) fnExactPutLen_row_tie rfl ⟨rfl, rfl⟩ (by kernel_rfl) rfl
    (fun f fn hf hfn => by
      obtain rfl : f = 7 := Option.some.inj ((show Tryd.prog.funcNamed "loop.example/g00735/laws.FnExactPutLen" = some 7 by kernel_rfl).symm.trans hf) |>.symm
      obtain rfl : fn = Tryd.f7 := (Option.some.inj (Tryd.func7.symm.trans hfn)).symm
      refine ⟨by kernel_rfl, fun j t ht => ?_⟩
      rw [Tryd.params7] at ht
      have h3 : t = 3 ∨ t = 3 := by
        rcases j with _ | _ | j
        · have h_ : t = 3 := by simpa using ht.symm
          simp [h_]
        · have h_ : t = 3 := by simpa using ht.symm
          simp [h_]
        · simp at ht
      rcases h3 with rfl | rfl
      · exact (show Tryd.prog.wantsStandIn 3 = false by kernel_rfl)
      · exact (show Tryd.prog.wantsStandIn 3 = false by kernel_rfl))
    (by kernel_rfl)
#print axioms proved
end Go.Proofs.YtiglmmofapcefaaDoor.fnExactPutLen
namespace Go.Proofs.YtiglmmofapcefaaDoor
/-- The row, under a short name, for the claim. -/
theorem fnExactPutLen_holds : Rows.FnExactPutLenCardSaid := fnExactPutLen.proved
end Go.Proofs.YtiglmmofapcefaaDoor
end
