/- FnExactGetLen of the given program answers true at every slice of bytes and all int64 places and sizes; the listed variables hold what the program's text lays. -/
import Derived.Test.YtiglmmofapcefaaDoorRows
import Derived.Test.YtiglmmofapcefaaDoorQx25
import Derived.Test.YtiglmmofapcefaaDoorLBase
import Derived.Test.YtiglmmofapcefaaDoorQx0
import Derived.Test.YtiglmmofapcefaaDoorLDigits
import Derived.Test.YtiglmmofapcefaaDoorExtNarrow
import Derived.Test.YtiglmmofapcefaaDoorQx7
import Derived.Test.YtiglmmofapcefaaDoorQx20
import Derived.Test.YtiglmmofapcefaaDoorQx23
import Derived.Test.YtiglmmofapcefaaDoorExtPiece
import Derived.Test.YtiglmmofapcefaaDoorQx2
import Derived.Test.YtiglmmofapcefaaDoorQx24
import Derived.Test.YtiglmmofapcefaaDoorQx21
import Derived.Test.YtiglmmofapcefaaDoorQx22
import Derived.Test.YtiglmmofapcefaaDoorQx16
import Derived.Test.YtiglmmofapcefaaDoorCards
import Derived.Test.YtiglmmofapcefaaDoorTie
import Derived.Test.YtiglmmofapcefaaDoorLaid5
import Derived.WalkKit
import Derived.ProofKit
import Derived.OpenShut
import Derived.ShutString
import Derived.ChangeOld
import Derived.Below
import Derived.SizedLaws
import Derived.ChangeSame
import Derived.ChangeVars
import Derived.ChangeMaps5
import Derived.JoinedOf
import Derived.JoinedAt
import Derived.LaidLaws
import Derived.Handed
import Derived.SevenTiedAt
import Derived.Test.YtiglmmofapcefaaDoorWSized
section
/- Lemmas on what the printed functions compute (rdset); no condition. -/
namespace Go.Proofs.YtiglmmofapcefaaDoor.Q
open Go.RowKit Go.Proofs.YtiglmmofapcefaaDoorW.PrintWords Go.Proofs.YtiglmmofapcefaaDoorW.PrintLast Go.Proofs.YtiglmmofapcefaaDoorW.PrintMore
set_option linter.unusedVariables false
set_option linter.unusedSimpArgs false

theorem rd_set_same (y : List Int) (n : Nat) (v : Int) (h : n < y.length) : rd (y.set n v) (n : Int) = v := by
  rw [rd_nat _ _ (by simpa using h)]
  simp

theorem rd_set_other (y : List Int) (n j : Nat) (v : Int) (h : j ≠ n) : rd (y.set n v) (j : Int) = rd y (j : Int) := by
  unfold rd
  simp [List.getD, List.getElem?_set, Ne.symm h]

theorem toNat_cast (n : Nat) : ((n : Int) : Int).toNat = n := by simp

theorem take_set_succ (y l : List Int) (n : Nat) (hn : n < l.length) (hy : y.length = l.length) (h : y.take n = l.take n) :
    (y.set n (rd l (n : Int))).take (n + 1) = l.take (n + 1) := by
  rw [List.take_succ_eq_append_getElem (by simpa [hy] using hn), List.take_succ_eq_append_getElem hn, rd_nat l n hn]
  simp [List.take_set_of_le, h]
end Go.Proofs.YtiglmmofapcefaaDoor.Q
end
section
/- Lemmas on what the printed functions compute (strs); no condition. -/
namespace Go.Proofs.YtiglmmofapcefaaDoor.Q
open Go.RowKit Go.Proofs.YtiglmmofapcefaaDoorW.PrintWords Go.Proofs.YtiglmmofapcefaaDoorW.PrintLast Go.Proofs.YtiglmmofapcefaaDoorW.PrintMore
set_option linter.unusedVariables false
set_option linter.unusedSimpArgs false

def isByte (c : Int) : Prop := 0 ≤ c ∧ c ≤ 255

theorem bytesOf_range (s : ByteArray) : ∀ c ∈ bytesOf s, isByte c := by
  intro c hc
  unfold bytesOf at hc
  obtain ⟨b, _, rfl⟩ := List.mem_map.1 hc
  have := b.toNat_lt
  exact ⟨by omega, by omega⟩

theorem bytesOf_inj {s t : ByteArray} (h : bytesOf s = bytesOf t) : s = t := by
  have e : s.data.toList = t.data.toList := by
    unfold bytesOf at h
    have := congrArg (List.map fun n : Int => UInt8.ofNat n.toNat) h
    simpa [List.map_map, Function.comp_def] using this
  cases s; cases t
  congr 1
  exact Array.toList_inj.1 e

theorem bytesOf_append (s t : ByteArray) : bytesOf (s ++ t) = bytesOf s ++ bytesOf t := by
  unfold bytesOf
  simp

theorem bytesOf_strOfNums (l : List Int) (h : ∀ c ∈ l, isByte c) : bytesOf (strOfNums l) = l := by
  unfold bytesOf
  rw [strOfNums_data, List.map_map]
  have : ∀ c ∈ l, ((fun b : UInt8 => (b.toNat : Int)) ∘ fun n : Int => UInt8.ofNat n.toNat) c = c := by
    intro c hc
    obtain ⟨h0, h1⟩ := h c hc
    have e : (UInt8.ofNat c.toNat).toNat = c.toNat := by simp [UInt8.toNat_ofNat']; omega
    simp only [Function.comp, e]
    omega
  rw [List.map_congr_left this]
  simp

theorem strOfNums_bytesOf (s : ByteArray) : strOfNums (bytesOf s) = s := bytesOf_inj (bytesOf_strOfNums _ (bytesOf_range s))

theorem strOfNums_append (a b : List Int) : strOfNums (a ++ b) = strOfNums a ++ strOfNums b := by
  have e : (strOfNums (a ++ b)).data.toList = (strOfNums a ++ strOfNums b).data.toList := by
    rw [strOfNums_data, ByteArray.toList_data_append, strOfNums_data, strOfNums_data, List.map_append]
  revert e
  generalize strOfNums (a ++ b) = x
  generalize strOfNums a ++ strOfNums b = y
  intro e
  cases x; cases y
  congr 1
  exact Array.toList_inj.1 e

theorem size_eq (s : ByteArray) : s.size = (bytesOf s).length := (bytesOf_length s).symm

theorem bytesOf_extract (s : ByteArray) (a b : Nat) : bytesOf (s.extract a b) = ((bytesOf s).take b).drop a := by
  unfold bytesOf
  rw [ByteArray.data_extract, Array.toList_extract, List.extract_eq_take_drop, List.map_take, List.map_drop, List.drop_take]

theorem toList_of_eq {s t : ByteArray} (h : bytesOf s = bytesOf t) : s.toList = t.toList := by rw [bytesOf_inj h]

theorem bt_eq (s : ByteArray) (i : Int) : bt s i = rd (bytesOf s) i := (rd_bytesOf s i).symm
end Go.Proofs.YtiglmmofapcefaaDoor.Q
end
section
/- Lemmas on what the printed functions compute (bcdPure); no condition. -/
namespace Go.Proofs.YtiglmmofapcefaaDoor.Q
open Go.RowKit Go.Proofs.YtiglmmofapcefaaDoorW.PrintWords Go.Proofs.YtiglmmofapcefaaDoorW.PrintLast Go.Proofs.YtiglmmofapcefaaDoorW.PrintMore
set_option linter.unusedVariables false
set_option linter.unusedSimpArgs false

/-- Two and two digits in one byte. -/
def bcd : List Int → List Int
  | a :: b :: t => ((a - 48) * 16 + (b - 48)) :: bcd t
  | _ => []
def evened (l : List Int) : List Int := if l.length % 2 = 1 then 48 :: l else l
def putBcd (l : List Int) : List Int × Bool := if digs l && decide (l.length ≤ 38) then (bcd (evened l), true) else ([], false)

theorem bcd_length : ∀ (n : Nat) (l : List Int), l.length = 2 * n → (bcd l).length = n
  | 0, l, h => by
    have : l = [] := List.length_eq_zero_iff.1 (by omega)
    rw [this]; rfl
  | n + 1, a :: b :: t, h => by
    simp only [bcd, List.length_cons]
    rw [bcd_length n t (by simp at h; omega)]
  | n + 1, [a], h => by simp at h; omega
  | n + 1, [], h => by simp at h

theorem evened_length (l : List Int) : (evened l).length = 2 * ((l.length + 1) / 2) := by
  unfold evened
  split
  · simp; omega
  · omega

theorem evened_all (l : List Int) (h : l.all isDig = true) : (evened l).all isDig = true := by
  unfold evened
  split
  · simp only [List.all_cons, h, Bool.and_true]; decide
  · exact h

theorem dig_range' {c : Int} (h : isDig c = true) : 48 ≤ c ∧ c ≤ 57 := by
  unfold isDig at h
  simpa using h

theorem all_rd' (l : List Int) (p : Int → Bool) (h : l.all p = true) (n : Nat) (hn : n < l.length) : p (rd l (n : Int)) = true := by
  rw [List.all_eq_true] at h
  exact h _ (rd_mem l n hn)

theorem drop_two (l : List Int) (n : Nat) (h : n + 1 < l.length) : l.drop n = rd l (n : Int) :: rd l ((n + 1 : Nat) : Int) :: l.drop (n + 2) := by
  rw [drop_rd l n (by omega), drop_rd l (n + 1) (by omega)]

theorem digs_and (l : List Int) (h : digs l = true) : l.all isDig = true ∧ 0 < l.length := by
  unfold digs at h
  cases l with
  | nil => simp at h
  | cons a t => simpa using h
end Go.Proofs.YtiglmmofapcefaaDoor.Q
end
section
/- Lemmas on what the printed functions compute (narrow); no condition. -/
namespace Go.Proofs.YtiglmmofapcefaaDoor.Q
open Go.RowKit Go.Proofs.YtiglmmofapcefaaDoorW.PrintWords Go.Proofs.YtiglmmofapcefaaDoorW.PrintLast Go.Proofs.YtiglmmofapcefaaDoorW.PrintMore
set_option linter.unusedVariables false
set_option linter.unusedSimpArgs false

/-- What Narrow answers (impl_Narrow.f). -/
def narrow (l : List Int) : Int × Bool := if digs l = true ∧ l.length ≤ 18 then ((natFrom 0 l : Nat), true) else (0, false)

theorem spec_Narrow_l (s : ByteArray) (hs : s.size ≤ 18) (hd : (bytesOf s).all isDig = true) : ∀ (d n k a : Nat), n + d = s.size → a < 10 ^ n → d < k →
    spec_Narrow.l0 k s (a : Int) (n : Int) = some (((natFrom a ((bytesOf s).drop n) : Nat) : Int), true) := by
  intro d
  induction d with
  | zero =>
    intro n k a hn ha hk
    obtain ⟨k, rfl⟩ : ∃ m, k = m + 1 := ⟨k - 1, by omega⟩
    have c1 : ¬ (n : Int) < (s.size : Int) := by omega
    simp only [spec_Narrow.l0, if_neg c1]
    rw [List.drop_of_length_le (by rw [bytesOf_length]; omega)]
    rfl
  | succ d ih =>
    intro n k a hn ha hk
    obtain ⟨k, rfl⟩ : ∃ m, k = m + 1 := ⟨k - 1, by omega⟩
    have c1 : (n : Int) < (s.size : Int) := by omega
    have c2 : 0 ≤ (n : Int) := by omega
    obtain ⟨b0, b1⟩ := dig_range' (all_rd' _ _ hd n (by rw [bytesOf_length]; omega))
    have hp : 10 ^ (n + 1) = 10 ^ n * 10 := Nat.pow_succ 10 n
    have hq : 10 ^ n ≤ 10 ^ 17 := Nat.pow_le_pow_right (by omega) (by omega)
    have hq2 : (10 : Nat) ^ 17 = 100000000000000000 := by decide
    rw [drop_bt s n (by omega), natFrom, bt_eq]
    simp only [spec_Narrow.l0, if_pos c1, if_pos c2, bt_eq]
    generalize rd (bytesOf s) (n : Int) = c at b0 b1
    have ih' := ih (n + 1) k (a * 10 + (c - 48).toNat) (by omega) (by rw [hp]; omega) (by omega)
    have e2 : wrap64 ((n : Int) + 1) = ((n + 1 : Nat) : Int) := by rw [w64 c2 (by omega)]; omega
    have e1 : wrap64 (wrap64 (wrap64 ((a : Int) * 10) + wrap64 c) - 48) = ((a * 10 + (c - 48).toNat : Nat) : Int) := by
      clear e2 ih'
      have q1 : wrap64 ((a : Int) * 10) = (a : Int) * 10 := w64id (by omega) (by omega)
      rw [q1]
      clear q1
      have q2 : wrap64 c = c := w64id (by omega) (by omega)
      rw [q2]
      clear q2
      have q3 : wrap64 ((a : Int) * 10 + c) = (a : Int) * 10 + c := w64id (by omega) (by omega)
      rw [q3]
      clear q3
      rw [w64id (by omega) (by omega)]
      omega
    rw [e1, e2]
    exact ih'

theorem spec_Narrow_at (s : ByteArray) (hs : s.size ≤ 140737488351232) (k : Nat) (hk : s.size + 30 < k) : spec_Narrow.f k s = some (narrow (bytesOf s)) := by
  obtain ⟨k, rfl⟩ : ∃ m, k = m + 1 := ⟨k - 1, by omega⟩
  unfold spec_Narrow.f narrow
  rw [spec_Digits_at s hs _ (by omega), Option.bind_some, bytesOf_length]
  by_cases h : digs (bytesOf s) = true
  · rw [if_pos h]
    by_cases h2 : s.size ≤ 18
    · have e : decide ((s.size : Int) > 18) = false := decide_eq_false (by omega)
      rw [e, if_pos ⟨h, h2⟩, spec_Narrow.j0, if_neg (by simp)]
      exact spec_Narrow_l s h2 (digs_and _ h).1 s.size 0 k 0 (by omega) (by simp) (by omega)
    · have e : decide ((s.size : Int) > 18) = true := decide_eq_true (by omega)
      rw [e, if_neg (fun q => h2 q.2), spec_Narrow.j0, if_pos rfl]
  · rw [if_neg h, if_neg (fun q => h q.1), spec_Narrow.j0, if_pos rfl]

theorem impl_Narrow_at (s : ByteArray) (hs : s.size ≤ 140737488351232) : impl_Narrow.f s = some (narrow (bytesOf s)) := by
  unfold impl_Narrow.f narrow
  rw [if_pos hs, bytesOf_length]
end Go.Proofs.YtiglmmofapcefaaDoor.Q
end
section
/- Lemmas on what the printed functions compute (ubcd); no condition. -/
namespace Go.Proofs.YtiglmmofapcefaaDoor.Q
open Go.RowKit Go.Proofs.YtiglmmofapcefaaDoorW.PrintWords Go.Proofs.YtiglmmofapcefaaDoorW.PrintLast Go.Proofs.YtiglmmofapcefaaDoorW.PrintMore
set_option linter.unusedVariables false
set_option linter.unusedSimpArgs false

/-- Each byte as two digits. -/
def ubcd : List Int → List Int
  | [] => []
  | c :: t => (48 + c / 16) :: (48 + c % 16) :: ubcd t

theorem ubcd_append (a b : List Int) : ubcd (a ++ b) = ubcd a ++ ubcd b := by
  induction a with
  | nil => rfl
  | cons c t ih => simp [ubcd, ih]

theorem ubcd_length (a : List Int) : (ubcd a).length = 2 * a.length := by
  induction a with
  | nil => rfl
  | cons c t ih => simp [ubcd, ih]; omega

theorem ubcd_range (a : List Int) (h : ∀ c ∈ a, isByte c) : ∀ c ∈ ubcd a, isByte c := by
  induction a with
  | nil => intro c hc; simp [ubcd] at hc
  | cons x t ih =>
    intro c hc
    simp only [ubcd, List.mem_cons] at hc
    have hx := h x (by simp)
    unfold isByte at hx
    rcases hc with rfl | rfl | hc
    · unfold isByte; omega
    · unfold isByte; omega
    · exact ih (fun c hc => h c (by simp [hc])) c hc

theorem take_rd (l : List Int) (n : Nat) (h : n < l.length) : l.take (n + 1) = l.take n ++ [rd l (n : Int)] := by
  rw [List.take_succ_eq_append_getElem h, rd_nat l n h]

theorem rd_drop (l : List Int) (a n : Nat) (h : a + n < l.length) : rd (l.drop a) (n : Int) = rd l ((a + n : Nat) : Int) := by
  rw [rd_nat _ _ (by simp; omega), rd_nat _ _ h]
  simp

/-- The bytes at a place. -/
def cutAt (l : List Int) (a m : Nat) : List Int := (l.drop a).take m

theorem cutAt_take (l : List Int) (a m : Nat) : (l.take (a + m)).drop a = cutAt l a m := by
  unfold cutAt
  rw [List.drop_take]
  congr 1
  omega

theorem cutAt_succ (l : List Int) (a m : Nat) (h : a + m < l.length) : cutAt l a (m + 1) = cutAt l a m ++ [rd l ((a + m : Nat) : Int)] := by
  unfold cutAt
  rw [take_rd _ _ (by simp; omega), rd_drop l a m h]

theorem cutAt_length (l : List Int) (a m : Nat) (h : a + m ≤ l.length) : (cutAt l a m).length = m := by
  unfold cutAt
  simp
  omega

theorem cutAt_mem (l : List Int) (a m : Nat) : ∀ c ∈ cutAt l a m, c ∈ l := by
  intro c hc
  unfold cutAt at hc
  exact List.mem_of_mem_drop (List.mem_of_mem_take hc)

def isBcd (n : Nat) (u : List Int) : Bool := if n % 2 = 1 then decide (rd u 0 = 48) && digs (u.drop 1) else digs u

def inAt (l : List Int) (a1 n : Int) : Bool := decide (1 ≤ n ∧ n ≤ 38 ∧ 0 ≤ a1 ∧ a1 ≤ (l.length : Int) ∧ (n + 1) / 2 ≤ (l.length : Int) - a1)

/-- What GetBcd answers. -/
def getBcd (l : List Int) (a1 n : Int) : List Int × Int × Bool :=
  if inAt l a1 n && isBcd n.toNat (ubcd (cutAt l a1.toNat ((n + 1) / 2).toNat)) then
    ((ubcd (cutAt l a1.toNat ((n + 1) / 2).toNat)).drop (n.toNat % 2), a1 + (n + 1) / 2, true)
  else ([], 0, false)

def asStr (r : List Int × Int × Bool) : ByteArray × Int × Bool := (strOfNums r.1, r.2.1, r.2.2)

theorem strOfNums_nil : strOfNums [] = (⟨#[]⟩ : ByteArray) := bytesOf_inj (by rw [bytesOf_strOfNums _ (by simp)]; rfl)

theorem asStr_none : asStr ([], 0, false) = ((⟨#[]⟩ : ByteArray), 0, false) := by unfold asStr; rw [strOfNums_nil]

theorem ubcd_digs (n m : Nat) (u : List Int) (hm : m = (n + 1) / 2) (hn : 1 ≤ n) (hu : u.length = 2 * m) : isBcd n u = (digs u && (decide (n % 2 = 0) || decide (rd u 0 = 48))) := by
  unfold isBcd
  by_cases h : n % 2 = 1
  · rw [if_pos h]
    have h0 : decide (n % 2 = 0) = false := decide_eq_false (by omega)
    rw [h0, Bool.false_or]
    have hd := drop_rd u 0 (by omega)
    simp only [List.drop_zero, Nat.zero_add] at hd
    have hp : 0 < (u.drop 1).length := by simp; omega
    by_cases h48 : rd u 0 = 48
    · have e1 : digs u = digs (u.drop 1) := by
        unfold digs
        have e2 : u.all isDig = (u.drop 1).all isDig := by
          have h7 : isDig (rd u ((0 : Nat) : Int)) = true := by simpa [h48] using (by decide : isDig 48 = true)
          have h8 : u.all isDig = (rd u ((0 : Nat) : Int) :: u.drop 1).all isDig := congrArg (fun x => List.all x isDig) hd
          rw [h8, List.all_cons, h7, Bool.true_and]
        have e3 : u.isEmpty = false := by cases u with | nil => simp at hu; omega | cons => rfl
        have e4 : (u.drop 1).isEmpty = false := by
          generalize u.drop 1 = v at hp
          cases v with | nil => simp at hp | cons => rfl
        rw [e2, e3, e4]
      simp [h48, e1]
    · simp [h48]
  · rw [if_neg h]
    have h0 : decide (n % 2 = 0) = true := decide_eq_true (by omega)
    rw [h0]
    simp
end Go.Proofs.YtiglmmofapcefaaDoor.Q
end
section
/- Lemmas on what the printed functions compute (getBcdSpec); no condition. -/
namespace Go.Proofs.YtiglmmofapcefaaDoor.Q
open Go.RowKit Go.Proofs.YtiglmmofapcefaaDoorW.PrintWords Go.Proofs.YtiglmmofapcefaaDoorW.PrintLast Go.Proofs.YtiglmmofapcefaaDoorW.PrintMore
set_option linter.unusedVariables false
set_option linter.unusedSimpArgs false

theorem getBcd_val (l : List Int) (a n m : Nat) (hm : m = (n + 1) / 2) (h1 : 1 ≤ n) (h2 : n ≤ 38) (h3 : a + m ≤ l.length) :
    getBcd l (a : Int) (n : Int) = if isBcd n (ubcd (cutAt l a m)) = true then ((ubcd (cutAt l a m)).drop (n % 2), (a : Int) + (m : Int), true) else ([], 0, false) := by
  have e0 : ((n : Int) + 1) / 2 = (m : Int) := by omega
  have e1 : inAt l (a : Int) (n : Int) = true := by
    unfold inAt
    rw [e0]
    exact decide_eq_true (by omega)
  have e2 : (n : Int).toNat = n := by omega
  have e3 : (a : Int).toNat = a := by omega
  have e4 : (m : Int).toNat = m := by omega
  unfold getBcd
  rw [e1, e0, e2, e3, e4, Bool.true_and]

theorem spec_GetBcd_l (l : List Int) (hl : l.length ≤ 140737488351232) (hb : ∀ c ∈ l, isByte c) (a n m : Nat) (hm : m = (n + 1) / 2) (h1 : 1 ≤ n) (h2 : n ≤ 38) (h3 : a + m ≤ l.length) : ∀ (d i k : Nat), i + d = m → d + 50 < k →
    spec_GetBcd.l0 k l (a : Int) (n : Int) (strOfNums (ubcd (cutAt l a i))) ((a + i : Nat) : Int) = some (asStr (getBcd l (a : Int) (n : Int))) := by
  have e2 : True → wrap64 (Int.tdiv (wrap64 ((n : Int) + 1)) 2) = (m : Int) := by
    intro _
    have q : wrap64 ((n : Int) + 1) = ((n + 1 : Nat) : Int) := by unfold wrap64; omega
    rw [q, Int.tdiv_eq_ediv_of_nonneg (by omega)]
    unfold wrap64
    omega
  have e3 : True → wrap64 ((a : Int) + (m : Int)) = ((a + m : Nat) : Int) := by intro _; unfold wrap64; omega
  intro d
  induction d with
  | zero =>
    intro i k hd hk
    obtain ⟨k, rfl⟩ : ∃ m, k = m + 1 := ⟨k - 1, by omega⟩
    have hi : i = m := by omega
    subst hi
    have c1 : ¬ ((a + i : Nat) : Int) < ((a + i : Nat) : Int) := by omega
    have hr : ∀ c ∈ ubcd (cutAt l a i), isByte c := ubcd_range _ (fun c hc => hb c (cutAt_mem l a i c hc))
    have hz : (ubcd (cutAt l a i)).length = 2 * i := by rw [ubcd_length, cutAt_length l a i h3]
    rw [getBcd_val l a n i hm h1 h2 h3]
    simp only [spec_GetBcd.l0, e2 trivial, e3 trivial, if_neg c1]
    generalize ubcd (cutAt l a i) = u at hr hz
    have hbs : bytesOf (strOfNums u) = u := bytesOf_strOfNums u hr
    have hsz : (strOfNums u).size = u.length := by rw [size_eq, hbs]
    have eend : ((a + i : Nat) : Int) = (a : Int) + (i : Int) := by omega
    by_cases ho : n % 2 = 1
    · have c2 : Int.tmod (n : Int) 2 = 1 := by rw [Int.tmod_eq_emod_of_nonneg (by omega)]; omega
      have c3 : 0 < ((strOfNums u).size : Int) := by omega
      have c4 : 1 ≤ ((strOfNums u).size : Int) := by omega
      rw [if_pos c2, if_pos c3, if_pos c4, bt_eq, hbs]
      unfold isBcd
      rw [if_pos ho, ho]
      by_cases h48 : rd u 0 = 48
      · have e5 : bytesOf ((strOfNums u).extract 1 (strOfNums u).size) = u.drop 1 := by
          rw [bytesOf_extract, hbs, hsz, List.take_length]
        have e6 : (strOfNums u).extract 1 (strOfNums u).size = strOfNums (u.drop 1) := by
          rw [← e5, strOfNums_bytesOf]
        have e7 : ((strOfNums u).extract 1 (strOfNums u).size).size ≤ 40 := by
          rw [size_eq, e5, List.length_drop]; omega
        rw [if_pos h48, spec_Digits_at _ (by omega) k (by omega), Option.bind_some, e5, e6]
        have h48' : decide (rd u 0 = 48) = true := decide_eq_true h48
        rw [h48', Bool.true_and]
        by_cases hg : digs (u.drop 1) = true
        · rw [if_pos hg, if_pos hg, eend]; rfl
        · rw [if_neg hg, if_neg hg, asStr_none]
      · have h48' : decide (rd u 0 = 48) = false := decide_eq_false h48
        rw [if_neg h48, h48', Bool.false_and, if_neg (by simp), asStr_none]
    · have c2 : ¬ Int.tmod (n : Int) 2 = 1 := by rw [Int.tmod_eq_emod_of_nonneg (by omega)]; omega
      have ho' : n % 2 = 0 := by omega
      rw [if_neg c2, spec_Digits_at _ (by omega) k (by omega), Option.bind_some, hbs]
      unfold isBcd
      rw [if_neg ho, ho']
      by_cases hg : digs u = true
      · rw [if_pos hg, if_pos hg, eend]; rfl
      · rw [if_neg hg, if_neg hg, asStr_none]
  | succ d ih =>
    intro i k hd hk
    obtain ⟨k, rfl⟩ : ∃ m, k = m + 1 := ⟨k - 1, by omega⟩
    have c1 : ((a + i : Nat) : Int) < ((a + m : Nat) : Int) := by omega
    have c2 : 0 ≤ ((a + i : Nat) : Int) := by omega
    have c3 : ((a + i : Nat) : Int) < (l.length : Int) := by omega
    have e4 : wrap64 (((a + i : Nat) : Int) + 1) = ((a + (i + 1) : Nat) : Int) := by unfold wrap64; omega
    have h4 : a + i < l.length := by omega
    have hs : strOfNums (ubcd (cutAt l a (i + 1))) = strOfNums (ubcd (cutAt l a i)) ++ strOfNums (ubcd [rd l ((a + i : Nat) : Int)]) := by
      rw [cutAt_succ l a i h4, ubcd_append, strOfNums_append]
    have ih' := ih (i + 1) k (by omega) (by omega)
    rw [hs] at ih'
    clear hs ih
    obtain ⟨b0, b1⟩ := hb _ (rd_mem l (a + i) (by omega))
    have hz : (strOfNums (ubcd (cutAt l a i))).size = 2 * i := by rw [strOfNums_size, ubcd_length, cutAt_length l a i (by omega)]
    simp only [spec_GetBcd.l0, e2 trivial, e3 trivial, e4, if_pos c1, if_pos c2, if_pos c3, Option.bind_some]
    generalize rd l ((a + i : Nat) : Int) = b at b0 b1 ih'
    have q1 : wrap64 b = b := by unfold wrap64; omega
    have q2 : Int.tdiv b 16 = b / 16 := Int.tdiv_eq_ediv_of_nonneg (by omega)
    have q3 : Int.tmod b 16 = b % 16 := Int.tmod_eq_emod_of_nonneg (by omega)
    have q4 : wrap64 (48 + wrap64 (b / 16)) % 256 = 48 + b / 16 := by unfold wrap64; omega
    have q5 : wrap64 (48 + b % 16) % 256 = 48 + b % 16 := by unfold wrap64; omega
    rw [q1, q2, q3, q4, q5]
    have q6 : (strOfNums (ubcd (cutAt l a i))).size + (strOfNums [48 + b / 16, 48 + b % 16]).size ≤ 9223372036854775807 := by
      rw [hz, strOfNums_size]
      simp
      omega
    rw [if_pos q6]
    exact ih'

theorem spec_GetBcd_at (l : List Int) (hl : l.length ≤ 140737488351232) (hb : ∀ c ∈ l, isByte c) (a1 n : Int) (w1 : -9223372036854775808 ≤ a1 ∧ a1 ≤ 9223372036854775807) (w2 : -9223372036854775808 ≤ n ∧ n ≤ 9223372036854775807) (k : Nat) (hk : 100 < k) :
    spec_GetBcd.f k l a1 n = some (asStr (getBcd l a1 n)) := by
  obtain ⟨k, rfl⟩ : ∃ m, k = m + 1 := ⟨k - 1, by omega⟩
  have hno : inAt l a1 n = false → spec_GetBcd.j0 (k + 1) l a1 n true = some (asStr (getBcd l a1 n)) := by
    intro h
    unfold getBcd
    rw [h, Bool.false_and, if_neg (by simp), asStr_none, spec_GetBcd.j0, if_pos rfl]
  unfold spec_GetBcd.f
  by_cases h1 : n < 1
  · rw [if_pos h1]; exact hno (decide_eq_false (by omega))
  by_cases h2 : n > 38
  · rw [if_neg h1, if_pos h2]; exact hno (decide_eq_false (by omega))
  by_cases h3 : a1 < 0
  · rw [if_neg h1, if_neg h2, if_pos h3]; exact hno (decide_eq_false (by omega))
  by_cases h4 : a1 > (l.length : Int)
  · rw [if_neg h1, if_neg h2, if_neg h3, if_pos h4]; exact hno (decide_eq_false (by omega))
  rw [if_neg h1, if_neg h2, if_neg h3, if_neg h4]
  have e0 : wrap64 (n + 1) = n + 1 := by unfold wrap64; omega
  have e1 : Int.tdiv (n + 1) 2 = (n + 1) / 2 := Int.tdiv_eq_ediv_of_nonneg (by omega)
  have e2 : wrap64 ((n + 1) / 2) = (n + 1) / 2 := by unfold wrap64; omega
  have e3 : wrap64 ((l.length : Int) - a1) = (l.length : Int) - a1 := by unfold wrap64; omega
  rw [e0, e1, e2, e3]
  by_cases h5 : (n + 1) / 2 > (l.length : Int) - a1
  · rw [decide_eq_true h5]; exact hno (decide_eq_false (by omega))
  rw [decide_eq_false h5, spec_GetBcd.j0, if_neg (by simp)]
  have h := spec_GetBcd_l l hl hb a1.toNat n.toNat ((n.toNat + 1) / 2) rfl (by omega) (by omega) (by omega) ((n.toNat + 1) / 2) 0 k (by omega) (by omega)
  have ea : ((a1.toNat : Nat) : Int) = a1 := by omega
  have en : ((n.toNat : Nat) : Int) = n := by omega
  have ez : cutAt l a1.toNat 0 = [] := rfl
  rw [ez, Nat.add_zero, ea, en] at h
  have eu : ubcd [] = [] := rfl
  rw [eu, strOfNums_nil] at h
  exact h
end Go.Proofs.YtiglmmofapcefaaDoor.Q
end
section
/- Lemmas on what the printed functions compute (getBcdImpl); no condition. -/
namespace Go.Proofs.YtiglmmofapcefaaDoor.Q
open Go.RowKit Go.Proofs.YtiglmmofapcefaaDoorW.PrintWords Go.Proofs.YtiglmmofapcefaaDoorW.PrintLast Go.Proofs.YtiglmmofapcefaaDoorW.PrintMore
set_option linter.unusedVariables false
set_option linter.unusedSimpArgs false

theorem impl_piece_at (l : List Int) (a1 m : Int) : impl_piece.f l a1 m = if 0 ≤ a1 ∧ a1 ≤ (l.length : Int) ∧ 0 ≤ m ∧ m ≤ (l.length : Int) - a1 then some (cutAt l a1.toNat m.toNat, true) else some ([], false) := by
  unfold impl_piece.f
  by_cases h : 0 ≤ a1 ∧ a1 ≤ (l.length : Int) ∧ 0 ≤ m ∧ m ≤ (l.length : Int) - a1
  · rw [if_pos h, if_pos h]
    have e : (a1 + m).toNat = a1.toNat + m.toNat := by omega
    rw [e, cutAt_take]
  · rw [if_neg h, if_neg h]

theorem impl_GetBcd_l (l : List Int) (hb : ∀ c ∈ l, isByte c) (hl : l.length ≤ 40) (a1 n : Int) (ok : Bool) (z : List Int) : ∀ (d i k : Nat), i + d = l.length → d < k → ∃ j, k = j + d + 1 ∧ 
    impl_GetBcd.l0 k a1 n z ok (ubcd (l.take i)) l (l.length : Int) (i : Int) = impl_GetBcd.l0 (j + 1) a1 n z ok (ubcd l) l (l.length : Int) (l.length : Int) := by
  intro d
  induction d with
  | zero =>
    intro i k hd hk
    refine ⟨k - 1, by omega, ?_⟩
    have hi : i = l.length := by omega
    subst hi
    have hk' : k - 1 + 1 = k := by omega
    rw [List.take_length, hk']
  | succ d ih =>
    intro i k hd hk
    obtain ⟨k, rfl⟩ : ∃ m, k = m + 1 := ⟨k - 1, by omega⟩
    obtain ⟨j, hj, ih'⟩ := ih (i + 1) k (by omega) (by omega)
    refine ⟨j, by omega, ?_⟩
    rw [← ih', take_rd l i (by omega), ubcd_append]
    have c1 : (i : Int) < (l.length : Int) := by omega
    have c2 : 0 ≤ (i : Int) := by omega
    have e4 : wrap64 ((i : Int) + 1) = ((i + 1 : Nat) : Int) := by unfold wrap64; omega
    obtain ⟨b0, b1⟩ := hb _ (rd_mem l i (by omega))
    have hz : (ubcd (l.take i)).length ≤ 80 := by rw [ubcd_length, List.length_take]; omega
    rw [impl_GetBcd.l0]
    simp only [e4, if_pos c1, if_pos c2, Option.bind_some]
    generalize rd l (i : Int) = b at b0 b1
    have q2 : Go.bits .and .u8 b 15 = b % 16 := u8_and15 b b0 (by omega)
    have q4 : (48 + b / 16) % 256 = 48 + b / 16 := by omega
    have q5 : (48 + b % 16) % 256 = 48 + b % 16 := by omega
    rw [q2, q4, q5]
    have q6 : (ubcd (l.take i)).length + [48 + b / 16, 48 + b % 16].length < 140737488355328 := by
      simp
      omega
    rw [if_pos q6]
    rfl

theorem impl_GetBcd_e (u : List Int) (hr : ∀ c ∈ u, isByte c) (a1 : Int) (n m : Nat) (z v : List Int) (hm : m = (n + 1) / 2) (h1 : 1 ≤ n) (h2 : n ≤ 38) (hz : z.length = m) (hu : u.length = 2 * m) (ha : 0 ≤ a1) (hb : a1 ≤ 140737488351232) (k : Nat) (hk : 50 < k) :
    impl_GetBcd.l0 (k + 1) a1 (n : Int) z true u v (v.length : Int) (v.length : Int) = some (asStr (if isBcd n u = true then (u.drop (n % 2), a1 + (m : Int), true) else ([], 0, false))) := by
  have c1 : ¬ (v.length : Int) < (v.length : Int) := by omega
  have hbs : bytesOf (strOfNums u) = u := bytesOf_strOfNums u hr
  have hsz : (strOfNums u).size = u.length := by rw [size_eq, hbs]
  simp only [impl_GetBcd.l0, if_neg c1, if_true]
  rw [impl_Digits_at _ (by omega) k (by omega), hbs, Option.bind_some, ubcd_digs n m u hm h1 hu]
  by_cases hg : digs u = true
  · have e1 : wrap64 ((u.length : Int) - (n : Int)) = ((n % 2 : Nat) : Int) := by unfold wrap64; omega
    have e2 : wrap64 (a1 + (z.length : Int)) = a1 + (m : Int) := by unfold wrap64; omega
    have e3 : (((n % 2 : Nat) : Int)).toNat = n % 2 := by omega
    have c2 : 0 ≤ ((n % 2 : Nat) : Int) := by omega
    have c3 : ((n % 2 : Nat) : Int) ≤ (u.length : Int) := by omega
    rw [if_pos hg, e1, e2, if_pos c2, if_pos c3, hg, Bool.true_and, e3]
    by_cases ho : n % 2 = 1
    · have c2 : Int.tmod (n : Int) 2 = 1 := by rw [Int.tmod_eq_emod_of_nonneg (by omega)]; omega
      have c3 : 0 < (u.length : Int) := by omega
      have h0 : decide (n % 2 = 0) = false := decide_eq_false (by omega)
      rw [if_pos c2, if_pos c3, h0, Bool.false_or]
      by_cases h48 : rd u 0 = 48
      · rw [if_pos h48, if_pos (decide_eq_true h48)]; rfl
      · rw [if_neg h48, if_neg (by simp [h48]), asStr_none]
    · have c2 : ¬ Int.tmod (n : Int) 2 = 1 := by rw [Int.tmod_eq_emod_of_nonneg (by omega)]; omega
      have h0 : decide (n % 2 = 0) = true := decide_eq_true (by omega)
      rw [if_neg c2, h0, Bool.true_or, if_pos rfl]; rfl
  · rw [if_neg hg]
    have : digs u = false := by simpa using hg
    rw [this, Bool.false_and, if_neg (by simp), asStr_none]

theorem impl_within_at (a b c : Int) : impl_within.f a b c = some (decide (b ≤ a ∧ a ≤ c)) := by
  unfold impl_within.f
  by_cases h : b ≤ a
  · rw [if_pos h]; simp [h]
  · rw [if_neg h]; simp [h]

theorem impl_GetBcd_at (l : List Int) (hl : l.length ≤ 140737488351232) (hb : ∀ c ∈ l, isByte c) (a1 n : Int) (w1 : -9223372036854775808 ≤ a1 ∧ a1 ≤ 9223372036854775807) (w2 : -9223372036854775808 ≤ n ∧ n ≤ 9223372036854775807) (k : Nat) (hk : 200 < k) :
    impl_GetBcd.f k l a1 n = some (asStr (getBcd l a1 n)) := by
  unfold impl_GetBcd.f
  rw [impl_within_at, Option.bind_some]
  by_cases h1 : 1 ≤ n ∧ n ≤ 38
  · rw [if_pos (decide_eq_true h1)]
    have e0 : wrap64 (n + 1) = n + 1 := by unfold wrap64; omega
    have e1 : Int.tdiv (n + 1) 2 = (n + 1) / 2 := Int.tdiv_eq_ediv_of_nonneg (by omega)
    have e2 : wrap64 ((n + 1) / 2) = (n + 1) / 2 := by unfold wrap64; omega
    rw [e0, e1, e2, impl_piece_at]
    by_cases h2 : 0 ≤ a1 ∧ a1 ≤ (l.length : Int) ∧ 0 ≤ (n + 1) / 2 ∧ (n + 1) / 2 ≤ (l.length : Int) - a1
    · rw [if_pos h2, Option.bind_some]
      have hz : (cutAt l a1.toNat ((n + 1) / 2).toNat).length = ((n + 1) / 2).toNat := cutAt_length _ _ _ (by omega)
      have hb' : ∀ c ∈ cutAt l a1.toNat ((n + 1) / 2).toNat, isByte c := fun c hc => hb c (cutAt_mem _ _ _ c hc)
      obtain ⟨j, hj, h⟩ := impl_GetBcd_l (cutAt l a1.toNat ((n + 1) / 2).toNat) hb' (by omega) a1 n true (cutAt l a1.toNat ((n + 1) / 2).toNat) (cutAt l a1.toNat ((n + 1) / 2).toNat).length 0 k (by omega) (by omega)
      have h' : impl_GetBcd.l0 k a1 n (cutAt l a1.toNat ((n + 1) / 2).toNat) true (([] : List Int)) (cutAt l a1.toNat ((n + 1) / 2).toNat) ((cutAt l a1.toNat ((n + 1) / 2).toNat).length : Int) 0 = _ := h
      simp only
      rw [h']
      have en : ((n.toNat : Nat) : Int) = n := by omega
      have h5 := impl_GetBcd_e (ubcd (cutAt l a1.toNat ((n + 1) / 2).toNat)) (ubcd_range _ hb') a1 n.toNat ((n + 1) / 2).toNat (cutAt l a1.toNat ((n + 1) / 2).toNat) (cutAt l a1.toNat ((n + 1) / 2).toNat) (by omega) (by omega) (by omega) hz (by rw [ubcd_length, hz]) h2.1 (by omega) j (by omega)
      rw [en] at h5
      rw [h5]
      unfold getBcd
      have e3 : inAt l a1 n = true := decide_eq_true (by omega)
      have e4 : ((((n + 1) / 2).toNat : Nat) : Int) = (n + 1) / 2 := by omega
      rw [e3, Bool.true_and, e4]
    · rw [if_neg h2, Option.bind_some]
      obtain ⟨k, rfl⟩ : ∃ m, k = m + 1 := ⟨k - 1, by omega⟩
      unfold getBcd
      have e3 : inAt l a1 n = false := decide_eq_false (by omega)
      rw [e3, Bool.false_and, if_neg (by simp), asStr_none]
      simp only
      rw [impl_GetBcd.l0]
      simp
  · rw [if_neg (by simpa using h1)]
    unfold getBcd
    have e3 : inAt l a1 n = false := decide_eq_false (by omega)
    rw [e3, Bool.false_and, if_neg (by simp), asStr_none]
end Go.Proofs.YtiglmmofapcefaaDoor.Q
end
section
/- Lemmas on what the printed functions compute (getLen); no condition. -/
namespace Go.Proofs.YtiglmmofapcefaaDoor.Q
open Go.RowKit Go.Proofs.YtiglmmofapcefaaDoorW.PrintWords Go.Proofs.YtiglmmofapcefaaDoorW.PrintLast Go.Proofs.YtiglmmofapcefaaDoorW.PrintMore
set_option linter.unusedVariables false
set_option linter.unusedSimpArgs false

theorem getBcd_ok (l : List Int) (a1 n : Int) (hb : ∀ c ∈ l, isByte c) (h : (getBcd l a1 n).2.2 = true) :
    digs (getBcd l a1 n).1 = true ∧ (getBcd l a1 n).1.length = n.toNat ∧ (∀ c ∈ (getBcd l a1 n).1, isByte c) ∧ (getBcd l a1 n).2.1 = a1 + (n + 1) / 2 ∧ 1 ≤ n ∧ n ≤ 38 ∧ 0 ≤ a1 ∧ a1 + (n + 1) / 2 ≤ (l.length : Int) := by
  unfold getBcd at h ⊢
  by_cases q : (inAt l a1 n && isBcd n.toNat (ubcd (cutAt l a1.toNat ((n + 1) / 2).toNat))) = true
  · rw [if_pos q] at h ⊢
    simp only [Bool.and_eq_true] at q
    obtain ⟨q1, q2⟩ := q
    have q3 := of_decide_eq_true q1
    have hlen : (ubcd (cutAt l a1.toNat ((n + 1) / 2).toNat)).length = 2 * ((n + 1) / 2).toNat := by rw [ubcd_length, cutAt_length _ _ _ (by omega)]
    have hr : ∀ c ∈ ubcd (cutAt l a1.toNat ((n + 1) / 2).toNat), isByte c := ubcd_range _ (fun c hc => hb c (cutAt_mem _ _ _ c hc))
    generalize ubcd (cutAt l a1.toNat ((n + 1) / 2).toNat) = u at q2 hlen hr
    refine ⟨?_, ?_, fun c hc => hr c (List.mem_of_mem_drop hc), rfl, q3.1, q3.2.1, q3.2.2.1, by omega⟩
    · unfold isBcd at q2
      by_cases o : n.toNat % 2 = 1
      · rw [if_pos o] at q2
        simp only [Bool.and_eq_true] at q2
        simp only [o]
        exact q2.2
      · rw [if_neg o] at q2
        have o' : n.toNat % 2 = 0 := by omega
        simp only [o', List.drop_zero]
        exact q2
    · simp only [List.length_drop]
      omega
  · rw [if_neg q] at h
    exact absurd h (by simp)

theorem getBcd_no (l : List Int) (a1 n : Int) (h : (getBcd l a1 n).2.2 = false) : getBcd l a1 n = ([], 0, false) := by
  unfold getBcd at h ⊢
  split
  · rename_i q
    rw [if_pos q] at h
    exact absurd h (by simp)
  · rfl

/-- What GetLen answers. -/
def getLen (l : List Int) (a1 w : Int) : Int × Int × Bool :=
  if (w = 2 ∨ w = 3) ∧ (getBcd l a1 w).2.2 = true then (((natFrom 0 (getBcd l a1 w).1 : Nat) : Int), (getBcd l a1 w).2.1, true) else (0, 0, false)

theorem spec_GetLen_at (l : List Int) (hl : l.length ≤ 140737488351232) (hb : ∀ c ∈ l, isByte c) (a1 w : Int) (w1 : -9223372036854775808 ≤ a1 ∧ a1 ≤ 9223372036854775807) (k : Nat) (hk : 300 < k) :
    spec_GetLen.f k l a1 w = some (getLen l a1 w) := by
  obtain ⟨k, rfl⟩ : ∃ m, k = m + 1 := ⟨k - 1, by omega⟩
  have hj : (w = 2 ∨ w = 3) → spec_GetLen.j0 (k + 1) l a1 w false = some (getLen l a1 w) := by
    intro h2
    rw [spec_GetLen.j0, if_neg (by simp), spec_GetBcd_at l hl hb a1 w w1 (by omega) k (by omega), Option.bind_some]
    unfold getLen
    cases hr : (getBcd l a1 w).2.2 with
    | true =>
      obtain ⟨p1, p2, p3, _⟩ := getBcd_ok l a1 w hb hr
      have hz : (strOfNums (getBcd l a1 w).1).size ≤ 18 := by rw [strOfNums_size]; omega
      rw [if_pos ⟨h2, rfl⟩]
      unfold asStr
      simp only
      rw [spec_Narrow_at _ (by omega) k (by omega), Option.bind_some, bytesOf_strOfNums _ p3]
      unfold narrow
      rw [if_pos ⟨p1, by omega⟩, hr]
    | false =>
      have e := getBcd_no l a1 w hr
      rw [if_neg (by simp), e, asStr_none]
      simp only
      rw [spec_Narrow_at _ (by decide) k (by have : (⟨#[]⟩ : ByteArray).size = 0 := rfl; omega), Option.bind_some]
      rfl
  unfold spec_GetLen.f
  by_cases h2 : w = 2
  · rw [if_pos h2]; exact hj (Or.inl h2)
  rw [if_neg h2]
  by_cases h3 : w = 3
  · have e : (w != 3) = false := by simp [h3]
    rw [e]; exact hj (Or.inr h3)
  · have e : (w != 3) = true := by simp [h3]
    rw [e, spec_GetLen.j0, if_pos rfl]
    unfold getLen
    rw [if_neg (by omega)]

theorem impl_GetLen_at (l : List Int) (hl : l.length ≤ 140737488351232) (hb : ∀ c ∈ l, isByte c) (a1 w : Int) (w1 : -9223372036854775808 ≤ a1 ∧ a1 ≤ 9223372036854775807) (k : Nat) (hk : 300 < k) :
    impl_GetLen.f k l a1 w = some (getLen l a1 w) := by
  have hin : impl_within.f w 2 3 = some (decide (w = 2 ∨ w = 3)) := by
    unfold impl_within.f
    by_cases h : 2 ≤ w
    · rw [if_pos h]; congr 1; apply decide_eq_decide.2; omega
    · rw [if_neg h]; congr 1; symm; apply decide_eq_false; omega
  unfold impl_GetLen.f getLen
  rw [hin, Option.bind_some]
  by_cases h2 : w = 2 ∨ w = 3
  · rw [if_pos (decide_eq_true h2), impl_GetBcd_at l hl hb a1 w w1 (by omega) k (by omega), Option.bind_some]
    unfold asStr
    simp only
    cases hr : (getBcd l a1 w).2.2 with
    | true =>
      obtain ⟨p1, p2, p3, _⟩ := getBcd_ok l a1 w hb hr
      have hz : (strOfNums (getBcd l a1 w).1).size ≤ 18 := by rw [strOfNums_size]; omega
      rw [if_pos rfl, if_pos ⟨h2, rfl⟩, impl_Narrow_at _ (by omega), Option.bind_some, bytesOf_strOfNums _ p3]
      unfold narrow
      rw [if_pos ⟨p1, by omega⟩]
    | false => rw [if_neg (by simp), if_neg (by simp)]
  · rw [if_neg (by simpa using h2), if_neg (fun q => h2 q.1)]
end Go.Proofs.YtiglmmofapcefaaDoor.Q
end
section
/- Lemmas on what the printed functions compute (toByteS); no condition. -/
namespace Go.Proofs.YtiglmmofapcefaaDoor.Q
open Go.RowKit Go.Proofs.YtiglmmofapcefaaDoorW.PrintWords Go.Proofs.YtiglmmofapcefaaDoorW.PrintLast Go.Proofs.YtiglmmofapcefaaDoorW.PrintMore
set_option linter.unusedVariables false
set_option linter.unusedSimpArgs false

theorem toByteS_l (l : List Int) (hl : l.length ≤ 10000000) : ∀ (d n k : Nat) (y : List Int), n + d = l.length → y.length = l.length → y.take n = l.take n → d < k →
    laws_toByteS.l0 k l y (n : Int) = some l := by
  intro d
  induction d with
  | zero =>
    intro n k y hd hy ht hk
    obtain ⟨k, rfl⟩ : ∃ m, k = m + 1 := ⟨k - 1, by omega⟩
    have c1 : ¬ (n : Int) < (l.length : Int) := by omega
    simp only [laws_toByteS.l0, if_neg c1]
    have hn : n = l.length := by omega
    rw [hn, List.take_length, List.take_of_length_le (by omega)] at ht
    rw [ht]
  | succ d ih =>
    intro n k y hd hy ht hk
    obtain ⟨k, rfl⟩ : ∃ m, k = m + 1 := ⟨k - 1, by omega⟩
    have c1 : (n : Int) < (l.length : Int) := by omega
    have c2 : 0 ≤ (n : Int) := by omega
    have c3 : (n : Int) < (y.length : Int) := by omega
    simp only [laws_toByteS.l0, if_pos c1, if_pos c2, if_pos c3, w64 c2 (by omega), toNat_cast]
    exact ih (n + 1) k _ (by omega) (by simpa using hy) (take_set_succ y l n (by omega) hy ht) (by omega)

theorem toByteS_at (l : List Int) (hl : l.length ≤ 10000000) (k : Nat) (hk : l.length < k) : laws_toByteS.f k l = some l := by
  unfold laws_toByteS.f
  rw [if_pos (by omega), if_pos (by omega)]
  exact toByteS_l l hl l.length 0 k _ (by omega) (by simp) (by simp) hk
end Go.Proofs.YtiglmmofapcefaaDoor.Q
end
section
/- Lemmas on what the printed functions compute (eqByteS); no condition. -/
namespace Go.Proofs.YtiglmmofapcefaaDoor.Q
open Go.RowKit Go.Proofs.YtiglmmofapcefaaDoorW.PrintWords Go.Proofs.YtiglmmofapcefaaDoorW.PrintLast Go.Proofs.YtiglmmofapcefaaDoorW.PrintMore
set_option linter.unusedVariables false
set_option linter.unusedSimpArgs false

theorem eqByteS_l (l : List Int) (hl : l.length ≤ 10000000) : ∀ (d n k : Nat), n + d = l.length → d < k → laws_eqByteS.l0 k l l (n : Int) = some true := by
  intro d
  induction d with
  | zero =>
    intro n k hd hk
    obtain ⟨k, rfl⟩ : ∃ m, k = m + 1 := ⟨k - 1, by omega⟩
    have c1 : ¬ (n : Int) < (l.length : Int) := by omega
    simp only [laws_eqByteS.l0, if_neg c1]
  | succ d ih =>
    intro n k hd hk
    obtain ⟨k, rfl⟩ : ∃ m, k = m + 1 := ⟨k - 1, by omega⟩
    have c1 : (n : Int) < (l.length : Int) := by omega
    have c2 : 0 ≤ (n : Int) := by omega
    simp only [laws_eqByteS.l0, if_pos c1, if_pos c2, if_true, w64 c2 (by omega)]
    exact ih (n + 1) k (by omega) (by omega)

theorem eqByteS_self (l : List Int) (hl : l.length ≤ 10000000) (k : Nat) (hk : l.length < k) : laws_eqByteS.f k l l = some true := by
  unfold laws_eqByteS.f
  rw [if_pos rfl]
  exact eqByteS_l l hl l.length 0 k (by omega) hk
end Go.Proofs.YtiglmmofapcefaaDoor.Q
end
section
/- FnExactGetLen of the given program answers true at every slice of bytes and all int64 places and sizes; the listed variables hold what the program's text lays. -/
namespace Go.Proofs.YtiglmmofapcefaaDoor.Q
open Go.RowKit Go.Proofs.YtiglmmofapcefaaDoorW.PrintWords Go.Proofs.YtiglmmofapcefaaDoorW.PrintLast Go.Proofs.YtiglmmofapcefaaDoorW.PrintMore
set_option linter.unusedVariables false
set_option linter.unusedSimpArgs false

theorem FnExactGetLen : ∀ (l0 : List Int) (a1 a2 : Int), l0.length ≤ maxLen → l0.length * 1 ≤ 140737488351232 → (∀ x ∈ l0, (Lit.int .u8 x).wf = true) → (Lit.int .i64 a1).wf = true → (Lit.int .i64 a2).wf = true → ∃ k, laws_FnExactGetLen.f k l0 a1 a2 = some true := by
  intro l a1 a2 _ _ hw w1 _
  have hb : ∀ c ∈ l, isByte c := fun c hc => wf_u8 (hw c hc)
  by_cases hl : (l.length : Int) > 1048576
  · exact ⟨0, by unfold laws_FnExactGetLen.f; rw [if_pos hl]⟩
  refine ⟨l.length + 400, ?_⟩
  have t1 := toByteS_at l (by omega)
  have t2 := eqByteS_self l (by omega)
  have g1 := spec_GetLen_at l (by omega) hb a1 a2 (wf_i64 w1)
  have g2 := impl_GetLen_at l (by omega) hb a1 a2 (wf_i64 w1)
  unfold laws_FnExactGetLen.f
  rw [if_neg hl]
  simp (disch := omega) only [t1, t2, g1, g2, Option.bind_some, if_true, bne_self_eq_false]
  rw [laws_FnExactGetLen.j0]
  simp (disch := omega) only [t1, t2, Option.bind_some, if_true, Bool.false_eq_true, if_false]
end Go.Proofs.YtiglmmofapcefaaDoor.Q
end
section
/- The tied card of FnExactGetLen: over what the printed walk tells and the pure law; for every input; the listed variables hold what the program's text lays. -/
namespace Go.Proofs.YtiglmmofapcefaaDoor.Q
open Go.RowKit Go.Proofs.YtiglmmofapcefaaDoorW.PrintWords Go.Proofs.YtiglmmofapcefaaDoorW.PrintLast Go.Proofs.YtiglmmofapcefaaDoorW.PrintMore
set_option linter.unusedVariables false
theorem laws_FnExactGetLen.walk (a0 : Option Addr) (len0 cap0 : Nat) (z0 : List Int) (a1 : Int) (a2 : Int) (w : World) (w0 : (a0 = none ∧ len0 = 0 ∧ cap0 = 0 ∧ z0 = []) ∨ ∃ x, a0 = some x ∧ len0 ≤ cap0 ∧ cap0 ≤ maxLen ∧ z0.length = cap0 ∧ (∀ i, i < z0.length → w.cell? (x.add i) = some (.int .u8 (z0.getD i 0))) ∧ ∀ n ∈ z0, (Lit.int .u8 n).wf = true) (y0 : len0 * 1 ≤ 140737488351232) (w1 : (Lit.int .i64 a1).wf = true) (w2 : (Lit.int .i64 a2).wf = true) (hG : GLW w) :
    Calls Tryd.prog 8 #[.slice a0 len0 cap0, .int .i64 a1, .int .i64 a2] w fun e w' => e = .returned (.bool true) ∧ Below w.heap.size w w' := by
  obtain ⟨l0, rfl, hr0, hm0, hw0, hc0⟩ := ReadsInt.ofRowC w0
  obtain ⟨k, h⟩ := FnExactGetLen l0 a1 a2 hm0 y0 hw0 w1 w2
  refine (laws_FnExactGetLen.calls k _ _ l0 a1 a2 true w (Kd.C_of_reads (d := (0 : Int)) (h1 := fun _ => rfl) hr0) hc0 hG rfl h).mono ?_
  rintro e w' ⟨rfl, hd⟩
  exact ⟨rfl, hd⟩
end Go.Proofs.YtiglmmofapcefaaDoor.Q
namespace Go.Proofs.YtiglmmofapcefaaDoor.fnExactGetLen
open Go.ChangeShapes Go.WideShapes Go.ChangeAt Go.RowKit
open Go.ChangeMaps (open_string shut_string)
set_option linter.unusedVariables false
theorem own : ownKnob Tryd.prog.godebug = none := by kernel_rfl
theorem laidOut : laidOutB Tryd.prog = true := by kernel_rfl
def IsRow (k : IntKind) (w : World) (a : Option Addr) (len cap : Nat) (zs : List Int) : Prop :=
  (a = none ∧ len = 0 ∧ cap = 0 ∧ zs = []) ∨
  ∃ x, a = some x ∧ len ≤ cap ∧ cap ≤ maxLen ∧ zs.length = cap ∧ (∀ i, i < zs.length → w.cell? (x.add i) = some (.int k (zs.getD i 0))) ∧ ∀ n ∈ zs, (Lit.int k n).wf = true
set_option maxRecDepth 100000 in
theorem lifted (os : Os) (started : os.Started) (H : Type) (enc : TypeId × Value → H) :
    ReturnsInHanded {} Tryd.checked os 8 .any (fun w args => (Rows.fnExactGetLenSpec.pre enc Tryd.prog Tryd.f8 Rows.fnExactGetLenRow.domain false w args ∧ laidMet Tryd.prog Laid.list5 w) ∧ sizedMet enc Tryd.prog Tryd.f8 (OpenSpec.ofChange Rows.fnExactGetLenSpec) false w args) (Rows.fnExactGetLenSpec.post enc Tryd.prog Tryd.f8 false true false false) := by
  refine returnsInHanded_of_change_and (C := Tryd.checked) (X := fun w _ => laidMet Tryd.prog Laid.list5 w) (fun _ _ _ hh h => h.of_heap hh) own started (by kernel_rfl) Tryd.func8
    (ChangeSpec.witness_at (enc := enc) (C := Tryd.checked) (os := os) (X := fun w _ => laidMet Tryd.prog Laid.list5 w) false (Laid.world os) #[.slice none 0 0, .int .i64 0, .int .i64 0] 8 rfl (by kernel_rfl) (by kernel_rfl) (by kernel_rfl) (by kernel_rfl) (by kernel_rfl) (Laid.met os _)) ?_
  intro W base args ds gs before hval0 hW hcnd hsz0 hL _
  have hG := Laid.gl hL
  have hsz : (DataW.weightsEach Tryd.prog (Tryd.f8.params.toList ++ Rows.fnExactGetLenSpec.plain.varTypes Tryd.prog) (ds ++ gs)).all (· ≤ reachBytes) = true := hsz0
  have hval : ∀ (j : Nat) t v, Tryd.f8.params[j]? = some t → args[j]? = some v → Value.okWide Tryd.prog W .any base t v := hval0
  have hW' := hW
  obtain ⟨p, q, hA0, hV, rfl, hfz, hnd⟩ := hW
  have hA : DataW.TrodAll enc Tryd.prog W 0 (fun _ => true) true Tryd.f8.params.toList args.toList ds p := hA0
  rw [Tryd.params8] at hA hval hsz
  obtain ⟨v0, vs0, d0, ds0, p0, q0, hargs, rfl, rfl, h0, r0⟩ := trodAll_cons hA
  obtain ⟨v1, vs1, d1, ds1, p1, q1, rfl, rfl, rfl, h1, r1⟩ := trodAll_cons r0
  obtain ⟨v2, vs2, d2, ds2, p2, q2, rfl, rfl, rfl, h2, r2⟩ := trodAll_cons r1
  obtain ⟨rfl, rfl, rfl⟩ := trodAll_nil r2
  obtain rfl : args = #[v0, v1, v2] := by cases args; simp_all
  obtain ⟨rfl, rfl⟩ := trodVars_none hV
  obtain ⟨a0, len0, cap0, rfl⟩ := okWide_slice Tryd.underlying29 (hval 0 29 v0 rfl rfl)
  have k0 := h0
  have lt0 : ∀ x ∈ p0, x.block < W.heap.size := by obtain ⟨m, hm⟩ := k0; exact DataW.trod_lt m _ _ _ hm
  obtain ⟨z0, w0⟩ : ∃ zs, IsRow .u8 W a0 len0 cap0 zs := by
    obtain ⟨fuel, hf⟩ := h0
    rcases open_ints Tryd.underlying29 Tryd.underlying5 (by kernel_rfl) hf with ⟨hcs, _⟩ | ⟨x, l, c, zs, hcs, _, hl, hm, hz, _, hcell, hwz⟩
    · simp [Value.cells] at hcs
      obtain ⟨rfl, rfl, rfl⟩ := hcs
      exact ⟨[], .inl ⟨rfl, rfl, rfl, rfl⟩⟩
    · simp [Value.cells] at hcs
      obtain ⟨rfl, rfl, rfl⟩ := hcs
      exact ⟨zs, .inr ⟨_, rfl, hl, hm, by simpa using hz, hcell, hwz⟩⟩
  have y0 : len0 * 1 ≤ 140737488351232 := YtiglmmofapcefaaDoorW.PrintWords.sized_ints hsz (j := 0) (t := 29) rfl rfl Tryd.underlying29 Tryd.underlying5 (by kernel_rfl) (by kernel_rfl) h0
  obtain ⟨a1, rfl, rfl, rfl, w1⟩ := open_int Tryd.underlying3 (hval 1 3 v1 rfl rfl) h1
  obtain ⟨a2, rfl, rfl, rfl, w2⟩ := open_int Tryd.underlying3 (hval 2 3 v2 rfl rfl) h2
  clear hA0 hval0 hsz0 hsz
  refine (Q.laws_FnExactGetLen.walk a0 len0 cap0 z0 a1 a2 W w0 y0 w1 w2 hG).mono fun e W' ⟨he, bel⟩ => ?_
  subst he
  exact ⟨_, rfl, _, _, _, [], _, [], hW', trodAll_mk1 (shut_bool Tryd.underlying4 _), (trodAll_cons_mk (Below.trod laidOut (by kernel_rfl) (of_decide_eq_true (by kernel_rfl)) k0 bel lt0) (trodAll_cons_mk (shut_int Tryd.underlying3 w1) (trodAll_cons_mk (shut_int Tryd.underlying3 w2) trodAll_mk0))), rfl, bel.frame _, fun h => by cases h⟩
theorem over : Rows.fnExactGetLenRow.holds Tryd.pinned (OpenSpec.ofChange Rows.fnExactGetLenSpec) :=
  OpenClaim.holds_of_wide 8 Tryd.f8 rfl rfl rfl rfl rfl rfl rfl ⟨rfl, rfl, rfl, rfl, rfl⟩ rfl rfl rfl rfl rfl (by kernel_rfl) Tryd.func8 (by kernel_rfl)
    (of_decide_eq_true (by kernel_rfl)) (by unfold Func.isWrapper; first | (rw [if_pos (by decide +kernel)]; kernel_rfl) | (rw [if_neg (by decide +kernel)]; exact ⟨rfl, rfl⟩))
    (fun os started H enc _ => lifted os started H enc)
open Go in
set_option maxRecDepth 100000 in
theorem proved : Rows.FnExactGetLenCardSaid :=
  Claim7.holds_tied_plain_at .later [] [.data, .data, .data, .sentinel, .sentinel] true (true, "e319ee1b9ad5d5822beadd882dd403e21ec2a96a5af03b9775b81c9845301121") true
    over (fun _ h => by cases h) (by kernel_rfl) (fun _ h => by cases h) fnExactGetLen_row_tie rfl ⟨rfl, rfl⟩ (by kernel_rfl) rfl
    (fun f fn hf hfn => by
      obtain rfl : f = 8 := Option.some.inj ((show Tryd.prog.funcNamed "loop.example/g00735/laws.FnExactGetLen" = some 8 by kernel_rfl).symm.trans hf) |>.symm
      obtain rfl : fn = Tryd.f8 := (Option.some.inj (Tryd.func8.symm.trans hfn)).symm
      refine ⟨by kernel_rfl, fun j t ht => ?_⟩
      rw [Tryd.params8] at ht
      have h3 : t = 29 ∨ t = 3 ∨ t = 3 := by
        rcases j with _ | _ | _ | j
        · have h_ : t = 29 := by simpa using ht.symm
          simp [h_]
        · have h_ : t = 3 := by simpa using ht.symm
          simp [h_]
        · have h_ : t = 3 := by simpa using ht.symm
          simp [h_]
        · simp at ht
      rcases h3 with rfl | rfl | rfl
      · exact (show Tryd.prog.wantsStandIn 29 = false by kernel_rfl)
      · exact (show Tryd.prog.wantsStandIn 3 = false by kernel_rfl)
      · exact (show Tryd.prog.wantsStandIn 3 = false by kernel_rfl))
    (by kernel_rfl)
#print axioms proved
end Go.Proofs.YtiglmmofapcefaaDoor.fnExactGetLen
namespace Go.Proofs.YtiglmmofapcefaaDoor
/-- The row, under a short name, for the claim. -/
theorem fnExactGetLen_holds : Rows.FnExactGetLenCardSaid := fnExactGetLen.proved
end Go.Proofs.YtiglmmofapcefaaDoor
end
