/- Lemmas on what the printed functions compute (split); no condition. -/
import Derived.Test.YtnhejdelcopphaaDoorLStrs
import Derived.Test.YtnhejdelcopphaaDoorLMarkText
import Derived.Test.YtnhejdelcopphaaDoorQx5
import Derived.Test.YtnhejdelcopphaaDoorQx8
import Derived.Test.YtnhejdelcopphaaDoorQx7
import Derived.Test.YtnhejdelcopphaaDoorQx3
import Derived.Test.YtnhejdelcopphaaDoorExtSplit
import Derived.Test.YtnhejdelcopphaaDoorQx0
namespace Go.Proofs.YtnhejdelcopphaaDoor.Q
open Go.RowKit Go.Proofs.YtnhejdelcopphaaDoorW.PrintWords Go.Proofs.YtnhejdelcopphaaDoorW.PrintLast Go.Proofs.YtnhejdelcopphaaDoorW.PrintMore
set_option linter.unusedVariables false
set_option linter.unusedSimpArgs false

/-- A list of bytes, cut at c. -/
def splitU (c : UInt8) (cur : List UInt8) : List UInt8 → List (List UInt8)
  | [] => [cur]
  | x :: t => if x = c then cur :: splitU c [] t else splitU c (cur ++ [x]) t

theorem splitU_none (c : UInt8) : ∀ (l cur : List UInt8), Lib.indexByte l c = -1 → splitU c cur l = [cur ++ l] := by
  intro l
  induction l with
  | nil => intro cur _; simp [splitU]
  | cons x t ih =>
    intro cur h
    rw [Lib.indexByte] at h
    by_cases q : x = c
    · rw [if_pos (by simp [q])] at h
      exact absurd h (by decide)
    · rw [if_neg (by simp [q])] at h
      have ht : Lib.indexByte t c = -1 := by
        have := Lib.indexByte_ge t c
        split at h
        · rename_i z; exact beq_iff_eq.1 z
        · omega
      rw [splitU, if_neg q, ih _ ht]
      simp

theorem splitU_some (c : UInt8) : ∀ (l cur : List UInt8) (o : Nat), Lib.indexByte l c = (o : Int) → splitU c cur l = (cur ++ l.take o) :: splitU c [] (l.drop (o + 1)) := by
  intro l
  induction l with
  | nil => intro cur o h; simp [Lib.indexByte] at h
  | cons x t ih =>
    intro cur o h
    rw [Lib.indexByte] at h
    by_cases q : x = c
    · rw [if_pos (by simp [q])] at h
      have : o = 0 := by omega
      subst this
      rw [splitU, if_pos q]
      simp
    · rw [if_neg (by simp [q])] at h
      have hge := Lib.indexByte_ge t c
      split at h
      · omega
      · rename_i z
        have z' : ¬ Lib.indexByte t c = -1 := fun e => z (beq_iff_eq.2 e)
        obtain ⟨o', rfl⟩ : ∃ m, o = m + 1 := ⟨o - 1, by omega⟩
        rw [splitU, if_neg q, ih (cur ++ [x]) o' (by omega)]
        simp

theorem splitK_all (c : UInt8) : ∀ (n : Nat) (l : List UInt8), l.length ≤ n → Lib.splitK [c] 0 (Lib.count l [c]) l = splitU c [] l := by
  intro n
  induction n with
  | zero =>
    intro l h
    have : l = [] := List.length_eq_zero_iff.1 (by omega)
    subst this
    have h0 : Lib.index ([] : List UInt8) [c] = -1 := rfl
    rw [Lib.count_miss h0]
    rfl
  | succ n ih =>
    intro l h
    by_cases q : Lib.index l [c] = -1
    · rw [Lib.count_miss q, splitU_none c l [] (by rw [← Lib.index_one]; exact q)]
      rfl
    · have hge := Lib.index_ge l [c]
      obtain ⟨o, ho⟩ : ∃ o : Nat, Lib.index l [c] = (o : Int) := ⟨(Lib.index l [c]).toNat, by omega⟩
      have hl : o < l.length := by
        have := (Lib.indexByte_some (c := c) (o := o) (l := l) (by rw [← Lib.index_one]; exact ho)).1
        exact (List.getElem?_eq_some_iff.1 this).1
      rw [Lib.count_hit (by simp) ho, Nat.add_comm 1, Lib.splitK, if_neg (by rw [ho]; simp), splitU_some c l [] o (by rw [← Lib.index_one]; exact ho)]
      rw [ho]
      simp only [Int.toNat_natCast, List.length_singleton, Nat.add_zero, List.nil_append]
      rw [ih _ (by rw [List.length_drop]; omega)]

/-- What the program's and the reference's splitting give. -/
def cuts (c : UInt8) (s : ByteArray) : List ByteArray := (splitU c [] s.data.toList).map fun l => ⟨l.toArray⟩

theorem splitB_cuts (c : UInt8) (s : ByteArray) : Lib.splitB ⟨#[c]⟩ 0 (Lib.countB s ⟨#[c]⟩) s = cuts c s := by
  have h := Lib.splitB_data ⟨#[c]⟩ 0 (Lib.countB s ⟨#[c]⟩) s
  have e : (⟨#[c]⟩ : ByteArray).data.toList = [c] := rfl
  have h2 : Lib.splitK (⟨#[c]⟩ : ByteArray).data.toList 0 (Lib.countB s ⟨#[c]⟩) s.data.toList = splitU c [] s.data.toList := splitK_all c s.data.toList.length s.data.toList (Nat.le_refl _)
  rw [h2] at h
  unfold cuts
  rw [← h, List.map_map]
  have e3 : ((fun l : List UInt8 => (⟨l.toArray⟩ : ByteArray)) ∘ fun x : ByteArray => x.data.toList) = id := by
    funext x
    exact Lib.mk_data x
  rw [e3, List.map_id]

theorem Split_at (c : UInt8) (s : ByteArray) (hs : s.size ≤ 1048576) : strings_Split.f s ⟨#[c]⟩ = some (cuts c s) := by
  unfold strings_Split.f
  rw [if_pos ⟨Nat.le_refl 1, by omega⟩, splitB_cuts]

theorem splitU_length (c : UInt8) : ∀ (l cur : List UInt8), (splitU c cur l).length ≤ l.length + 1 ∧ 1 ≤ (splitU c cur l).length := by
  intro l
  induction l with
  | nil => intro cur; simp [splitU]
  | cons x t ih =>
    intro cur
    rw [splitU]
    split
    · have := ih []
      simp only [List.length_cons]
      omega
    · have := ih (cur ++ [x])
      simp only [List.length_cons]
      omega

theorem cuts_length (c : UInt8) (s : ByteArray) : (cuts c s).length ≤ s.size + 1 ∧ 1 ≤ (cuts c s).length := by
  unfold cuts
  rw [List.length_map]
  have := splitU_length c s.data.toList []
  have e : s.data.toList.length = s.size := by simp
  omega

theorem spec_Split_l (c : UInt8) (s : ByteArray) (hs : s.size ≤ 1048576) : ∀ (d n k j : Nat) (x : List ByteArray), n + d = s.size → j ≤ n → x.length ≤ n → d + 5 < k →
    spec_l01Split.l0 k s (c.toNat : Int) x (j : Int) (n : Int) = some (x ++ (splitU c ((s.data.toList.take n).drop j) (s.data.toList.drop n)).map fun l => ⟨l.toArray⟩) := by
  have hz : s.data.toList.length = s.size := by simp
  have hx : ∀ (j n : Nat), s.extract j n = ⟨((s.data.toList.take n).drop j).toArray⟩ := by
    intro j n
    rw [← Lib.mk_data (s.extract j n), Lib.extract_data, List.drop_take]
  intro d
  induction d with
  | zero =>
    intro n k j x hd hj hl hk
    obtain ⟨k, rfl⟩ : ∃ m, k = m + 1 := ⟨k - 1, by omega⟩
    obtain ⟨k, rfl⟩ : ∃ m, k = m + 1 := ⟨k - 1, by omega⟩
    have e : n = s.size := by omega
    subst e
    have e1 : wrap64 ((s.size : Int) + 1) = (s.size : Int) + 1 := by unfold wrap64; omega
    rw [spec_l01Split.l0, if_pos (by omega), if_pos rfl, if_pos (by omega), if_pos (by omega), if_pos (by omega), e1, spec_l01Split.l0, if_neg (by omega), List.drop_eq_nil_of_le (Nat.le_of_eq hz), splitU]
    simp only [Int.toNat_natCast, List.map_cons, List.map_nil]
    rw [hx]
  | succ d ih =>
    intro n k j x hd hj hl hk
    obtain ⟨k, rfl⟩ : ∃ m, k = m + 1 := ⟨k - 1, by omega⟩
    have hlt : n < s.data.toList.length := by omega
    have e1 : wrap64 ((n : Int) + 1) = ((n + 1 : Nat) : Int) := by unfold wrap64; omega
    have hb : bt s (n : Int) = ((s.data.toList[n]).toNat : Int) := by
      unfold bt
      rw [dif_pos (by simp only [Int.toNat_natCast]; omega)]
      simp only [Int.toNat_natCast]
      rfl
    have ht : s.data.toList.take (n + 1) = s.data.toList.take n ++ [s.data.toList[n]] := by rw [List.take_succ_eq_append_getElem hlt]
    have htl : (s.data.toList.take n).length = n := by rw [List.length_take]; omega
    rw [spec_l01Split.l0, if_pos (by omega), if_neg (by omega), if_pos (by omega), if_pos (by omega), hb, e1, List.drop_eq_getElem_cons hlt, splitU]
    by_cases q : s.data.toList[n] = c
    · rw [if_pos (by rw [q]), if_pos (by omega), if_pos (by omega), if_pos (by omega), if_pos q, ih (n + 1) k (n + 1) _ (by omega) (Nat.le_refl _) (by simp; omega) (by omega)]
      simp only [Int.toNat_natCast, List.map_cons]
      have hnil : (s.data.toList.take (n + 1)).drop (n + 1) = [] := List.drop_eq_nil_of_le (by rw [List.length_take]; omega)
      rw [hx, hnil, List.append_assoc]
      rfl
    · have q2 : ¬ ((s.data.toList[n]).toNat : Int) = (c.toNat : Int) := fun z => q (UInt8.toNat_inj.1 (by omega))
      rw [if_neg q2, if_neg q, ih (n + 1) k j x (by omega) (by omega) (by omega) (by omega), ht, List.drop_append_of_le_length (by omega)]

theorem spec_Split_at (c : UInt8) (s : ByteArray) (hs : s.size ≤ 1048576) (k : Nat) (hk : s.size + 10 < k) : spec_l01Split.f k s (c.toNat : Int) = some (cuts c s) := by
  unfold spec_l01Split.f
  have h := spec_Split_l c s hs s.size 0 k 0 [] (by omega) (by omega) (by simp) (by omega)
  simp only [List.nil_append, List.drop_zero, List.take_zero] at h
  exact h

theorem rdS_nat (l : List ByteArray) (n : Nat) (h : n < l.length) : rdOf ByteArray.empty l (n : Int) = l[n] := by
  unfold rdOf
  simp [List.getD, h]

theorem eqStringS_l (l : List ByteArray) (hl : l.length ≤ 10000000) : ∀ (d n k : Nat), n + d = l.length → d < k → laws_eqStringS.l0 k l l (n : Int) = some true := by
  intro d
  induction d with
  | zero =>
    intro n k hd hk
    obtain ⟨k, rfl⟩ : ∃ m, k = m + 1 := ⟨k - 1, by omega⟩
    have c1 : ¬ (n : Int) < (l.length : Int) := by omega
    simp only [laws_eqStringS.l0, if_neg c1]
  | succ d ih =>
    intro n k hd hk
    obtain ⟨k, rfl⟩ : ∃ m, k = m + 1 := ⟨k - 1, by omega⟩
    have c1 : (n : Int) < (l.length : Int) := by omega
    have c2 : 0 ≤ (n : Int) := by omega
    simp only [laws_eqStringS.l0, if_pos c1, if_pos c2, if_true, w64 c2 (by omega)]
    exact ih (n + 1) k (by omega) (by omega)

theorem eqStringS_self (l : List ByteArray) (hl : l.length ≤ 10000000) (k : Nat) (hk : l.length < k) : laws_eqStringS.f k l l = some true := by
  unfold laws_eqStringS.f
  rw [if_pos rfl]
  exact eqStringS_l l hl l.length 0 k (by omega) hk

theorem markStringS_l : ∀ (d n k : Nat) (y : List ByteArray) (a : Int), n + d = y.length → y.length ≤ 10000000 → 0 ≤ a → a + d ≤ 900000000 → d + 30 ≤ k →
    ∃ y', laws_markStringS.l0 k y a (n : Int) = some (a + d, y') ∧ y'.length = y.length ∧ (∀ j : Nat, j < n → rdOf ByteArray.empty y' (j : Int) = rdOf ByteArray.empty y (j : Int)) ∧ ∀ j : Nat, n ≤ j → j < y.length → rdOf ByteArray.empty y' (j : Int) = mtext (a + ((j : Int) - (n : Int))) := by
  intro d
  induction d with
  | zero =>
    intro n k y a hd hy ha hb hk
    obtain ⟨k, rfl⟩ : ∃ m, k = m + 1 := ⟨k - 1, by omega⟩
    have c1 : ¬ (n : Int) < (y.length : Int) := by omega
    simp only [laws_markStringS.l0, if_neg c1]
    refine ⟨y, ?_, rfl, fun _ _ => rfl, fun j h1 h2 => by omega⟩
    simp
  | succ d ih =>
    intro n k y a hd hy ha hb hk
    obtain ⟨k, rfl⟩ : ∃ m, k = m + 1 := ⟨k - 1, by omega⟩
    have c1 : (n : Int) < (y.length : Int) := by omega
    have c2 : 0 ≤ (n : Int) := by omega
    simp only [laws_markStringS.l0, if_pos c1, if_pos c2]
    rw [markText_at a (by omega) k (by omega), Option.bind_some, show ((n : Int)).toNat = n by simp, show wrap64 ((n : Int) + 1) = ((n + 1 : Nat) : Int) from by unfold wrap64; omega, show wrap64 (a + 1) = a + 1 from by unfold wrap64; omega]
    obtain ⟨y', h1, h2, h3, h4⟩ := ih (n + 1) k (y.set n (mtext a)) (a + 1) (by simpa using (by omega : n + 1 + d = y.length)) (by simpa using hy) (by omega) (by omega) (by omega)
    have hsame : rdOf ByteArray.empty (y.set n (mtext a)) (n : Int) = mtext a := by rw [rdS_nat _ _ (by simp; omega)]; simp
    have hoth : ∀ j : Nat, j ≠ n → rdOf ByteArray.empty (y.set n (mtext a)) (j : Int) = rdOf ByteArray.empty y (j : Int) := by
      intro j hj
      unfold rdOf
      simp [List.getD, List.getElem?_set, Ne.symm hj]
    refine ⟨y', ?_, by simpa using h2, fun j hj => ?_, fun j hj1 hj2 => ?_⟩
    · rw [h1, show a + 1 + (d : Int) = a + ((d + 1 : Nat) : Int) from by omega]
    · rw [h3 j (by omega), hoth j (by omega)]
    · by_cases e : j = n
      · rw [e, h3 n (by omega), hsame]
        have : a + ((n : Int) - (n : Int)) = a := by omega
        rw [this]
      · rw [h4 j (by omega) (by simpa using hj2)]
        have : a + 1 + ((j : Int) - ((n + 1 : Nat) : Int)) = a + ((j : Int) - (n : Int)) := by omega
        rw [this]

theorem heldStringS_l : ∀ (d n k : Nat) (y : List ByteArray) (a : Int), n + d = y.length → y.length ≤ 10000000 → 0 ≤ a → a + d ≤ 900000000 → d + 30 ≤ k → (∀ j : Nat, n ≤ j → j < y.length → rdOf ByteArray.empty y (j : Int) = mtext (a + ((j : Int) - (n : Int)))) →
    laws_heldStringS.l0 k y a (n : Int) = some (a + d) := by
  intro d
  induction d with
  | zero =>
    intro n k y a hd hy ha hb hk h
    obtain ⟨k, rfl⟩ : ∃ m, k = m + 1 := ⟨k - 1, by omega⟩
    have c1 : ¬ (n : Int) < (y.length : Int) := by omega
    simp only [laws_heldStringS.l0, if_neg c1]
    simp
  | succ d ih =>
    intro n k y a hd hy ha hb hk h
    obtain ⟨k, rfl⟩ : ∃ m, k = m + 1 := ⟨k - 1, by omega⟩
    have c1 : (n : Int) < (y.length : Int) := by omega
    have c2 : 0 ≤ (n : Int) := by omega
    simp only [laws_heldStringS.l0, if_pos c1, if_pos c2]
    have h0 := h n (Nat.le_refl _) (by omega)
    have e0 : a + ((n : Int) - (n : Int)) = a := by omega
    rw [e0] at h0
    rw [markText_at a (by omega) k (by omega), Option.bind_some, h0, if_pos rfl, show wrap64 ((n : Int) + 1) = ((n + 1 : Nat) : Int) from by unfold wrap64; omega, show wrap64 (a + 1) = a + 1 from by unfold wrap64; omega]
    rw [ih (n + 1) k y (a + 1) (by omega) hy (by omega) (by omega) (by omega) (fun j hj1 hj2 => by
      rw [h j (by omega) hj2]
      have : a + 1 + ((j : Int) - ((n + 1 : Nat) : Int)) = a + ((j : Int) - (n : Int)) := by omega
      rw [this])]
    rw [show a + 1 + (d : Int) = a + ((d + 1 : Nat) : Int) from by omega]

theorem markStringS_held (y : List ByteArray) (hy : y.length ≤ 10000000) :
    ∃ y', ∀ k, y.length + 30 ≤ k → laws_markStringS.f k y 1 = some (1 + (y.length : Int), y') ∧ laws_heldStringS.f k y' 1 = some (1 + (y.length : Int)) := by
  obtain ⟨y', h1, h2, _, h4⟩ := markStringS_l y.length 0 (y.length + 30) y 1 (by omega) (by omega) (by omega) (by omega) (by omega)
  refine ⟨y', fun k hk => ⟨later (g := fun k => laws_markStringS.f k y 1) (fun k => laws_markStringS.mono y 1 k) h1 k hk, ?_⟩⟩
  have h := heldStringS_l y'.length 0 k y' 1 (by omega) (by omega) (by omega) (by omega) (by omega) (fun j hj1 hj2 => h4 j hj1 (by omega))
  rw [h2] at h
  exact h
end Go.Proofs.YtnhejdelcopphaaDoor.Q
