/- The program's Fnv and the reference's answer alike for every string. -/
import Derived.Test.YtjihbihhandapaaPFnExactFnvx1
namespace Go.Proofs.Ytjihbihhandapaa.Pure
set_option linter.unusedVariables false
set_option linter.unusedSimpArgs false
open Go.RowKit Go.Proofs.Ytjihbihhandapaa.PFnExactFnv Go.Proofs.YtjihbihhandapaaW.PrintWords Go.Proofs.YtjihbihhandapaaW.PrintLast Go.Proofs.YtjihbihhandapaaW.PrintMore

theorem w64 {i : Int} (h0 : 0 ≤ i) (h : i ≤ 140737488351232) : wrap64 (i + 1) = i + 1 := by
  unfold wrap64
  omega

theorem drop_bt (s : ByteArray) (n : Nat) (h : n < s.size) : (bytesOf s).drop n = bt s (n : Int) :: (bytesOf s).drop (n + 1) := by
  have hl : n < (bytesOf s).length := by rw [bytesOf_length]; exact h
  rw [List.drop_eq_getElem_cons hl]
  congr 1
  rw [← rd_bytesOf]
  unfold rd
  simp [List.getD, hl]

theorem drop_rd (l : List Int) (n : Nat) (h : n < l.length) : l.drop n = rd l (n : Int) :: l.drop (n + 1) := by
  rw [List.drop_eq_getElem_cons h]
  congr 1
  unfold rd
  simp [List.getD, h]

theorem xor_nat (k : IntKind) (j : Nat) (hj : j ≤ k.bits) (hk : ∀ n : Int, 0 ≤ n → n < 2 ^ j → k.wrap n = n) (a b : Nat) (ha : a < 2 ^ j) (hb : b < 2 ^ j) :
    Go.bits .xor k (a : Int) (b : Int) = ((a ^^^ b : Nat) : Int) := by
  have hp : 2 ^ j ≤ 2 ^ k.bits := Nat.pow_le_pow_right (by decide) hj
  have ha' : a % 2 ^ k.bits = a := Nat.mod_eq_of_lt (Nat.lt_of_lt_of_le ha hp)
  have hb' : b % 2 ^ k.bits = b := Nat.mod_eq_of_lt (Nat.lt_of_lt_of_le hb hp)
  have cast : ∀ n : Nat, n < 2 ^ j → ((n : Nat) : Int) < 2 ^ j := fun n h => by exact_mod_cast h
  simp only [Go.bits, BitVec.ofInt_natCast, BitVec.toNat_xor, BitVec.toNat_ofNat, ha', hb']
  exact hk _ (Int.natCast_nonneg _) (cast _ (Nat.xor_lt_two_pow ha hb))

theorem wr_i64 (n : Int) (h0 : 0 ≤ n) (h1 : n < 2 ^ 62) : IntKind.i64.wrap n = n := by rw [IntKind.wrap_i64]; omega
theorem wr_u32 (n : Int) (h0 : 0 ≤ n) (h1 : n < 2 ^ 32) : IntKind.u32.wrap n = n := by rw [IntKind.wrap_u32]; omega

theorem and_32 (x : Nat) (hx : x < 4294967296) : Go.bits .and .i64 ((x : Int) * 16777619) 4294967295 = ((x : Int) * 16777619) % 4294967296 := by
  have q1 : ((2 : Int) ^ 32 - 1) = 4294967295 := by decide
  have q2 : ((2 : Int) ^ 32) = 4294967296 := by decide
  have q3 : ((2 : Int) ^ 62) = 4611686018427387904 := by decide
  have mk := bits_mask .i64 62 (by decide) wr_i64 32 (by decide) ((x : Int) * 16777619) (by omega) (by rw [q3]; omega)
  rw [q1, q2] at mk
  exact mk

theorem fnv_x (x : Nat) (hx : x < 4294967296) : ∃ h' : Nat, h' < 4294967296 ∧
    Go.bits .and .i64 (wrap64 ((x : Int) * 16777619)) 4294967295 = (h' : Int) ∧ ((x : Int) * 16777619) % 4294967296 = (h' : Int) := by
  have w2 : wrap64 ((x : Int) * 16777619) = (x : Int) * 16777619 := by unfold wrap64; omega
  have e : ((x : Int) * 16777619) % 4294967296 = ((x * 16777619 % 4294967296 : Nat) : Int) := by
    rw [Int.natCast_emod, Int.natCast_mul]; rfl
  refine ⟨x * 16777619 % 4294967296, Nat.mod_lt _ (by decide), ?_, e⟩
  rw [w2, and_32 x hx]
  exact e

/-- One round, told in both ways. -/
theorem fnv_round (h b : Nat) (hh : h < 4294967296) (hb : b < 256) :
    ∃ h' : Nat, h' < 4294967296 ∧
      Go.bits .and .i64 (wrap64 ((Go.bits .xor .i64 (h : Int) (wrap64 (b : Int))) * 16777619)) 4294967295 = (h' : Int) ∧
      ((Go.bits .xor .u32 (h : Int) ((b : Int) % 4294967296)) * 16777619) % 4294967296 = (h' : Int) := by
  have hx : h ^^^ b < 2 ^ 32 := Nat.xor_lt_two_pow (by omega) (by omega)
  have w : wrap64 (b : Int) = (b : Int) := by unfold wrap64; omega
  have m : ((b : Int) % 4294967296) = (b : Int) := by omega
  have e1 : Go.bits .xor .i64 (h : Int) (b : Int) = ((h ^^^ b : Nat) : Int) := xor_nat .i64 62 (by decide) wr_i64 h b (by omega) (by omega)
  have e2 : Go.bits .xor .u32 (h : Int) (b : Int) = ((h ^^^ b : Nat) : Int) := xor_nat .u32 32 (by decide) wr_u32 h b (by omega) (by omega)
  rw [w, m, e1, e2]
  exact fnv_x _ hx

theorem fnv_l (s : ByteArray) (hs : s.size ≤ 140737488351232) : ∀ (d n h k : Nat), h < 4294967296 → n + d = s.size → d < k →
    ∃ r, spec_Fnv.l0 k s (h : Int) (n : Int) = some r ∧ impl_Fnv.l0 k s (h : Int) (s.size : Int) (n : Int) = some r := by
  intro d
  induction d with
  | zero =>
    intro n h k hh hd hk
    obtain ⟨k, rfl⟩ : ∃ m, k = m + 1 := ⟨k - 1, by omega⟩
    simp only [spec_Fnv.l0, impl_Fnv.l0]
    have c1 : ¬ (n : Int) < (s.size : Int) := by omega
    simp only [if_neg c1]
    refine ⟨(h : Int), rfl, ?_⟩
    congr 1
    unfold wrap64
    omega
  | succ d ih =>
    intro n h k hh hd hk
    obtain ⟨k, rfl⟩ : ∃ m, k = m + 1 := ⟨k - 1, by omega⟩
    simp only [spec_Fnv.l0, impl_Fnv.l0]
    have c1 : (n : Int) < (s.size : Int) := by omega
    have c2 : 0 ≤ (n : Int) := by omega
    simp only [if_pos c1, if_pos c2, w64 c2 (by omega)]
    obtain ⟨hb0, hb1⟩ := bt_range s (n : Int)
    obtain ⟨b, hb⟩ : ∃ b : Nat, bt s (n : Int) = (b : Int) := ⟨(bt s (n : Int)).toNat, by omega⟩
    obtain ⟨h', hh', e1, e2⟩ := fnv_round h b hh (by omega)
    rw [hb, e1, e2]
    exact ih (n + 1) h' k hh' (by omega) (by omega)

theorem FnExactFnv : laws_FnExactFnv.Pure := by
  intro s hs
  refine ⟨s.size + 1, ?_⟩
  obtain ⟨r, h1, h2⟩ := fnv_l s hs s.size 0 2166136261 (s.size + 1) (by omega) (by omega) (by omega)
  unfold laws_FnExactFnv.f spec_Fnv.f impl_Fnv.f
  have g1 : spec_Fnv.l0 (s.size + 1) s 2166136261 0 = some r := h1
  have g2 : impl_Fnv.l0 (s.size + 1) s 2166136261 (s.size : Int) 0 = some r := h2
  rw [g1, g2]
  simp

end Go.Proofs.Ytjihbihhandapaa.Pure
