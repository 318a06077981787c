/- impl.Narrow, as the printed functions call it: at every string of at most 2^47 - 4096 bytes: the number that at most 18 digits spell. -/
import Derived.Test.YtiglmmofapcefaaDoorShelf
import Derived.Test.YtiglmmofapcefaaDoorExtGl
import Derived.Test.YtiglmmofapcefaaDoorQx13
import Derived.Test.YtiglmmofapcefaaDoorLDigits
import Derived.Lib.AtoiBound
namespace Go.Proofs.YtiglmmofapcefaaDoor.Q
open Go.RowKit Go.Proofs.YtiglmmofapcefaaDoorW.PrintWords Go.Proofs.YtiglmmofapcefaaDoorW.PrintLast Go.Proofs.YtiglmmofapcefaaDoorW.PrintMore
set_option linter.unusedVariables false
set_option linter.unusedSimpArgs false
/-- The number that digits spell. -/
def natFrom (a : Nat) : List Int → Nat
  | [] => a
  | c :: t => natFrom (a * 10 + (c - 48).toNat) t
def impl_Narrow.f (a0 : ByteArray) : Option (Int × Bool) :=
  if a0.size ≤ 140737488351232 then some (if digs (bytesOf a0) = true ∧ a0.size ≤ 18 then ((natFrom 0 (bytesOf a0) : Nat), true) else (0, false)) else none
theorem decFrom_digs (l : List UInt8) : ∀ (a : Nat), (l.map fun b => (b.toNat : Int)).all isDig = true → Lib.decFrom a l = some (natFrom a (l.map fun b => (b.toNat : Int))) := by
  induction l with
  | nil => intro a _; rfl
  | cons b t ih =>
    intro a h
    simp only [List.map_cons, List.all_cons, Bool.and_eq_true] at h
    obtain ⟨h1, h2⟩ := h
    unfold isDig at h1
    simp only [Bool.and_eq_true, decide_eq_true_eq] at h1
    have e : Lib.digitVal b = some (b.toNat - 48) := by unfold Lib.digitVal; rw [if_pos (by omega)]
    have e2 : ((b.toNat : Int) - 48).toNat = b.toNat - 48 := by omega
    rw [Lib.decFrom, e, List.map_cons, natFrom, e2]
    exact ih _ h2
theorem atoi_digs (s : ByteArray) (h : digs (bytesOf s) = true) : Lib.atoi s.data.toList = some ((natFrom 0 (bytesOf s) : Nat) : Int) := by
  unfold bytesOf at h ⊢
  generalize s.data.toList = l at h ⊢
  cases l with
  | nil => simp [digs] at h
  | cons b r =>
    have hall : ((b :: r).map fun b => (b.toNat : Int)).all isDig = true := by
      unfold digs at h
      simp only [Bool.and_eq_true] at h
      exact h.1
    have hb : 48 ≤ b.toNat := by
      have := hall
      simp only [List.map_cons, List.all_cons, Bool.and_eq_true] at this
      have h1 := this.1
      unfold isDig at h1
      simp only [Bool.and_eq_true, decide_eq_true_eq] at h1
      omega
    have n1 : (b == 45) = false := by
      apply beq_false_of_ne
      rintro rfl
      exact absurd hb (by decide)
    have n2 : (b == 43) = false := by
      apply beq_false_of_ne
      rintro rfl
      exact absurd hb (by decide)
    unfold Lib.atoi
    simp only [n1, n2, Bool.false_eq_true, if_false]
    unfold Lib.decNat
    rw [if_neg (by simp), decFrom_digs _ 0 hall]
    rfl
set_option maxHeartbeats 4000000 in
set_option maxRecDepth 100000 in
theorem impl_Narrow.calls (a0 : ByteArray) (r1 : Int) (r2 : Bool) (w : World) (hG : GLW w) (h : impl_Narrow.f a0 = some (r1, r2)) :
    Calls Tryd.prog 22 #[.string a0] w fun e w' => e = .returned (.tuple #[.int .i64 r1, .bool r2]) ∧ Below w.heap.size w w' := by
  unfold impl_Narrow.f at h
  by_cases hs : a0.size ≤ 140737488351232
  · rw [if_pos hs] at h
    have hd := impl_Digits_at a0 hs (a0.size + 1) (by omega)
    by_cases q1 : digs (bytesOf a0) = true
    · rw [q1] at hd
      have HD := Aside0.mk hd
      clear hd
      by_cases q2 : a0.size ≤ 18
      · have hat := Aside0.mk (atoi_digs a0 q1)
        rw [if_pos ⟨q1, q2⟩] at h
        simp only [Option.some.injEq, Prod.mk.injEq] at h
        obtain ⟨rfl, rfl⟩ := h
        have d1 : decide (18 < (a0.size : Int)) = false := decide_eq_false (by omega)
        go_enter Tryd.func22, Tryd.ntmps22
        go_wp2_with (first | (go_at_call 70; (with_reducible refine (impl_Digits.calls _ a0 true _ HD.out).mono ?_); rintro e w' ⟨rfl, ⟨nd, rfl⟩⟩) | (go_at_call 71; (with_reducible refine (Tryd.strconv_Atoi a0 _ q2 hat.out _).mono ?_); rintro e w' ⟨rfl, ⟨td, rfl⟩⟩))
        go_ret2
        exact ⟨by first | rfl | (simp; done), (Joins.below_draws _ w nd).trans (Joins.below_bytesWorld _ _ _ _ (Nat.le_refl _))⟩
      · rw [if_neg (fun q => q2 q.2)] at h
        simp only [Option.some.injEq, Prod.mk.injEq] at h
        obtain ⟨rfl, rfl⟩ := h
        have d1 : decide (18 < (a0.size : Int)) = true := decide_eq_true (by omega)
        go_enter Tryd.func22, Tryd.ntmps22
        go_wp2_with (go_at_call 70; (with_reducible refine (impl_Digits.calls _ a0 true _ HD.out).mono ?_); rintro e w' ⟨rfl, ⟨nd, rfl⟩⟩)
        go_ret2
        exact ⟨by first | rfl | (simp; done), Joins.below_draws _ w nd⟩
    · have q1' : digs (bytesOf a0) = false := by simpa using q1
      rw [q1'] at hd
      have HD := Aside0.mk hd
      clear hd
      rw [if_neg (fun q => q1 q.1)] at h
      simp only [Option.some.injEq, Prod.mk.injEq] at h
      obtain ⟨rfl, rfl⟩ := h
      go_enter Tryd.func22, Tryd.ntmps22
      go_wp2_with (go_at_call 70; (with_reducible refine (impl_Digits.calls _ a0 false _ HD.out).mono ?_); rintro e w' ⟨rfl, ⟨nd, rfl⟩⟩)
      go_ret2
      exact ⟨by first | rfl | (simp; done), Joins.below_draws _ w nd⟩
  · rw [if_neg hs] at h
    exact absurd h (by simp)
end Go.Proofs.YtiglmmofapcefaaDoor.Q
