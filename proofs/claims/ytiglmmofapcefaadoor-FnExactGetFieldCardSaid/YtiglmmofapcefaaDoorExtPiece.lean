/- impl.piece, as the printed functions call it: a part of a slice that is read, and whether it is there; no condition. -/
import Derived.Test.YtiglmmofapcefaaDoorQx2
namespace Go.Proofs.YtiglmmofapcefaaDoor.Q
open Go.RowKit Go.Proofs.YtiglmmofapcefaaDoorW.PrintWords Go.Proofs.YtiglmmofapcefaaDoorW.PrintLast Go.Proofs.YtiglmmofapcefaaDoorW.PrintMore
set_option linter.unusedVariables false
set_option linter.unusedSimpArgs false
def impl_piece.f (l0 : List Int) (a1 : Int) (a2 : Int) : Option (List Int × Bool) :=
  if 0 ≤ a1 ∧ a1 ≤ (l0.length : Int) ∧ 0 ≤ a2 ∧ a2 ≤ (l0.length : Int) - a1 then some ((l0.take (a1 + a2).toNat).drop a1.toNat, true) else some ([], false)
theorem piece_info : (Tryd.prog.info? 5).map (fun i => (i.zero, i.size, i.bytes)) = some (some (.int .u8 0), 1, 1) := by kernel_rfl
set_option maxHeartbeats 4000000 in
set_option maxRecDepth 100000 in
theorem piece_yes (A0 : Option Addr) (c0 : Nat) (l0 : List Int) (a1 : Int) (a2 : Int) (w : World) (hr0 : Kd.C (Kd.int .u8) w A0 l0.length l0) (hc0 : l0.length ≤ c0) (h1 : 0 ≤ a1) (h2 : a1 ≤ (l0.length : Int)) (h3 : 0 ≤ a2) (h4 : a2 ≤ (l0.length : Int) - a1) :
    Calls Tryd.prog 83 #[.slice A0 l0.length c0, .int .i64 a1, .int .i64 a2] w fun e w' => ∃ (A : Option Addr) (c : Nat), e = .returned (.tuple #[.slice A ((l0.take (a1 + a2).toNat).drop a1.toNat).length c, .bool true]) ∧
      (∀ W, Kd.C (Kd.int .u8) W A0 l0.length l0 → Kd.C (Kd.int .u8) W A ((l0.take (a1 + a2).toNat).drop a1.toNat).length ((l0.take (a1 + a2).toNat).drop a1.toNat)) ∧ ((l0.take (a1 + a2).toNat).drop a1.toNat).length ≤ c ∧ Drawn0 w w' := by
  have hm : l0.length ≤ 9223372036854775807 := (Kd.reads_of_C (d := (0 : Int)) (h1 := fun _ => rfl) hr0).2.1
  obtain ⟨i0, hi, hz0, hz1, hz2⟩ := info_parts piece_info
  obtain ⟨A1, hcut, hread, hle⟩ := print_mid_int (P := Tryd.prog) (k := .u8) 29 5 Tryd.underlying29 hi hz1 A0 c0 l0 a1 (a1 + a2) h1 (by omega) (by omega) hc0
  have hin : impl_within.f a1 0 (l0.length : Int) = some true := by unfold impl_within.f; rw [if_pos h1]; simp [h2]
  have d1 : decide (a2 < 0) = false := decide_eq_false (by omega)
  have d2 : decide ((l0.length : Int) - a1 < a2) = false := decide_eq_false (by omega)
  have HC := Aside0.mk hread
  have HL := Aside0.mk hle
  have HI := Aside0.mk hin
  clear hin hread hle hz0 hz1 hz2 hi
  have h5 : a1 + a2 ≤ 9223372036854775807 := by omega
  go_enter Tryd.func83, Tryd.ntmps83
  go_wp2_with (go_at_call 67; (with_reducible refine (impl_within.calls a1 0 (l0.length : Int) true _ HI.out).mono ?_); rintro e w' ⟨rfl, ⟨nd, rfl⟩⟩)
  go_ret2
  exact ⟨A1, c0 - a1.toNat, by first | rfl | (simp; done), fun W hW => Kd.C_of_reads (d := (0 : Int)) (h1 := fun _ => rfl) (HC.out W (Kd.reads_of_C (d := (0 : Int)) (h1 := fun _ => rfl) hW)), HL.out, by repeat (first | exact Drawn0.refl _ | apply Drawn0.step)⟩
set_option maxHeartbeats 4000000 in
set_option maxRecDepth 100000 in
theorem piece_no (A0 : Option Addr) (c0 : Nat) (l0 : List Int) (a1 : Int) (a2 : Int) (w : World) (hr0 : Kd.C (Kd.int .u8) w A0 l0.length l0) (hc0 : l0.length ≤ c0) (hno : ¬ (0 ≤ a1 ∧ a1 ≤ (l0.length : Int) ∧ 0 ≤ a2 ∧ a2 ≤ (l0.length : Int) - a1)) :
    Calls Tryd.prog 83 #[.slice A0 l0.length c0, .int .i64 a1, .int .i64 a2] w fun e w' => e = .returned (.tuple #[.slice none 0 0, .bool false]) ∧ Drawn0 w w' := by
  have hm : l0.length ≤ 9223372036854775807 := (Kd.reads_of_C (d := (0 : Int)) (h1 := fun _ => rfl) hr0).2.1
  by_cases hw : 0 ≤ a1 ∧ a1 ≤ (l0.length : Int)
  · obtain ⟨h1, h2⟩ := hw
    have hin : impl_within.f a1 0 (l0.length : Int) = some true := by unfold impl_within.f; rw [if_pos h1]; simp [h2]
    have HI := Aside0.mk hin
    clear hin
    by_cases h3 : a2 < 0
    · have d1 : decide (a2 < 0) = true := decide_eq_true h3
      clear hno
      go_enter Tryd.func83, Tryd.ntmps83
      go_wp2_with (go_at_call 67; (with_reducible refine (impl_within.calls a1 0 (l0.length : Int) true _ HI.out).mono ?_); rintro e w' ⟨rfl, ⟨nd, rfl⟩⟩)
      go_ret2
      exact ⟨rfl, by repeat (first | exact Drawn0.refl _ | apply Drawn0.step)⟩
    · have d1 : decide (a2 < 0) = false := decide_eq_false h3
      have h4 : (l0.length : Int) - a1 < a2 := by omega
      have d2 : decide ((l0.length : Int) - a1 < a2) = true := decide_eq_true h4
      clear hno
      go_enter Tryd.func83, Tryd.ntmps83
      go_wp2_with (go_at_call 67; (with_reducible refine (impl_within.calls a1 0 (l0.length : Int) true _ HI.out).mono ?_); rintro e w' ⟨rfl, ⟨nd, rfl⟩⟩)
      go_ret2
      exact ⟨rfl, by repeat (first | exact Drawn0.refl _ | apply Drawn0.step)⟩
  · have hin : impl_within.f a1 0 (l0.length : Int) = some false := by
      unfold impl_within.f
      by_cases h1 : 0 ≤ a1
      · rw [if_pos h1]
        have : ¬ a1 ≤ (l0.length : Int) := fun h => hw ⟨h1, h⟩
        simp [this]
      · rw [if_neg h1]
    have HI := Aside0.mk hin
    clear hin hw hno
    go_enter Tryd.func83, Tryd.ntmps83
    go_wp2_with (go_at_call 67; (with_reducible refine (impl_within.calls a1 0 (l0.length : Int) false _ HI.out).mono ?_); rintro e w' ⟨rfl, ⟨nd, rfl⟩⟩)
    go_ret2
    exact ⟨rfl, by repeat (first | exact Drawn0.refl _ | apply Drawn0.step)⟩
theorem impl_piece.calls (A0 : Option Addr) (c0 : Nat) (l0 : List Int) (a1 : Int) (a2 : Int) (r1 : List Int) (r2 : Bool) (w : World) (hr0 : Kd.C (Kd.int .u8) w A0 l0.length l0) (hc0 : l0.length ≤ c0) (h : impl_piece.f l0 a1 a2 = some (r1, r2)) :
    Calls Tryd.prog 83 #[.slice A0 l0.length c0, .int .i64 a1, .int .i64 a2] w fun e w' => ∃ (A : Option Addr) (c : Nat), e = .returned (.tuple #[.slice A r1.length c, .bool r2]) ∧
      (∀ W, Kd.C (Kd.int .u8) W A0 l0.length l0 → Kd.C (Kd.int .u8) W A r1.length r1) ∧ r1.length ≤ c ∧ Drawn0 w w' := by
  unfold impl_piece.f at h
  by_cases ok : 0 ≤ a1 ∧ a1 ≤ (l0.length : Int) ∧ 0 ≤ a2 ∧ a2 ≤ (l0.length : Int) - a1
  · rw [if_pos ok] at h
    simp only [Option.some.injEq, Prod.mk.injEq] at h
    obtain ⟨rfl, rfl⟩ := h
    exact piece_yes A0 c0 l0 a1 a2 w hr0 hc0 ok.1 ok.2.1 ok.2.2.1 ok.2.2.2
  · rw [if_neg ok] at h
    simp only [Option.some.injEq, Prod.mk.injEq] at h
    obtain ⟨rfl, rfl⟩ := h
    refine (piece_no A0 c0 l0 a1 a2 w hr0 hc0 ok).mono ?_
    rintro e w' ⟨rfl, hd⟩
    exact ⟨none, 0, rfl, fun W _ => Kd.C_nil _ _, Nat.le_refl _, hd⟩
end Go.Proofs.YtiglmmofapcefaaDoor.Q
