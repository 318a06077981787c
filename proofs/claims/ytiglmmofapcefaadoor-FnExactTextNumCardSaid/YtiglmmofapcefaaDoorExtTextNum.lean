/- impl.TextNum, as the printed functions call it: at every string of at most 2^47 - 4096 bytes: strconv.Atoi's three roads out of the shelf. -/
import Derived.Test.YtiglmmofapcefaaDoorShelf
import Derived.Test.YtiglmmofapcefaaDoorExtGls
import Derived.Test.YtiglmmofapcefaaDoorQx3
import Derived.Test.YtiglmmofapcefaaDoorQx2
namespace Go.Proofs.YtiglmmofapcefaaDoor.Q
open Go.RowKit Go.Proofs.YtiglmmofapcefaaDoorW.PrintWords Go.Proofs.YtiglmmofapcefaaDoorW.PrintLast Go.Proofs.YtiglmmofapcefaaDoorW.PrintMore
set_option linter.unusedVariables false
set_option linter.unusedSimpArgs false
def impl_TextNum.f (a0 : ByteArray) : Option (Int × Bool) :=
  if a0.size ≤ 140737488351232 then
    (match Lib.atoiAll a0.data.toList with
     | .ok v => (if 0 ≤ v ∧ v ≤ 4611686018427387904 then (impl_NumText.f v).bind (fun t => if t.toList = a0.toList then some (v, true) else some (0, false)) else some (0, false))
     | _ => some (0, false)) else none
theorem atoi_below {w w' : World} (h : w' = w ∨ ∃ t, w' = Lib.bytesWorld w 5 t) : Below w.heap.size w w' := by
  rcases h with rfl | ⟨t, rfl⟩
  · exact Below.refl _ _
  · exact Joins.below_bytesWorld _ _ _ _ (Nat.le_refl _)
theorem impl_isMoney_at' (v : Int) : impl_isMoney.f v = some (decide (0 ≤ v ∧ v ≤ 4611686018427387904)) := by
  unfold impl_isMoney.f impl_within.f
  by_cases h : 0 ≤ v
  · rw [if_pos h]; simp [h]
  · rw [if_neg h]; simp [h]
set_option maxHeartbeats 4000000 in
set_option maxRecDepth 100000 in
theorem textNum_err (a0 : ByteArray) (w : World) (hG : GLS w) (hs : a0.size ≤ 140737488351232) (hno : Lib.atoiAll a0.data.toList = .«syntax» ∨ Lib.atoiAll a0.data.toList = .range) :
    Calls Tryd.prog 24 #[.string a0] w fun e w' => e = .returned (.tuple #[.int .i64 0, .bool false]) ∧ Below w.heap.size w w' := by
  have hA : Calls Tryd.prog 71 #[.string a0] w fun e w' => ∃ n N, e = .returned (.tuple #[.int .i64 n, .iface 132 (.pointer (some ⟨N, 0, none⟩))]) ∧ Below w.heap.size w w' := by
    rcases hno with h | h
    · obtain ⟨tp, p, hv⟩ := hG.syn
      refine (Tryd.strconv_Atoi_syntax_var a0 (by omega) h tp p w hv).mono ?_
      rintro e w' ⟨N, rfl, _, _, hb⟩
      exact ⟨_, N, rfl, hb⟩
    · obtain ⟨tp, p, hv⟩ := hG.rng
      refine (Tryd.strconv_Atoi_range_var a0 (by omega) h tp p w hv).mono ?_
      rintro e w' ⟨N, rfl, _, _, hb⟩
      exact ⟨_, N, rfl, hb⟩
  have HA := Aside0.mk hA
  clear hA hno hG
  go_enter Tryd.func24, Tryd.ntmps24
  go_wp2_with fail
  refine HA.out.mono ?_
  rintro e w' ⟨n, N, rfl, hb⟩
  have HB := Aside0.mk hb
  clear hb
  go_wp2
  go_ret2
  exact ⟨rfl, HB.out⟩
set_option maxHeartbeats 4000000 in
set_option maxRecDepth 100000 in
theorem textNum_far (a0 : ByteArray) (v : Int) (w : World) (hs : a0.size ≤ 140737488351232) (hv : Lib.atoiAll a0.data.toList = .ok v) (hm : ¬ (0 ≤ v ∧ v ≤ 4611686018427387904)) :
    Calls Tryd.prog 24 #[.string a0] w fun e w' => e = .returned (.tuple #[.int .i64 0, .bool false]) ∧ Below w.heap.size w w' := by
  have HA := Aside0.mk ((Tryd.strconv_Atoi_ok a0 (by omega) v hv w).mono (fun e w' (h : _ ∧ _) => (⟨h.1, atoi_below h.2⟩ : e = .returned (.tuple #[.int .i64 v, .nilIface]) ∧ Below w.heap.size w w')))
  have HI := Aside0.mk ((impl_isMoney_at' v).trans (congrArg some (decide_eq_false hm)))
  clear hm hv
  go_enter Tryd.func24, Tryd.ntmps24
  go_wp2_with fail
  refine HA.out.mono ?_
  rintro e w' ⟨rfl, hb⟩
  have HB := Aside0.mk hb
  clear hb
  go_wp2_with (go_at_call 65; (with_reducible refine (impl_isMoney.calls v false _ HI.out).mono ?_); rintro e w' ⟨rfl, ⟨nd, rfl⟩⟩)
  go_ret2
  exact ⟨rfl, HB.out.trans (Joins.below_draws _ _ nd)⟩
set_option maxHeartbeats 4000000 in
set_option maxRecDepth 100000 in
theorem textNum_ok (a0 t : ByteArray) (v : Int) (b : Bool) (w : World) (hG : GLS w) (hs : a0.size ≤ 140737488351232) (hv : Lib.atoiAll a0.data.toList = .ok v) (hm : 0 ≤ v ∧ v ≤ 4611686018427387904) (ht : impl_NumText.f v = some t) (hb : (t.toList == a0.toList) = b) :
    Calls Tryd.prog 24 #[.string a0] w fun e w' => e = .returned (.tuple #[.int .i64 (if b = true then v else 0), .bool b]) ∧ Below w.heap.size w w' := by
  have HA := Aside0.mk ((Tryd.strconv_Atoi_ok a0 (by omega) v hv w).mono (fun e w' (h : _ ∧ _) => (⟨h.1, atoi_below h.2⟩ : e = .returned (.tuple #[.int .i64 v, .nilIface]) ∧ Below w.heap.size w w')))
  have HI := Aside0.mk ((impl_isMoney_at' v).trans (congrArg some (decide_eq_true hm)))
  have HT := Aside0.mk ht
  have HG := Aside0.mk hG
  clear hm hv ht hG
  cases b with
  | true =>
    have hb1 : (t.toList != a0.toList) = false := by rw [bne, hb]; rfl
    go_enter Tryd.func24, Tryd.ntmps24
    go_wp2_with fail
    refine HA.out.mono ?_
    rintro e w' ⟨rfl, hbw⟩
    have HB := Aside0.mk hbw
    clear hbw
    have HG1 := Aside0.mk (GLS_below HG.out HB.out)
    go_wp2_with (first | (go_at_call 65; (with_reducible refine (impl_isMoney.calls v true _ HI.out).mono ?_); rintro e w2 ⟨rfl, ⟨nd, rfl⟩⟩) | (go_at_call 18; (with_reducible refine (impl_NumText.calls v t _ (GLW_below HG1.out.tab (Joins.below_draws _ _ _)) HT.out).mono ?_); rintro e w3 ⟨rfl, hb3⟩; have HB3 := Aside0.mk hb3; clear hb3))
    go_ret2
    exact ⟨by first | rfl | (simp; done), HB.out.trans ((Joins.below_draws _ w' nd).trans (HB3.out.mono (by have := HB.out.size; simpa using this)))⟩
  | false =>
    have hb1 : (t.toList != a0.toList) = true := by rw [bne, hb]; rfl
    go_enter Tryd.func24, Tryd.ntmps24
    go_wp2_with fail
    refine HA.out.mono ?_
    rintro e w' ⟨rfl, hbw⟩
    have HB := Aside0.mk hbw
    clear hbw
    have HG1 := Aside0.mk (GLS_below HG.out HB.out)
    go_wp2_with (first | (go_at_call 65; (with_reducible refine (impl_isMoney.calls v true _ HI.out).mono ?_); rintro e w2 ⟨rfl, ⟨nd, rfl⟩⟩) | (go_at_call 18; (with_reducible refine (impl_NumText.calls v t _ (GLW_below HG1.out.tab (Joins.below_draws _ _ _)) HT.out).mono ?_); rintro e w3 ⟨rfl, hb3⟩; have HB3 := Aside0.mk hb3; clear hb3))
    go_ret2
    exact ⟨by first | rfl | (simp; done), HB.out.trans ((Joins.below_draws _ w' nd).trans (HB3.out.mono (by have := HB.out.size; simpa using this)))⟩
theorem impl_TextNum.calls (a0 : ByteArray) (r1 : Int) (r2 : Bool) (w : World) (hG : GLS w) (h : impl_TextNum.f a0 = some (r1, r2)) :
    Calls Tryd.prog 24 #[.string a0] w fun e w' => e = .returned (.tuple #[.int .i64 r1, .bool r2]) ∧ Below w.heap.size w w' := by
  unfold impl_TextNum.f at h
  by_cases hs : a0.size ≤ 140737488351232
  · rw [if_pos hs] at h
    cases hv : Lib.atoiAll a0.data.toList with
    | ok v =>
      rw [hv] at h
      simp only at h
      by_cases hm : 0 ≤ v ∧ v ≤ 4611686018427387904
      · rw [if_pos hm] at h
        cases ht : impl_NumText.f v with
        | none => rw [ht] at h; exact absurd h (by simp)
        | some t =>
          rw [ht, Option.bind_some] at h
          by_cases q : t.toList = a0.toList
          · rw [if_pos q] at h
            simp only [Option.some.injEq, Prod.mk.injEq] at h
            obtain ⟨rfl, rfl⟩ := h
            exact textNum_ok a0 t v true w hG hs hv hm ht (beq_iff_eq.mpr q)
          · rw [if_neg q] at h
            simp only [Option.some.injEq, Prod.mk.injEq] at h
            obtain ⟨rfl, rfl⟩ := h
            exact textNum_ok a0 t v false w hG hs hv hm ht (beq_eq_false_iff_ne.mpr q)
      · rw [if_neg hm] at h
        simp only [Option.some.injEq, Prod.mk.injEq] at h
        obtain ⟨rfl, rfl⟩ := h
        exact textNum_far a0 v w hs hv hm
    | «syntax» =>
      rw [hv] at h
      simp only [Option.some.injEq, Prod.mk.injEq] at h
      obtain ⟨rfl, rfl⟩ := h
      exact textNum_err a0 w hG hs (.inl hv)
    | range =>
      rw [hv] at h
      simp only [Option.some.injEq, Prod.mk.injEq] at h
      obtain ⟨rfl, rfl⟩ := h
      exact textNum_err a0 w hG hs (.inr hv)
  · rw [if_neg hs] at h
    exact absurd h (by simp)
end Go.Proofs.YtiglmmofapcefaaDoor.Q
