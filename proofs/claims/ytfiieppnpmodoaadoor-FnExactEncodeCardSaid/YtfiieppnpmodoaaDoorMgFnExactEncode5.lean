/- Texts for FnExactEncode, packed by a program of this session (wip/pack.py), part 5 of 5: the print's words that are used, the printed walks, the plain laws, the row; no condition. -/
import Derived.Test.YtfiieppnpmodoaaDoorMgFnExactEncode4
import Derived.Test.YtfiieppnpmodoaaDoorRows
import Derived.Test.YtfiieppnpmodoaaDoorCards
import Derived.Test.YtfiieppnpmodoaaDoorTie
import Derived.WalkKit
import Derived.ProofKit
import Derived.OpenShut
import Derived.ShutString
import Derived.ChangeOld
import Derived.Below
import Derived.SizedLaws
import Derived.Lib.SmallJoins
import Derived.ChangeSame
import Derived.ChangeVars
import Derived.ChangeMaps5
import Derived.JoinedOf
import Derived.JoinedAt
import Derived.LaidLaws
import Derived.Handed
import Derived.SevenTiedAt
section
/- The tied card of FnExactEncode: over what the printed walk tells and the pure law; for every input; the listed variables hold what the program's text lays. -/
namespace Go.Proofs.YtfiieppnpmodoaaDoor.fnExactEncode
open Go.ChangeShapes Go.WideShapes Go.ChangeAt Go.RowKit Go.Joins
open Go.ChangeMaps (open_string shut_string)
set_option linter.unusedVariables false
theorem own : ownKnob Tryd.prog.godebug = none := by kernel_rfl
theorem laidOut : laidOutB Tryd.prog = true := by kernel_rfl
theorem cells44 : Tryd.prog.cellsOf 44 = 2 := by kernel_rfl
set_option maxRecDepth 100000 in
theorem lifted (os : Os) (started : os.Started) (H : Type) (enc : TypeId × Value → H) :
    ReturnsInHanded {} Tryd.checked os 5 .any (fun w args => (Rows.fnExactEncodeSpec.pre enc Tryd.prog Tryd.f5 Rows.fnExactEncodeRow.domain false w args ∧ laidMet Tryd.prog Laid.list3 w) ∧ sizedMet enc Tryd.prog Tryd.f5 (OpenSpec.ofChange Rows.fnExactEncodeSpec) false w args) (Rows.fnExactEncodeSpec.post enc Tryd.prog Tryd.f5 false true false false) := by
  refine returnsInHanded_of_change_and (C := Tryd.checked) (X := fun w _ => laidMet Tryd.prog Laid.list3 w) (fun _ _ _ hh h => h.of_heap hh) own started (by kernel_rfl) Tryd.func5
    (ChangeSpec.witness_at (enc := enc) (C := Tryd.checked) (os := os) (X := fun w _ => laidMet Tryd.prog Laid.list3 w) false (Laid.world os) #[.agg #[.string ByteArray.empty, .slice none 0 0]] 8 rfl (by kernel_rfl) (by kernel_rfl) (by kernel_rfl) (by kernel_rfl) (by kernel_rfl) (Laid.met os _)) ?_
  intro W base args ds gs before hval0 hW hcnd hsz0 hL _
  have hG := Laid.gl hL
  have hsz : (DataW.weightsEach Tryd.prog (Tryd.f5.params.toList ++ Rows.fnExactEncodeSpec.plain.varTypes Tryd.prog) (ds ++ gs)).all (· ≤ reachBytes) = true := hsz0
  have hval : ∀ (j : Nat) t v, Tryd.f5.params[j]? = some t → args[j]? = some v → Value.okWide Tryd.prog W .any base t v := hval0
  have hW' := hW
  obtain ⟨p, q, hA0, hV, rfl, hfz, hnd⟩ := hW
  have hA : DataW.TrodAll enc Tryd.prog W 0 (fun _ => true) true Tryd.f5.params.toList args.toList ds p := hA0
  rw [Tryd.params5] at hA hval hsz
  obtain ⟨v0, vs0, d0, ds0, p0, q0, hargs, rfl, rfl, h0, r0⟩ := trodAll_cons hA
  obtain ⟨rfl, rfl, rfl⟩ := trodAll_nil r0
  obtain rfl : args = #[v0] := by cases args; simp_all
  obtain ⟨rfl, rfl⟩ := trodVars_none hV
  have k0 := h0
  have lt0 : ∀ x ∈ p0, x.block < W.heap.size := by obtain ⟨m, hm⟩ := k0; exact DataW.trod_lt m _ _ _ hm
  obtain ⟨c0_0, c0_1, y0_0, y0_1, m0, rfl, hd0, hp0, hy0_0, hy0_1⟩ := open_agg2 Tryd.underlying44 (by kernel_rfl) cells44 (hval 0 44 v0 rfl rfl) h0
  obtain ⟨a0_0, e0_0, hs0_0, w0_0⟩ := DataW.trod_string Tryd.underlying9 hy0_0
  simp at e0_0
  subst e0_0
  obtain ⟨A0_1, c0_1, l0_1, rfl, hc0_1, hm0_1, hr0_1, hf0_1⟩ := Q.fields_open hy0_1
  clear hA0 hval0 hsz0 hsz
  obtain ⟨k, h⟩ := Q.FnExactEncode a0_0 l0_1 w0_0 hm0_1 hf0_1
  refine (Q.laws_FnExactEncode.calls k a0_0 _ _ l0_1 true W hr0_1 hc0_1 hG rfl h).mono fun e W' ⟨he, bel⟩ => ?_
  subst he
  exact ⟨_, rfl, _, _, _, [], _, [], hW', trodAll_mk1 (shut_bool Tryd.underlying4 _), (trodAll_cons_mk (Below.trod laidOut (by kernel_rfl) (of_decide_eq_true (by kernel_rfl)) k0 bel lt0) trodAll_mk0), rfl, bel.frame _, fun h => by cases h⟩
theorem over : Rows.fnExactEncodeRow.holds Tryd.pinned (OpenSpec.ofChange Rows.fnExactEncodeSpec) :=
  OpenClaim.holds_of_wide 5 Tryd.f5 rfl rfl rfl rfl rfl rfl rfl ⟨rfl, rfl, rfl, rfl, rfl⟩ rfl rfl rfl rfl rfl (by kernel_rfl) Tryd.func5 (by kernel_rfl)
    (of_decide_eq_true (by kernel_rfl)) (by unfold Func.isWrapper; first | (rw [if_pos (by decide +kernel)]; kernel_rfl) | (rw [if_neg (by decide +kernel)]; exact ⟨rfl, rfl⟩))
    (fun os started H enc _ => lifted os started H enc)
open Go in
set_option maxRecDepth 100000 in
theorem proved : Rows.FnExactEncodeCardSaid :=
  Claim7.holds_tied_plain_at .later [] [.data, .data, .data] true (true, "70ac28d47b47cecebc940bf16e1823b66f7f0fe1ec7d1db6be1fa77788072cbe") true
    over (fun _ h => by cases h) (by kernel_rfl) (fun _ h => by cases h) fnExactEncode_row_tie rfl ⟨rfl, rfl⟩ (by kernel_rfl) rfl
    (fun f fn hf hfn => by
      obtain rfl : f = 5 := Option.some.inj ((show Tryd.prog.funcNamed "loop.example/g00735/laws.FnExactEncode" = some 5 by kernel_rfl).symm.trans hf) |>.symm
      obtain rfl : fn = Tryd.f5 := (Option.some.inj (Tryd.func5.symm.trans hfn)).symm
      refine ⟨by kernel_rfl, fun j t ht => ?_⟩
      rw [Tryd.params5] at ht
      have h3 : t = 44 := by
        rcases j with _ | j
        · simpa using ht.symm
        · simp at ht
      subst h3
      exact (show Tryd.prog.wantsStandIn 44 = false by kernel_rfl))
    (by kernel_rfl)
#print axioms proved
end Go.Proofs.YtfiieppnpmodoaaDoor.fnExactEncode
namespace Go.Proofs.YtfiieppnpmodoaaDoor
/-- The row, under a short name, for the claim. -/
theorem fnExactEncode_holds : Rows.FnExactEncodeCardSaid := fnExactEncode.proved
end Go.Proofs.YtfiieppnpmodoaaDoor
end
