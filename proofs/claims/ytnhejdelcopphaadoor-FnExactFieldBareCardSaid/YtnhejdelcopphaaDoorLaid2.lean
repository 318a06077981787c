/- The start that fits a row that lists the two tables of unicode/utf8: for rows of tied cards; and what the world's shape gives the walks. -/
import Derived.Test.YtnhejdelcopphaaDoorRows
import Derived.Test.YtnhejdelcopphaaDoorExtMax
import Derived.LaidLaws
import Derived.Stop.LaidErr
import Derived.ChangeMaps5
import Derived.Handed
import Derived.SizedLaws
import Derived.ChangeOld
import Derived.ProofKit
import Derived.Shelf.Vars
namespace Go.Proofs.YtnhejdelcopphaaDoor.Laid
open Go.ChangeShapes Go.WideShapes Go.ChangeAt Go.RowKit
def val1 (d : DataW Unit) : List Value := match d with
  | .lit (.int k z) => [Value.int k z]
  | .agg l => l.map fun | .lit (.int k z) => Value.int k z | _ => .bool false
  | _ => []
def valsOf (d : DataW Unit) : Array Value := match d with
  | .agg l => (l.flatMap val1).toArray
  | _ => #[]
def put (d : DataW Unit) : Obj → Obj
  | .cells _ t frozen => .cells (valsOf d) t frozen
  | o => o
/-- The settled world with the two tables laid. -/
noncomputable def world (os : Os) : World :=
  let w0 := World.holding Tryd.prog os ⟨#[], #[], []⟩
  { w0 with heap := (w0.heap.modify 2 (put Rows.laid_unicode_utf8_acceptRanges)).modify 1 (put Rows.laid_unicode_utf8_first) }
abbrev list2 : List (String × DataW Unit) := [("unicode/utf8.acceptRanges", Rows.laid_unicode_utf8_acceptRanges), ("unicode/utf8.first", Rows.laid_unicode_utf8_first)]
set_option maxRecDepth 100000 in
theorem met (os : Os) (args : Array Value) : laidMet Tryd.prog list2 ((world os).forCall (fun _ _ => 0) ⟨#[], args, []⟩).memory :=
  laidMet_of_run' 600 (by kernel_rfl) (by kernel_rfl)
theorem gl {W : World} (h : W.ShapedOpen Tryd.prog) : Q.GLW W :=
  ⟨cell_of_shapedOpen_int (zero := #[.int .i64 0]) (t := 3) h (of_decide_eq_true (by kernel_rfl)) (by kernel_rfl) rfl (by kernel_rfl) (by kernel_rfl) Tryd.underlying3⟩
/-- A row with a list whose contract leans on the world's shape, too. -/
theorem returns {H : Type} {enc : TypeId × Value → H} {C : Checked} {os : Os} {f : FuncId} {fn : Func} {s : ChangeSpec} {conds : List PathCond} {fresh : Bool} {X : World → Array Value → Prop}
    (_hX : ∀ (w w' : World) (args : Array Value), w.heap = w'.heap → X w args → X w' args) (own : ownKnob C.prog.godebug = none) (started : os.Started) (noInit : C.prog.inits.idxOf? f = none) (hfn : C.prog.funcs[f]? = some fn)
    (start : ∃ (w : World) (tape : Tape) (i : Input), w.os = os ∧ (w.forCall tape i).Shaped C.prog ∧ i.vars = [] ∧ Input.okWide C.prog (w.forCall tape i) .any w.heap.size f i ∧
      ((s.pre enc C.prog fn conds false (w.forCall tape i).memory i.args ∧ X (w.forCall tape i).memory i.args) ∧ sizedMet enc C.prog fn (OpenSpec.ofChange s) false (w.forCall tape i).memory i.args) ∧ ({} : Assume).holds C.prog (lone (Frame.enter C.prog f i.args .normal) [] (w.forCall tape i)))
    (walk : ∀ (W : World) (base : Nat) (args : Array Value) (ds gs : List (DataW H)) (before : List MemPlace),
      (∀ (j : Nat) t v, fn.params[j]? = some t → args[j]? = some v → Value.okWide C.prog W .any base t v) → DataW.Whole enc C.prog fn.params.toList s.vars false W args.toList ds gs before →
      (DataW.weightsEach C.prog (fn.params.toList ++ s.plain.varTypes C.prog) (ds ++ gs)).all (· ≤ reachBytes) = true → W.ShapedOpen C.prog →
      Calls C.prog f args W fun e W' => ∃ v, e = .returned v ∧ s.post enc C.prog fn false true false fresh W args v W') :
    ReturnsInHanded {} C os f .any (fun w args => (s.pre enc C.prog fn conds false w args ∧ X w args) ∧ sizedMet enc C.prog fn (OpenSpec.ofChange s) false w args) (s.post enc C.prog fn false true false fresh) :=
  returnsInHanded_of_calls own started noInit start fun w tape i _ shaped _ ok pre _ => by
    obtain ⟨⟨⟨ds, gs, before, whole, _⟩, _⟩, sized⟩ := pre
    obtain ⟨_, _, _, g, hg, _, _, _, _, vals⟩ := ok
    cases Option.some.inj (hg.symm.trans hfn)
    exact (walk (w.forCall tape i) w.heap.size i.args ds gs before vals (DataW.Whole.of_heap (w' := w.forCall tape i) (by rfl) whole) (sized.weights whole) shaped).mono fun e W' h => by
      obtain ⟨v, rfl, hp⟩ := h
      exact ChangeSpec.post_blind hp
end Go.Proofs.YtnhejdelcopphaaDoor.Laid
