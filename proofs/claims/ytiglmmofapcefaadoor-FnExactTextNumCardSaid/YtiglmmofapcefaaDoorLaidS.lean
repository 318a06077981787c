/- What a list with the two sentinels gives a walk that comes to strconv.Atoi's errors. -/
import Derived.Test.YtiglmmofapcefaaDoorLaid5
import Derived.Test.YtiglmmofapcefaaDoorExtGls
namespace Go.Proofs.YtiglmmofapcefaaDoor.Laid
open Go.ChangeShapes Go.WideShapes Go.ChangeAt Go.RowKit
theorem synType : (Tryd.prog.globals[0]?).map (·.type) = some 74 := by kernel_rfl
theorem rngType : (Tryd.prog.globals[1]?).map (·.type) = some 74 := by kernel_rfl
theorem cellsE : Tryd.prog.cellsOf 156 = 1 := by kernel_rfl
theorem cellsS : Tryd.prog.cellsOf 9 = 1 := by kernel_rfl
theorem star : "*" ++ "errors.errorString" = "*errors.errorString" := by decide
theorem rowE (u : TypeId) (h : Tryd.prog.typeName? 3 u = some "*errors.errorString") : u = 154 :=
  typeName_ptr_named (nm := "errors.errorString") (by rw [star]; kernel_rfl) (by kernel_rfl) (by decide) u (by rw [star]; exact h)
theorem var_lt {w : World} {n : String} {g : Nat} {cs : Array Value} (hg : Tryd.prog.globalNamed n = some g) (h : w.var? Tryd.prog n = some cs) : g < w.heap.size := by
  unfold World.var? at h
  rw [hg] at h
  rcases Nat.lt_or_ge g w.heap.size with h' | h'
  · exact h'
  · simp [Array.getElem?_eq_none h'] at h
theorem gls {W : World} (h : laidMet Tryd.prog list5 W) : Q.GLS W := by
  obtain ⟨a0, s0, hv0, -, -, -⟩ := laid_sentinel h.tail.tail.tail Q.gRng rngType Tryd.underlying74 rowE Tryd.underlying154 Tryd.underlying156 rfl rfl Tryd.underlying9 cellsE cellsS
  obtain ⟨a1, s1, hv1, -, -, -⟩ := laid_sentinel h.tail.tail.tail.tail Q.gSyn synType Tryd.underlying74 rowE Tryd.underlying154 Tryd.underlying156 rfl rfl Tryd.underlying9 cellsE cellsS
  exact ⟨gl h, ⟨_, _, hv1⟩, ⟨_, _, hv0⟩, var_lt Q.gSyn hv1, var_lt Q.gRng hv0⟩
end Go.Proofs.YtiglmmofapcefaaDoor.Laid
