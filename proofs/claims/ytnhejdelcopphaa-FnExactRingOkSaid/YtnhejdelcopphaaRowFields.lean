/- What an argument that is a slice of fields, or of ints, inside a struct reads as: for the rows; no condition. -/
import Derived.Test.YtnhejdelcopphaaQx0
import Derived.WalkKit
import Derived.ProofKit
import Derived.Deep.Slices
namespace Go.Proofs.Ytnhejdelcopphaa.Q
open Go.RowKit Go.Proofs.YtnhejdelcopphaaW.PrintWords Go.Proofs.YtnhejdelcopphaaW.PrintLast Go.Proofs.YtnhejdelcopphaaW.PrintMore Go.ChangeShapes Go.WideShapes Go.ChangeAt Go.Deep
set_option linter.unusedVariables false
set_option linter.unusedSimpArgs false
theorem addr_add (a : Addr) (i j : Nat) : (a.add i).add j = a.add (i + j) := by
  unfold Addr.add
  by_cases h1 : i = 0 <;> by_cases h2 : j = 0 <;> simp [h1, h2, Nat.add_assoc]
theorem maxLen_eq : maxLen = 9223372036854775807 := rfl
theorem cellsField : Try.prog.cellsOf 85 = 2 := by kernel_rfl
theorem cellsInt : Try.prog.cellsOf 3 = 1 := by kernel_rfl
theorem cellsStr : Try.prog.cellsOf 9 = 1 := by kernel_rfl
theorem field_cells {H : Type} {enc : TypeId × Value → H} {W : World} {n : Nat} {cs : List Value} {y : DataW H × List MemPlace} (h : DataW.trod enc Try.prog W 0 (fun _ => true) true n 85 cs = some y) :
    ∃ f : S85, cs = [.int .i64 f.f0, .string f.f1] ∧ f.f1.size ≤ 9223372036854775807 ∧ (Lit.int .i64 f.f0).wf = true := by
  obtain ⟨y0, y1, m, hx, hl, h0, h1⟩ := trod_struct2 Try.underlying85 h
  rw [cellsField] at hl
  match cs, hl with
  | [u0, u1], _ =>
    simp only [cellsInt, cellsStr, List.drop_zero, List.take_succ_cons, List.take_zero, List.drop_succ_cons] at h0 h1
    obtain ⟨a, e0, _, wa⟩ := DataW.trod_int Try.underlying3 h0
    obtain ⟨s, e1, _, ws⟩ := DataW.trod_string Try.underlying9 h1
    simp at e0 e1
    subst e0 e1
    exact ⟨⟨a, s⟩, rfl, ws, wa⟩
instance : Inhabited S85 := ⟨z85⟩
theorem fields_open {H : Type} {enc : TypeId × Value → H} {W : World} {fuel : Nat} {v : Value} {x : DataW H × List MemPlace} (h : DataW.trod enc Try.prog W 0 (fun _ => true) true fuel 35 [v] = some x) :
    ∃ (A : Option Addr) (c : Nat) (l : List S85), v = .slice A l.length c ∧ l.length ≤ c ∧ l.length ≤ 9223372036854775807 ∧ Kd.C k85 W A l.length l ∧ ∀ f ∈ l, f.f1.size ≤ 9223372036854775807 ∧ (Lit.int .i64 f.f0).wf = true := by
  rcases open_slice Try.underlying35 h with ⟨hcs, _⟩ | ⟨a, len, cap, m, n, D, Pl, hcs, _, hlc, hcap, hm, _, hel⟩
  · simp at hcs
    subst hcs
    exact ⟨none, 0, [], rfl, Nat.le_refl _, by simp, Kd.C_nil _ _, fun f hf => by cases hf⟩
  · simp at hcs
    subst hcs
    have hlm : len ≤ m := by rw [hm]; simpa using hlc
    rw [cellsField] at hel
    obtain ⟨F, hF⟩ := choose_lt (α := S85) (n := len) (p := fun i f => f.f1.size ≤ 9223372036854775807 ∧ (Lit.int .i64 f.f0).wf = true ∧ ∀ (j : Nat) (u : Value), ([.int .i64 f.f0, .string f.f1] : List Value)[j]? = some u → W.cell? (a.add (i * 2 + j)) = some u) (fun i hi => by
      obtain ⟨cs', h1, h2⟩ := hel i (by omega)
      obtain ⟨f, rfl, hs, hw⟩ := field_cells h2
      obtain ⟨_, _, hc⟩ := World.cells?_some h1
      refine ⟨f, hs, hw, fun j u hj => ?_⟩
      have hj2 : j < 2 := by
        have := (List.getElem?_eq_some_iff.1 hj).1
        simpa using this
      rw [← addr_add, hc j hj2]
      exact hj)
    have hlen : ((List.range len).map F).length = len := by simp
    rw [maxLen_eq] at hcap
    refine ⟨some a, cap, (List.range len).map F, by rw [hlen], by rw [hlen]; exact hlc, by rw [hlen]; omega, ?_, ?_⟩
    · rw [hlen]
      refine ⟨hlen, by omega, fun _ => ⟨a, rfl, fun j p hj => ?_⟩⟩
      have hjl : j < len := by
        have := (List.getElem?_eq_some_iff.1 hj).1
        rwa [hlen] at this
      have hp : p = F j := by
        simp [hjl] at hj
        exact hj.symm
      subst hp
      exact ⟨[.int .i64 (F j).f0, .string (F j).f1], rfl, k85_mk W (F j), (hF j hjl).2.2⟩
    · intro f hf
      obtain ⟨j, hj, rfl⟩ := List.mem_map.1 hf
      have hjl : j < len := List.mem_range.1 hj
      exact ⟨(hF j hjl).1, (hF j hjl).2.1⟩
theorem cellsInt_ : Try.prog.cellsOf 3 = 1 := by kernel_rfl
theorem ints_open {H : Type} {enc : TypeId × Value → H} {W : World} {fuel : Nat} {v : Value} {x : DataW H × List MemPlace} (h : DataW.trod enc Try.prog W 0 (fun _ => true) true fuel 28 [v] = some x) :
    ∃ (A : Option Addr) (c : Nat) (l : List Int), v = .slice A l.length c ∧ l.length ≤ c ∧ l.length ≤ 9223372036854775807 ∧ Kd.C (Kd.int .i64) W A l.length l ∧ ∀ n ∈ l, (Lit.int .i64 n).wf = true := by
  have key : ∃ (a : Option Addr) (len cap : Nat) (zs : List Int), v = .slice a len cap ∧ ((a = none ∧ len = 0 ∧ cap = 0 ∧ zs = []) ∨ ∃ x, a = some x ∧ len ≤ cap ∧ cap ≤ maxLen ∧ zs.length = cap ∧ (∀ i, i < zs.length → W.cell? (x.add i) = some (.int .i64 (zs.getD i 0))) ∧ ∀ n ∈ zs, (Lit.int .i64 n).wf = true) := by
    rcases open_ints Try.underlying28 Try.underlying3 cellsInt_ h with ⟨hcs, _⟩ | ⟨x, l, c, zs, hcs, _, hl, hm, hz, _, hcell, hwz⟩
    · simp at hcs
      subst hcs
      exact ⟨none, 0, 0, [], rfl, .inl ⟨rfl, rfl, rfl, rfl⟩⟩
    · simp at hcs
      subst hcs
      exact ⟨_, _, _, zs, rfl, .inr ⟨_, rfl, hl, hm, by simpa using hz, hcell, hwz⟩⟩
  obtain ⟨a, len, cap, zs, rfl, hk⟩ := key
  obtain ⟨l, rfl, hr, hm, hw, hc⟩ := ReadsInt.ofRowC hk
  exact ⟨a, cap, l, rfl, hc, hm, Kd.C_of_reads (d := (0 : Int)) (h1 := fun _ => rfl) hr, hw⟩
end Go.Proofs.Ytnhejdelcopphaa.Q
