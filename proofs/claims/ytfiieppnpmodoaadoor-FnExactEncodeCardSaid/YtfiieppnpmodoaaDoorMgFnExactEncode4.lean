/- Texts for FnExactEncode, packed by a program of this session (wip/pack.py), part 4 of 5: the print's words that are used, the printed walks, the plain laws, the row; no condition. -/
import Derived.Test.YtfiieppnpmodoaaDoorMgFnExactEncode3
import Derived.Lib.AtoiBound
import Derived.WalkKit
import Derived.ProofKit
import Derived.Deep.Slices
import Derived.Test.YtfiieppnpmodoaaDoorRows
import Derived.LaidLaws
import Derived.Stop.LaidErr
import Derived.ChangeMaps5
section
namespace Go.Proofs.YtfiieppnpmodoaaDoor.Q
open Go.RowKit Go.Proofs.YtfiieppnpmodoaaDoorW.PrintWords Go.Proofs.YtfiieppnpmodoaaDoorW.PrintLast Go.Proofs.YtfiieppnpmodoaaDoorW.PrintMore
attribute [local go_sem] max2_int min2_int max_two min_two max_three min_three max_four min_four
set_option linter.unusedVariables false
set_option linter.unusedSimpArgs false
def laws_markFieldS.l0 : Nat → List (S79) → Int → Int → Option (Int × (List (S79)))
 | 0, _, _, _ => none
 | k + 1, x0, x1, x5 => if x5 < (x0.length : Int) then (if 0 ≤ x5 then ((some (x0.set (x5 : Int).toNat (⟨x1, (rd_T79 x0 x5).f1⟩ : S79) : List (S79))).bind fun y491 => ((laws_markText.f k (wrap64 (x1 + 1))).bind fun t492 => (laws_markFieldS.l0 k (y491.set (x5 : Int).toNat (⟨(rd_T79 y491 x5).f0, t492⟩ : S79)) (wrap64 ((wrap64 (x1 + 1)) + 1)) (wrap64 (x5 + 1))))) else (none)) else (some (x1, x0))
def laws_markFieldS.f (k : Nat) (l0 : List (S79)) (a1 : Int) : Option (Int × (List (S79))) := laws_markFieldS.l0 k l0 a1 0
theorem laws_markFieldS.mono_l : ∀ k, (∀ y0 y1 y2, LeO (laws_markFieldS.l0 k y0 y1 y2) (laws_markFieldS.l0 (k + 1) y0 y1 y2))
 | 0 => fun _ _ _ r h => by simp [laws_markFieldS.l0] at h
 | k + 1 => by
  have ih0 := laws_markFieldS.mono_l k
  ·intro y0 y1 y2
   unfold laws_markFieldS.l0
   repeat' first
   | (with_reducible exact ih0 _ _ _)
   | (with_reducible exact laws_markText.mono _ _)
   | (with_reducible exact LeO.refl _)
   | (with_reducible exact LeO.none _)
   | (with_reducible refine LeO.ite ?_ ?_)
   | (with_reducible refine LeO.bind ?_ (fun _ => ?_))
   | exact ih0 _ _ _
   | exact laws_markText.mono _ _
   | exact LeO.none _
   | refine LeO.ite ?_ ?_
   | refine LeO.bind ?_ (fun _ => ?_)
theorem laws_markFieldS.mono : ∀ a0 a1 k, LeO (laws_markFieldS.f k a0 a1) (laws_markFieldS.f (k + 1) a0 a1) := by
 intro a0 a1 k
 have ih0 := laws_markFieldS.mono_l k
 unfold laws_markFieldS.f
 repeat' first
   | (with_reducible exact ih0 _ _ _)
   | (with_reducible exact laws_markText.mono _ _)
   | (with_reducible exact LeO.refl _)
   | (with_reducible exact LeO.none _)
   | (with_reducible refine LeO.ite ?_ ?_)
   | (with_reducible refine LeO.bind ?_ (fun _ => ?_))
   | exact ih0 _ _ _
   | exact laws_markText.mono _ _
   | exact LeO.none _
   | refine LeO.ite ?_ ?_
   | refine LeO.bind ?_ (fun _ => ?_)
set_option maxHeartbeats 8000000 in
set_option maxRecDepth 100000 in
theorem laws_markFieldS.calls (k : Nat) (P0_ : Nat → Prop) (u9000_ : Value) (l0 : List (S79)) (a1 : Int) (r1 : Int) (r2 : List (S79)) (w0 w : World) (hB : Below w0.heap.size w0 w) (ho0 : Kd.R k79 79 w w0.heap.size P0_ u9000_ l0) (h : laws_markFieldS.f k l0 a1 = some (r1, r2)) :
  Calls Tryd.prog 62 #[u9000_, .int .i64 a1] w fun e w' => e = .returned (.int .i64 r1) ∧ Kd.R k79 79 w' w0.heap.size (fun k_ => (P0_ k_ ∨ w.heap.size ≤ k_)) u9000_ r2 ∧ Below w0.heap.size w0 w' ∧ Kept w w' (fun k_ => P0_ k_) := by
 have HO0 := Aside0.mk (show Kd.R k79 79 w w0.heap.size (fun k_ => (P0_ k_ ∨ w.heap.size ≤ k_)) u9000_ l0 from Kd.R_mono ho0 (fun k_ hk => (.inl hk)))
 have HK := Aside0.mk (Kept.refl w (fun k_ => P0_ k_))
 have HW0 := Aside0.mk hB.size
 have HB := Aside0.mk hB
 clear hB
 have H : (laws_markFieldS.l0 k l0 a1 0) = some (r1, r2) := h
 clear h
 have H' := Aside0.mk H
 clear H
 go_enter Tryd.func62, Tryd.ntmps62
 go_wp2
 go_loopg [1, 5] k (fun kq v1 v5 w' => ∃ (x0_1 : List (S79)) (x1_1 : Int) (x5_1 : Int), v1 = .int .i64 x1_1 ∧ v5 = .int .i64 x5_1 ∧ Aside0 (laws_markFieldS.l0 kq x0_1 x1_1 x5_1 = some (r1, r2)) ∧ Aside0 (kq ≤ k) ∧ Aside0 (Kd.R k79 79 w' w0.heap.size (fun k_ => (P0_ k_ ∨ w.heap.size ≤ k_)) u9000_ x0_1) ∧ Aside0 (Kept w w' (fun k_ => P0_ k_)) ∧ Aside0 (Below w0.heap.size w0 w'))
 case atStart => exact ⟨(l0), (a1), (0), (by first | rfl | (simp; done) | (simp [*]; done) | (simp [i64_w, IntKind.wrap_u8, e256_]; done) | (simp; generalize ByteArray.toList _ = zz_; cases zz_ <;> rfl)), (by first | rfl | (simp; done) | (simp [*]; done) | (simp [i64_w, IntKind.wrap_u8, e256_]; done) | (simp; generalize ByteArray.toList _ = zz_; cases zz_ <;> rfl)), H', ⟨Nat.le_refl _⟩, ⟨rA HO0.out⟩, ⟨by repeat (first | (with_reducible first | exact HK.out | apply Kept.alloc | apply Kept.drewN | apply Kept.drew) | exact HK.out)⟩, ⟨bB⟩⟩
 case round =>
  clear H'
  try clear p2
  obtain ⟨x0_1, x1_1, x5_1, rfl, rfl, HA, HK1, HO_0, HK, HB⟩ := hrel
  cases gk with
  | zero => exact absurd HA.out (by simp [laws_markFieldS.l0])
  | succ k1 =>
   have H := HA.out
   clear HA
   simp only [laws_markFieldS.l0] at H
   by_cases c3 : x5_1 < (x0_1.length : Int)
   ·rw [if_pos c3] at H
    have c3b0 : decide (x5_1 < (x0_1.length : Int)) = true := decide_eq_true c3
    clear c3
    by_cases c4 : 0 ≤ x5_1
    ·rw [if_pos c4] at H
     have c4b0 : decide (0 ≤ x5_1) = true := decide_eq_true c4
     clear c4
     obtain ⟨y491, hy491⟩ : ∃ y_ : List (S79), y_ = (x0_1.set (x5_1 : Int).toNat (⟨x1_1, (rd_T79 x0_1 x5_1).f1⟩ : S79)) := ⟨_, rfl⟩
     replace H : ((laws_markText.f k1 (wrap64 (x1_1 + 1))).bind fun t492 => (laws_markFieldS.l0 k1 (y491.set (x5_1 : Int).toNat (⟨(rd_T79 y491 x5_1).f0, t492⟩ : S79)) (wrap64 ((wrap64 (x1_1 + 1)) + 1)) (wrap64 (x5_1 + 1)))) = some (r1, r2) := by first | (rw [hy491]; with_reducible exact H) | (have H2_ := (Option.bind_some _ _).symm.trans H; rw [hy491]; with_reducible exact H2_) | (have H2_ := (Option.bind_some _ _).symm.trans H; with_reducible exact H2_) | with_reducible exact H | (rw [hy491]; exact H) | exact H
     have Ny491 := Aside0.mk hy491
     clear hy491
     replace H := Option.bind_eq_some_iff.mp H
     obtain ⟨t492, A60, H⟩ := H
     replace H : (laws_markFieldS.l0 k1 (y491.set (x5_1 : Int).toNat (⟨(rd_T79 y491 x5_1).f0, t492⟩ : S79)) (wrap64 ((wrap64 (x1_1 + 1)) + 1)) (wrap64 (x5_1 + 1))) = some (r1, r2) := H
     have A6 := Aside0.mk A60
     clear A60
     obtain ⟨y493, hy493⟩ : ∃ y_ : List (S79), y_ = (y491.set (x5_1 : Int).toNat (⟨(rd_T79 y491 x5_1).f0, t492⟩ : S79)) := ⟨_, rfl⟩
     replace H : (laws_markFieldS.l0 k1 y493 (wrap64 ((wrap64 (x1_1 + 1)) + 1)) (wrap64 (x5_1 + 1))) = some (r1, r2) := by first | (rw [hy493]; with_reducible exact H) | (have H2_ := (Option.bind_some _ _).symm.trans H; rw [hy493]; with_reducible exact H2_) | (have H2_ := (Option.bind_some _ _).symm.trans H; with_reducible exact H2_) | with_reducible exact H | (rw [hy493]; exact H) | exact H
     have Ny493 := Aside0.mk hy493
     clear hy493
     have H' := Aside0.mk H
     clear H
     obtain ⟨Ao8, co8, eo8⟩ := Kd.R_slice HO_0.out
     subst eo8
     have p5 : 0 ≤ (x5_1 : Int) := of_decide_eq_true (by first | (with_reducible assumption) | assumption)
     have q5 : (x5_1 : Int) < ((x0_1.length : Int) : Int) := of_decide_eq_true (by first | (with_reducible assumption) | assumption)
     obtain ⟨go5, co5, eo5, gb5, gl5, cl5, HG5⟩ := Kd.R_form HO_0.out (by omega)
     (first | cases eo5 | (injection eo5 with ea_ en_ ec_; (first | subst ea_ | (injection ea_ with ea_; subst ea_)); subst ec_; clear en_))
     have GB5 := Aside0.mk gb5
     have GG5 := Aside0.mk HG5
     clear gb5 gl5 HG5
     have HMgo5 := Aside0.mk (show (P0_ go5 ∨ w.heap.size ≤ go5) from (HO_0.out.1 _ rfl))
     obtain ⟨ce5, hcl5, hM5, hcc5, hfr5⟩ := Kd.R_elem HO_0.out z79 (x5_1 : Int) p5 q5
     obtain rfl := k79_openM hM5
     have hx5_0 : wr.cell? ⟨go5, (x5_1 : Int).toNat * 2, none⟩ = some (.int .i64 ((rd_T79 x0_1 x5_1).f0)) := hcc5 0 _ rfl
     have hx5_1 : wr.cell? ⟨go5, (x5_1 : Int).toNat * 2 + 1, none⟩ = some (.string ((rd_T79 x0_1 x5_1).f1)) := hcc5 1 _ rfl
     have hf5_0 : wr.frozen? ⟨go5, (x5_1 : Int).toNat * 2, none⟩ = false := hfr5 0
     have hf5_1 : wr.frozen? ⟨go5, (x5_1 : Int).toNat * 2 + 1, none⟩ = false := hfr5 1
     clear hcl5 hcc5 hfr5 hM5
     replace p5 := eq_true p5
     replace q5 := eq_true q5
     have HX9 := Aside0.mk (show Kd.R k79 79 wr w0.heap.size (fun k_ => (P0_ k_ ∨ w.heap.size ≤ k_)) (.slice (some ⟨go5, 0, none⟩) x0_1.length co8) x0_1 from (rA HO_0.out))
     obtain ⟨ce9, hcl9, hM9, hcc9, hfr9⟩ := Kd.R_elem HX9.out z79 (x5_1 : Int) (of_decide_eq_true (by first | (with_reducible assumption) | assumption)) (by have h_ : (x5_1 : Int) < ((x0_1.length : Int) : Int) := of_decide_eq_true (by first | (with_reducible assumption) | assumption); first | exact h_ | (have e_ := (Kd.R_reads' HO_0.out).1; omega) | simpa using h_)
     obtain rfl := k79_openM hM9
     have HP9 := Kd.R_seg HX9.out (x5_1 : Int) (of_decide_eq_true (by first | (with_reducible assumption) | assumption)) (by have h_ : (x5_1 : Int) < ((x0_1.length : Int) : Int) := of_decide_eq_true (by first | (with_reducible assumption) | assumption); first | exact h_ | (have e_ := (Kd.R_reads' HO_0.out).1; omega) | simpa using h_) (seg := [.int .i64 x1_1]) (j := 0) hcl9 hcc9 (show 1 ≤ 2 from by decide) (x' := (⟨x1_1, (rd_T79 x0_1 x5_1).f1⟩ : S79)) (k79_mkM _ _ _ (⟨x1_1, (rd_T79 x0_1 x5_1).f1⟩ : S79) ) (fun _ hk => hk)
     have hx9_0 := hcc9 0 _ rfl
     (try simp only [show (k79).sz = 2 from rfl, Nat.mul_one, Nat.add_zero] at hx9_0)
     have hf9_0 := hfr9 0
     (try simp only [show (k79).sz = 2 from rfl, Nat.mul_one, Nat.add_zero] at hf9_0)
     clear hcl9 hcc9 hfr9 hM9
     go_wp2_with (first | ((with_reducible refine gate_store (t := 3) (p := 16) rfl ?_); refine store_event (t := 3) (p := 16) (v := ?vo_w10) (w1 := (wr.setCell ⟨go5, (x5_1 : Int).toNat * 2, none⟩ (.int .i64 x1_1))) ?hg ?ho ?hn ?hr ?_; (case ho => rfl); (case hg => rfl); (case hn => rfl); (case hr => first | (go_simp; done) | (go_simp; rfl)); intro w10 hw; have hg : wr.grownBy w10 (some go5) := (by rw [hw]; exact HP9.2); have hp_ : Kd.R k79 79 w10 w0.heap.size (fun k_ => (P0_ k_ ∨ w.heap.size ≤ k_)) (.slice (some ⟨go5, 0, none⟩) x0_1.length co8) y491 := (by rw [hw, Ny491.out]; exact HP9.1); clear HP9; have n0_ := Aside0.mk (hp_); have n1_ := Aside0.mk ((by rw [hw]; exact below_set (HB.out) GB5.out : Below w0.heap.size w0 w10)); have n2_ := Aside0.mk (Kept.of_grown (S := (fun k_ => P0_ k_)) hg (by repeat (first | (with_reducible first | exact HK.out | apply Kept.alloc | apply Kept.drewN | apply Kept.drew) | exact HK.out)) (fun k_ e_ => (HO_0.out.1 k_ e_))); clear HO_0; clear HB; clear HK; have HO_0 := n0_; have HB := n1_; have HK := n2_; clear n0_ n1_ n2_; clear hg hw hp_) | ((with_reducible refine gate_callee (f := 88) rfl ?_); refine goesM_ (some 22) rfl rfl Tryd.func88 (by kernel_rfl) rfl #[.int .i64 (wrap64 (x1_1 + 1))] rfl ?_; (with_reducible refine (laws_markText.calls k1 (wrap64 (x1_1 + 1)) t492 _ A6.out).mono ?_); rintro e w11 ⟨rfl, hb⟩; refine ⟨_, rfl, ?_⟩; have n0_ := Aside0.mk (Kd.R_below (rA HO_0.out) hb); have n1_ := Aside0.mk (Kept.below (S := (fun k_ => P0_ k_)) (by repeat (first | (with_reducible first | exact HK.out | apply Kept.alloc | apply Kept.drewN | apply Kept.drew) | exact HK.out)) hb); have n2_ := Aside0.mk (below_step bB hb); clear HO_0; clear HK; clear HB; have HO_0 := n0_; have HK := n1_; have HB := n2_; clear n0_ n1_ n2_; (try clear hb); (try clear hb2); (try clear hk); (try clear hi); have p7 : 0 ≤ (x5_1 : Int) := of_decide_eq_true (by first | (with_reducible assumption) | assumption); have q7 : (x5_1 : Int) < ((x0_1.length : Int) : Int) := of_decide_eq_true (by first | (with_reducible assumption) | assumption); obtain ⟨ce7, hcl7, hM7, hcc7, hfr7⟩ := Kd.R_elem HO_0.out z79 (x5_1 : Int) p7 q7; obtain rfl := k79_openM hM7; have hx7_0 : w11.cell? ⟨go5, (x5_1 : Int).toNat * 2, none⟩ = some (.int .i64 ((rd_T79 y491 x5_1).f0)) := hcc7 0 _ rfl; have hx7_1 : w11.cell? ⟨go5, (x5_1 : Int).toNat * 2 + 1, none⟩ = some (.string ((rd_T79 y491 x5_1).f1)) := hcc7 1 _ rfl; have hf7_0 : w11.frozen? ⟨go5, (x5_1 : Int).toNat * 2, none⟩ = false := hfr7 0; have hf7_1 : w11.frozen? ⟨go5, (x5_1 : Int).toNat * 2 + 1, none⟩ = false := hfr7 1; clear hcl7 hcc7 hfr7 hM7; replace p7 := eq_true p7; replace q7 := eq_true q7; have HX12 := Aside0.mk (show Kd.R k79 79 w11 w0.heap.size (fun k_ => (P0_ k_ ∨ w.heap.size ≤ k_)) (.slice (some ⟨go5, 0, none⟩) x0_1.length co8) y491 from (rA HO_0.out)); obtain ⟨ce12, hcl12, hM12, hcc12, hfr12⟩ := Kd.R_elem HX12.out z79 (x5_1 : Int) (of_decide_eq_true (by first | (with_reducible assumption) | assumption)) (by have h_ : (x5_1 : Int) < ((x0_1.length : Int) : Int) := of_decide_eq_true (by first | (with_reducible assumption) | assumption); first | exact h_ | (have e_ := (Kd.R_reads' HO_0.out).1; omega) | simpa using h_); obtain rfl := k79_openM hM12; have HP12 := Kd.R_seg HX12.out (x5_1 : Int) (of_decide_eq_true (by first | (with_reducible assumption) | assumption)) (by have h_ : (x5_1 : Int) < ((x0_1.length : Int) : Int) := of_decide_eq_true (by first | (with_reducible assumption) | assumption); first | exact h_ | (have e_ := (Kd.R_reads' HO_0.out).1; omega) | simpa using h_) (seg := [.string t492]) (j := 1) hcl12 hcc12 (show 2 ≤ 2 from by decide) (x' := (⟨(rd_T79 y491 x5_1).f0, t492⟩ : S79)) (k79_mkM _ _ _ (⟨(rd_T79 y491 x5_1).f0, t492⟩ : S79) ) (fun _ hk => hk); have hx12_1 := hcc12 1 _ rfl; (try simp only [show (k79).sz = 2 from rfl, Nat.mul_one, Nat.add_zero] at hx12_1); have hf12_1 := hfr12 1; (try simp only [show (k79).sz = 2 from rfl, Nat.mul_one, Nat.add_zero] at hf12_1); clear hcl12 hcc12 hfr12 hM12) | ((with_reducible refine gate_store (t := 9) (p := 24) rfl ?_); refine store_event (t := 9) (p := 24) (v := ?vo_w13) (w1 := (w11.setCell ⟨go5, (x5_1 : Int).toNat * 2 + 1, none⟩ (.string t492))) ?hg ?ho ?hn ?hr ?_; (case ho => rfl); (case hg => rfl); (case hn => rfl); (case hr => first | (go_simp; done) | (go_simp; rfl)); intro w13 hw; have hg : w11.grownBy w13 (some go5) := (by rw [hw]; exact HP12.2); have hp_ : Kd.R k79 79 w13 w0.heap.size (fun k_ => (P0_ k_ ∨ w.heap.size ≤ k_)) (.slice (some ⟨go5, 0, none⟩) x0_1.length co8) y493 := (by rw [hw, Ny493.out]; exact HP12.1); clear HP12; have n0_ := Aside0.mk (hp_); have n1_ := Aside0.mk ((by rw [hw]; exact below_set (HB.out) GB5.out : Below w0.heap.size w0 w13)); have n2_ := Aside0.mk (Kept.of_grown (S := (fun k_ => P0_ k_)) hg (by repeat (first | (with_reducible first | exact HK.out | apply Kept.alloc | apply Kept.drewN | apply Kept.drew) | exact HK.out)) (fun k_ e_ => (HO_0.out.1 k_ e_))); clear HO_0; clear HB; clear HK; have HO_0 := n0_; have HB := n1_; have HK := n2_; clear n0_ n1_ n2_; clear hg hw hp_))
     go_roundg k1
     case measure => have := HK1.out; omega
     case rel => exact ⟨(y493), (wrap64 ((wrap64 (x1_1 + 1)) + 1)), (wrap64 (x5_1 + 1)), (by first | rfl | (simp; done) | (simp [*]; done) | (simp [i64_w, IntKind.wrap_u8, e256_]; done) | (simp; generalize ByteArray.toList _ = zz_; cases zz_ <;> rfl)), (by first | rfl | (simp; done) | (simp [*]; done) | (simp [i64_w, IntKind.wrap_u8, e256_]; done) | (simp; generalize ByteArray.toList _ = zz_; cases zz_ <;> rfl)), H', ⟨by have := HK1.out; omega⟩, ⟨rA HO_0.out⟩, ⟨by repeat (first | (with_reducible first | exact HK.out | apply Kept.alloc | apply Kept.drewN | apply Kept.drew) | exact HK.out)⟩, ⟨bB⟩⟩
    ·rw [if_neg c4] at H
     exact absurd H (by simp)
   ·rw [if_neg c3] at H
    have c3b0 : decide (x5_1 < (x0_1.length : Int)) = false := decide_eq_false c3
    clear c3
    simp only [Option.some.injEq, Prod.mk.injEq] at H
    obtain ⟨rfl, rfl⟩ := H
    obtain ⟨Ao14, co14, eo14⟩ := Kd.R_slice HO_0.out
    subst eo14
    go_wp2
    go_ret
    exact ⟨by first | rfl | (simp [errW_none, errW_some] <;> rfl) | (simp [*, errW_none, errW_some] <;> rfl), rA HO_0.out, bB, by repeat (first | (with_reducible first | exact HK.out | apply Kept.alloc | apply Kept.drewN | apply Kept.drew) | exact HK.out)⟩
def laws_markMsg.f (k : Nat) (a0_0 : ByteArray) (l0_1 : List (S79)) (a1 : Int) : Option (Int × (List (S79))) := (laws_markFieldS.f k l0_1 a1).bind fun bt495 => (some (bt495.1, bt495.2))
set_option maxHeartbeats 8000000 in
set_option maxRecDepth 100000 in
theorem laws_markMsg.calls (k : Nat) (a0_0 : ByteArray) (P0_1_ : Nat → Prop) (u9000_ : Value) (l0_1 : List (S79)) (a1 : Int) (r1 : Int) (r2 : List (S79)) (w0 w : World) (hB : Below w0.heap.size w0 w) (ho0_1 : Kd.R k79 79 w w0.heap.size P0_1_ u9000_ l0_1) (h : laws_markMsg.f k a0_0 l0_1 a1 = some (r1, r2)) :
  Calls Tryd.prog 31 #[.agg #[.string a0_0, u9000_], .int .i64 a1] w fun e w' => e = .returned (.int .i64 r1) ∧ Kd.R k79 79 w' w0.heap.size (fun k_ => (P0_1_ k_ ∨ w.heap.size ≤ k_)) u9000_ r2 ∧ Below w0.heap.size w0 w' ∧ Kept w w' (fun k_ => P0_1_ k_) := by
 have hu49 := Tryd.underlying49
 have HO0_1 := Aside0.mk (show Kd.R k79 79 w w0.heap.size (fun k_ => (P0_1_ k_ ∨ w.heap.size ≤ k_)) u9000_ l0_1 from Kd.R_mono ho0_1 (fun k_ hk => (.inl hk)))
 have HK := Aside0.mk (Kept.refl w (fun k_ => P0_1_ k_))
 have HW0 := Aside0.mk hB.size
 have HB := Aside0.mk hB
 clear hB
 have H : ((laws_markFieldS.f k l0_1 a1).bind fun bt495 => (some (bt495.1, bt495.2))) = some (r1, r2) := h
 clear h
 replace H := Option.bind_eq_some_iff.mp H
 obtain ⟨⟨t495, t496⟩, A30, H⟩ := H
 replace H : (some (t495, t496)) = some (r1, r2) := H
 have A3 := Aside0.mk A30
 clear A30
 simp only [Option.some.injEq, Prod.mk.injEq] at H
 obtain ⟨rfl, rfl⟩ := H
 obtain ⟨Ao4, co4, eo4⟩ := Kd.R_slice HO0_1.out
 subst eo4
 go_enter Tryd.func31, Tryd.ntmps31
 go_wp2_with (first | ((with_reducible refine gate_dst (N := 2) rfl ?_); refine box_event ?hg (N := 2) ?hd (cs := #[.string a0_0, .slice Ao4 l0_1.length co4]) (t := 49) ?hr ?_; (case hd => rfl); (case hg => rfl); (case hr => first | (go_simp; done) | (go_simp; rfl)); intro gb494 hg w5 hbox hb; have n0_ := Aside0.mk (Kd.R_below (rA HO0_1.out) hb); have n1_ := Aside0.mk (Kept.below (S := (fun k_ => P0_1_ k_)) (by repeat (first | (with_reducible first | exact HK.out | apply Kept.alloc | apply Kept.drewN | apply Kept.drew) | exact HK.out)) hb); have n2_ := Aside0.mk (below_step bB hb); have n3_ := Aside0.mk (hbox); have n4_ := Aside0.mk ((by rw [hg]; exact (by first | exact HK.out.1 | exact (show Kept w _ (fun k_ => P0_1_ k_) from by repeat (first | (with_reducible first | exact HK.out | apply Kept.alloc | apply Kept.drewN | apply Kept.drew) | exact HK.out)).1) : w.heap.size ≤ gb494)); have n5_ := Aside0.mk ((by rw [hg]; exact (below_size bB) : w0.heap.size ≤ gb494)); clear HO0_1; clear HK; clear HB; have HO0_1 := n0_; have HK := n1_; have HB := n2_; have BK494 := n3_; have GW494 := n4_; have GE494 := n5_; clear n0_ n1_ n2_ n3_ n4_ n5_; clear hb hbox hg; have hcz6_0 : w5.cell? ⟨gb494, 0, none⟩ = some (.string a0_0) := (blk_cell BK494.out 0).trans rfl; have hcz6_1 : w5.cell? ⟨gb494, 1, none⟩ = some (.slice Ao4 l0_1.length co4) := (blk_cell BK494.out 1).trans rfl; have hfz6_0 := blk_frozen BK494.out 0; have hfz6_1 := blk_frozen BK494.out 1) | ((with_reducible refine gate_callee (f := 62) rfl ?_); refine goesM_ (some 8) rfl rfl Tryd.func62 (by kernel_rfl) rfl #[.slice Ao4 l0_1.length co4, .int .i64 a1] rfl ?_; (with_reducible refine (laws_markFieldS.calls k (fun k_ => some k_ = (.slice Ao4 l0_1.length co4 : Value).ownBlock) (.slice Ao4 l0_1.length co4) l0_1 a1 t495 t496 w0 _ ?side1 ?side2 A3.out).mono ?_); (case side1 => repeat (first | (with_reducible first | exact HB.out | apply below_alloc | apply pw_below_drewN | apply below_drew1 | refine below_set ?_ GE494.out) | exact HB.out)); (case side2 => exact Kd.R_tight rfl HO0_1.out); rintro e w7 ⟨rfl, hy0, hb, hkp⟩; refine ⟨_, rfl, ?_⟩; have n0_ := Aside0.mk (Kd.R_reok rfl hy0 (fun k_ e_ => HO0_1.out.1 k_ e_)); have n1_ := Aside0.mk (blk_kept (kA BK494.out) hkp (fun hs_ => (fun e_ => (Kd.R_ne HO0_1.out BK494.out (by decide)) e_) hs_)); have n2_ := Aside0.mk (Kept.then_ (S := (fun k_ => P0_1_ k_)) (by repeat (first | (with_reducible first | exact HK.out | apply Kept.alloc | apply Kept.drewN | apply Kept.drew | refine Kept.setCell ?_ (.inr GW494.out) _) | exact HK.out)) hkp (fun k_ hs_ => (fun e_ => (HO0_1.out.1 k_ e_.symm)) hs_)); have n3_ := Aside0.mk (hb); clear HO0_1; clear BK494; clear HK; clear HB; have HO0_1 := n0_; have BK494 := n1_; have HK := n2_; have HB := n3_; clear n0_ n1_ n2_ n3_; (try clear hb); (try clear hkp); (try clear hy0)))
 go_ret
 exact ⟨by first | rfl | (simp [errW_none, errW_some] <;> rfl) | (simp [*, errW_none, errW_some] <;> rfl), rA HO0_1.out, bG, by repeat (first | (with_reducible first | exact HK.out | apply Kept.alloc | apply Kept.drewN | apply Kept.drew | refine Kept.setCell ?_ (.inr GW494.out) _) | exact HK.out)⟩
attribute [local go_sem] max2_int min2_int max_two min_two max_three min_three max_four min_four
set_option linter.unusedVariables false
set_option linter.unusedSimpArgs false
mutual
def laws_FnExactEncode.j0 : Nat → List Int → Bool → List Int → Bool → Bool → ByteArray → List (S102) → ByteArray → List (S79) → Option (Bool)
 | 0, _, _, _, _, _, _, _, _, _ => none
 | k + 1, x4, x5, x7, x8, x40, x498000, x498001, x512000, x512001 => if x40 = true then (some false) else ((laws_toMsg.f k x498000 x498001).bind fun bt517 => ((laws_eqMsg.f k x512000 x512001 bt517.1 bt517.2).bind fun t521 => (if t521 = true then ((laws_markMsg.f k x512000 x512001 1).bind fun bt522 => (if bt522.1 < 0 then (laws_FnExactEncode.j1 k x4 x5 x7 true x498000 x498001) else ((laws_eqByteS.f k x7 x4).bind fun t524 => (if t524 = true then (laws_FnExactEncode.j1 k x4 x5 x7 (x8 != x5) x498000 x498001) else (laws_FnExactEncode.j1 k x4 x5 x7 true x498000 x498001))))) else (some false))))
def laws_FnExactEncode.j1 : Nat → List Int → Bool → List Int → Bool → ByteArray → List (S102) → Option (Bool)
 | 0, _, _, _, _, _, _ => none
 | k + 1, x4, x5, x7, x61, x498000, x498001 => if x61 = true then (some false) else ((laws_markByteS.f k x7 1).bind fun bt525 => ((laws_heldByteS.f k bt525.2 1).bind fun t527 => (if t527 < 0 then (some false) else (if t527 = bt525.1 then ((laws_toMsg.f k x498000 x498001).bind fun bt528 => ((impl_Encode.f k bt528.1 bt528.2).bind fun bt532 => ((laws_eqByteS.f k bt532.1 x4).bind fun t536 => (if t536 = true then (laws_FnExactEncode.j2 k bt525.2 bt525.1 (bt532.2 != x5)) else (laws_FnExactEncode.j2 k bt525.2 bt525.1 true))))) else (some false)))))
def laws_FnExactEncode.j2 : Nat → List Int → Int → Bool → Option (Bool)
 | 0, _, _, _ => none
 | k + 1, x7, x10, x87 => if x87 = true then (some false) else ((laws_heldByteS.f k x7 1).bind fun t537 => (if t537 < 0 then (some false) else (if t537 = x10 then (some true) else (some false))))
end
def laws_FnExactEncode.f (k : Nat) (a0_0 : ByteArray) (l0_1 : List (S102)) : Option (Bool) := (laws_szMsg.f k a0_0 l0_1 1048576).bind fun t498 => (if t498 < 0 then (some true) else ((laws_toMsg.f k a0_0 l0_1).bind fun bt499 => ((spec_Encode.f k bt499.1 bt499.2).bind fun bt503 => ((laws_toMsg.f k a0_0 l0_1).bind fun bt507 => ((impl_Encode.f k bt507.1 bt507.2).bind fun bt512 => ((laws_eqByteS.f k bt512.1 bt503.1).bind fun t516 => (if t516 = true then (laws_FnExactEncode.j0 k bt503.1 bt503.2 bt512.1 bt512.2 (bt512.2 != bt503.2) a0_0 l0_1 bt507.1 bt507.2) else (laws_FnExactEncode.j0 k bt503.1 bt503.2 bt512.1 bt512.2 true a0_0 l0_1 bt507.1 bt507.2))))))))
set_option maxHeartbeats 8000000 in
set_option maxRecDepth 100000 in
theorem laws_FnExactEncode.calls (k : Nat) (a0_0 : ByteArray) (A0_1 : Option Addr) (c0_1 : Nat) (l0_1 : List (S102)) (r : Bool) (w : World) (hr0_1 : Kd.C k102 w A0_1 l0_1.length l0_1) (hc0_1 : l0_1.length ≤ c0_1) (hG : GLW w) (hr_ : r = true) (h : laws_FnExactEncode.f k a0_0 l0_1 = some r) :
  Calls Tryd.prog 5 #[.agg #[.string a0_0, .slice A0_1 l0_1.length c0_1]] w fun e w' => e = .returned (.bool r) ∧ Below w.heap.size w w' := by
 have hu44 := Tryd.underlying44
 have hu49 := Tryd.underlying49
 have HR0_1 := Aside0.mk hr0_1
 have HC0_1 := Aside0.mk hc0_1
 clear hr0_1 hc0_1
 have HB := Aside0.mk (Below.refl w.heap.size w)
 have HG := Aside0.mk hG
 clear hG
 have H : ((laws_szMsg.f k a0_0 l0_1 1048576).bind fun t498 => (if t498 < 0 then (some true) else ((laws_toMsg.f k a0_0 l0_1).bind fun bt499 => ((spec_Encode.f k bt499.1 bt499.2).bind fun bt503 => ((laws_toMsg.f k a0_0 l0_1).bind fun bt507 => ((impl_Encode.f k bt507.1 bt507.2).bind fun bt512 => ((laws_eqByteS.f k bt512.1 bt503.1).bind fun t516 => (if t516 = true then (laws_FnExactEncode.j0 k bt503.1 bt503.2 bt512.1 bt512.2 (bt512.2 != bt503.2) a0_0 l0_1 bt507.1 bt507.2) else (laws_FnExactEncode.j0 k bt503.1 bt503.2 bt512.1 bt512.2 true a0_0 l0_1 bt507.1 bt507.2))))))))) = some r := h
 clear h
 replace H := Option.bind_eq_some_iff.mp H
 obtain ⟨t498, A20, H⟩ := H
 replace H : (if t498 < 0 then (some true) else ((laws_toMsg.f k a0_0 l0_1).bind fun bt499 => ((spec_Encode.f k bt499.1 bt499.2).bind fun bt503 => ((laws_toMsg.f k a0_0 l0_1).bind fun bt507 => ((impl_Encode.f k bt507.1 bt507.2).bind fun bt512 => ((laws_eqByteS.f k bt512.1 bt503.1).bind fun t516 => (if t516 = true then (laws_FnExactEncode.j0 k bt503.1 bt503.2 bt512.1 bt512.2 (bt512.2 != bt503.2) a0_0 l0_1 bt507.1 bt507.2) else (laws_FnExactEncode.j0 k bt503.1 bt503.2 bt512.1 bt512.2 true a0_0 l0_1 bt507.1 bt507.2)))))))) = some r := H
 have A2 := Aside0.mk A20
 clear A20
 by_cases c3 : t498 < 0
 ·rw [if_pos c3] at H
  have c3b0 : decide (t498 < 0) = true := decide_eq_true c3
  clear c3
  obtain rfl := Option.some.inj H
  go_enter Tryd.func5, Tryd.ntmps5
  go_wp2_with (first | ((with_reducible refine gate_dst (N := 1) rfl ?_); refine box_event ?hg (N := 1) ?hd (cs := #[.string a0_0, .slice A0_1 l0_1.length c0_1]) (t := 44) ?hr ?_; (case hd => rfl); (case hg => rfl); (case hr => first | (go_simp; done) | (go_simp; rfl)); intro gb497 hg w4 hbox hb; have n0_ := Aside0.mk (below_step bB hb); have n1_ := Aside0.mk (hbox); have n2_ := Aside0.mk ((by rw [hg]; exact (below_size bB) : w.heap.size ≤ gb497)); have n3_ := Aside0.mk ((by rw [hg]; exact (below_size bB) : w.heap.size ≤ gb497)); clear HB; have HB := n0_; have BK497 := n1_; have GW497 := n2_; have GE497 := n3_; clear n0_ n1_ n2_ n3_; clear hb hbox hg; have hcz5_0 : w4.cell? ⟨gb497, 0, none⟩ = some (.string a0_0) := (blk_cell BK497.out 0).trans rfl; have hcz5_1 : w4.cell? ⟨gb497, 1, none⟩ = some (.slice A0_1 l0_1.length c0_1) := (blk_cell BK497.out 1).trans rfl; have hfz5_0 := blk_frozen BK497.out 0; have hfz5_1 := blk_frozen BK497.out 1) | ((with_reducible refine gate_callee (f := 26) rfl ?_); refine goesM_ (some 16) rfl rfl Tryd.func26 (by kernel_rfl) rfl #[.agg #[.string a0_0, .slice A0_1 l0_1.length c0_1], .int .i64 1048576] rfl ?_; (with_reducible refine (laws_szMsg.calls k a0_0 _ _ l0_1 1048576 t498 _ ?side1 ?side2 A2.out).mono ?_); (case side1 => repeat (first | exact (Kd.C_below HR0_1.out HB.out) | (with_reducible refine Kd.C_alloc ?_ _) | (with_reducible refine Kd.C_drewN ?_ _) | (with_reducible refine Kd.C_drew ?_))); (case side2 => exact HC0_1.out); rintro e w6 ⟨rfl, hb⟩; refine ⟨_, rfl, ?_⟩; have n0_ := Aside0.mk (blk_below (g := gb497) (o := .cells #[.string a0_0, .slice A0_1 l0_1.length c0_1] 44 (0, 0)) (kA BK497.out) hb); have n1_ := Aside0.mk (below_step bG hb); clear BK497; clear HB; have BK497 := n0_; have HB := n1_; clear n0_ n1_; (try clear hb); (try clear hb2); (try clear hk); (try clear hi)))
  go_ret
  exact ⟨by first | rfl | (simp [errW_none, errW_some] <;> rfl) | (simp [*, errW_none, errW_some] <;> rfl), bG⟩
 ·rw [if_neg c3] at H
  have c3b0 : decide (t498 < 0) = false := decide_eq_false c3
  clear c3
  replace H := Option.bind_eq_some_iff.mp H
  obtain ⟨⟨t499, t500⟩, A70, H⟩ := H
  replace H : ((spec_Encode.f k t499 t500).bind fun bt503 => ((laws_toMsg.f k a0_0 l0_1).bind fun bt507 => ((impl_Encode.f k bt507.1 bt507.2).bind fun bt512 => ((laws_eqByteS.f k bt512.1 bt503.1).bind fun t516 => (if t516 = true then (laws_FnExactEncode.j0 k bt503.1 bt503.2 bt512.1 bt512.2 (bt512.2 != bt503.2) a0_0 l0_1 bt507.1 bt507.2) else (laws_FnExactEncode.j0 k bt503.1 bt503.2 bt512.1 bt512.2 true a0_0 l0_1 bt507.1 bt507.2)))))) = some r := H
  have A7 := Aside0.mk A70
  clear A70
  replace H := Option.bind_eq_some_iff.mp H
  obtain ⟨⟨t503, t506⟩, A80, H⟩ := H
  replace H : ((laws_toMsg.f k a0_0 l0_1).bind fun bt507 => ((impl_Encode.f k bt507.1 bt507.2).bind fun bt512 => ((laws_eqByteS.f k bt512.1 t503).bind fun t516 => (if t516 = true then (laws_FnExactEncode.j0 k t503 t506 bt512.1 bt512.2 (bt512.2 != t506) a0_0 l0_1 bt507.1 bt507.2) else (laws_FnExactEncode.j0 k t503 t506 bt512.1 bt512.2 true a0_0 l0_1 bt507.1 bt507.2))))) = some r := H
  have A8 := Aside0.mk A80
  clear A80
  replace H := Option.bind_eq_some_iff.mp H
  obtain ⟨⟨t507, t508⟩, A90, H⟩ := H
  replace H : ((impl_Encode.f k t507 t508).bind fun bt512 => ((laws_eqByteS.f k bt512.1 t503).bind fun t516 => (if t516 = true then (laws_FnExactEncode.j0 k t503 t506 bt512.1 bt512.2 (bt512.2 != t506) a0_0 l0_1 t507 t508) else (laws_FnExactEncode.j0 k t503 t506 bt512.1 bt512.2 true a0_0 l0_1 t507 t508)))) = some r := H
  have A9 := Aside0.mk A90
  clear A90
  replace H := Option.bind_eq_some_iff.mp H
  obtain ⟨⟨t512, t515⟩, A100, H⟩ := H
  replace H : ((laws_eqByteS.f k t512 t503).bind fun t516 => (if t516 = true then (laws_FnExactEncode.j0 k t503 t506 t512 t515 (t515 != t506) a0_0 l0_1 t507 t508) else (laws_FnExactEncode.j0 k t503 t506 t512 t515 true a0_0 l0_1 t507 t508))) = some r := H
  have A10 := Aside0.mk A100
  clear A100
  have HC11 := Aside0.mk H
  clear H
  go_enter Tryd.func5, Tryd.ntmps5
  go_upto_region 8 with (first | ((with_reducible refine gate_dst (N := 1) rfl ?_); refine box_event ?hg (N := 1) ?hd (cs := #[.string a0_0, .slice A0_1 l0_1.length c0_1]) (t := 44) ?hr ?_; (case hd => rfl); (case hg => rfl); (case hr => first | (go_simp; done) | (go_simp; rfl)); intro gb497 hg w12 hbox hb; have n0_ := Aside0.mk (below_step bB hb); have n1_ := Aside0.mk (hbox); have n2_ := Aside0.mk ((by rw [hg]; exact (below_size bB) : w.heap.size ≤ gb497)); have n3_ := Aside0.mk ((by rw [hg]; exact (below_size bB) : w.heap.size ≤ gb497)); clear HB; have HB := n0_; have BK497 := n1_; have GW497 := n2_; have GE497 := n3_; clear n0_ n1_ n2_ n3_; clear hb hbox hg; have hcz13_0 : w12.cell? ⟨gb497, 0, none⟩ = some (.string a0_0) := (blk_cell BK497.out 0).trans rfl; have hcz13_1 : w12.cell? ⟨gb497, 1, none⟩ = some (.slice A0_1 l0_1.length c0_1) := (blk_cell BK497.out 1).trans rfl; have hfz13_0 := blk_frozen BK497.out 0; have hfz13_1 := blk_frozen BK497.out 1) | ((with_reducible refine gate_callee (f := 26) rfl ?_); refine goesM_ (some 16) rfl rfl Tryd.func26 (by kernel_rfl) rfl #[.agg #[.string a0_0, .slice A0_1 l0_1.length c0_1], .int .i64 1048576] rfl ?_; (with_reducible refine (laws_szMsg.calls k a0_0 _ _ l0_1 1048576 t498 _ ?side1 ?side2 A2.out).mono ?_); (case side1 => repeat (first | exact (Kd.C_below HR0_1.out HB.out) | (with_reducible refine Kd.C_alloc ?_ _) | (with_reducible refine Kd.C_drewN ?_ _) | (with_reducible refine Kd.C_drew ?_))); (case side2 => exact HC0_1.out); rintro e w14 ⟨rfl, hb⟩; refine ⟨_, rfl, ?_⟩; have n0_ := Aside0.mk (blk_below (g := gb497) (o := .cells #[.string a0_0, .slice A0_1 l0_1.length c0_1] 44 (0, 0)) (kA BK497.out) hb); have n1_ := Aside0.mk (below_step bG hb); clear BK497; clear HB; have BK497 := n0_; have HB := n1_; clear n0_ n1_; (try clear hb); (try clear hb2); (try clear hk); (try clear hi); have hcz15_0 : w14.cell? ⟨gb497, 0, none⟩ = some (.string a0_0) := (blk_cell BK497.out 0).trans rfl; have hcz15_1 : w14.cell? ⟨gb497, 1, none⟩ = some (.slice A0_1 l0_1.length c0_1) := (blk_cell BK497.out 1).trans rfl; have hfz15_0 := blk_frozen BK497.out 0; have hfz15_1 := blk_frozen BK497.out 1) | ((with_reducible refine gate_callee (f := 28) rfl ?_); refine goesM_ (some 21) rfl rfl Tryd.func28 (by kernel_rfl) rfl #[.agg #[.string a0_0, .slice A0_1 l0_1.length c0_1]] rfl ?_; (with_reducible refine (laws_toMsg.calls k a0_0 _ _ l0_1 t499 t500 _ ?side1 ?side2 A7.out).mono ?_); (case side1 => repeat (first | exact (Kd.C_below HR0_1.out HB.out) | (with_reducible refine Kd.C_alloc ?_ _) | (with_reducible refine Kd.C_drewN ?_ _) | (with_reducible refine Kd.C_drew ?_))); (case side2 => exact HC0_1.out); rintro e w16 ⟨v501, rfl, ho0, hb⟩; refine ⟨_, rfl, ?_⟩; have n0_ := Aside0.mk (Kd.R_lower ho0 (below_size bG)); have n1_ := Aside0.mk (blk_below (g := gb497) (o := .cells #[.string a0_0, .slice A0_1 l0_1.length c0_1] 44 (0, 0)) (kA BK497.out) hb); have n2_ := Aside0.mk (below_step bG hb); clear BK497; clear HB; have HO502 := n0_; have BK497 := n1_; have HB := n2_; clear n0_ n1_ n2_; (try clear hb); (try clear hb2); (try clear hk); (try clear hi); (try clear ho0); obtain ⟨Ao17, co17, eo17⟩ := Kd.R_slice HO502.out; subst eo17) | ((with_reducible refine gate_callee (f := 27) rfl ?_); refine goesM_ (some 22) rfl rfl Tryd.func27 (by kernel_rfl) rfl #[.agg #[.string t499, .slice Ao17 t500.length co17]] rfl ?_; (with_reducible refine (spec_Encode.calls k t499 _ _ t500 t503 t506 _ ?side1 ?side2 A8.out).mono ?_); (case side1 => repeat (first | exact (Kd.R_reads' HO502.out).2.2 | (with_reducible refine Kd.C_alloc ?_ _) | (with_reducible refine Kd.C_drewN ?_ _) | (with_reducible refine Kd.C_drew ?_))); (case side2 => exact (Kd.R_reads' HO502.out).2.1); rintro e w18 ⟨v504, rfl, ho0, hb⟩; refine ⟨_, rfl, ?_⟩; have n0_ := Aside0.mk (Kd.R_below (rA HO502.out) hb); have n1_ := Aside0.mk (Kd.R_lower ho0 (below_size bG)); have n2_ := Aside0.mk (blk_below (g := gb497) (o := .cells #[.string a0_0, .slice A0_1 l0_1.length c0_1] 44 (0, 0)) (kA BK497.out) hb); have n3_ := Aside0.mk (below_step bG hb); clear HO502; clear BK497; clear HB; have HO502 := n0_; have HO505 := n1_; have BK497 := n2_; have HB := n3_; clear n0_ n1_ n2_ n3_; (try clear hb); (try clear hb2); (try clear hk); (try clear hi); (try clear ho0); have hcz19_0 : w18.cell? ⟨gb497, 0, none⟩ = some (.string a0_0) := (blk_cell BK497.out 0).trans rfl; have hcz19_1 : w18.cell? ⟨gb497, 1, none⟩ = some (.slice A0_1 l0_1.length c0_1) := (blk_cell BK497.out 1).trans rfl; have hfz19_0 := blk_frozen BK497.out 0; have hfz19_1 := blk_frozen BK497.out 1) | ((with_reducible refine gate_callee (f := 28) rfl ?_); refine goesM_ (some 26) rfl rfl Tryd.func28 (by kernel_rfl) rfl #[.agg #[.string a0_0, .slice A0_1 l0_1.length c0_1]] rfl ?_; (with_reducible refine (laws_toMsg.calls k a0_0 _ _ l0_1 t507 t508 _ ?side1 ?side2 A9.out).mono ?_); (case side1 => repeat (first | exact (Kd.C_below HR0_1.out HB.out) | (with_reducible refine Kd.C_alloc ?_ _) | (with_reducible refine Kd.C_drewN ?_ _) | (with_reducible refine Kd.C_drew ?_))); (case side2 => exact HC0_1.out); rintro e w20 ⟨v509, rfl, ho0, hb⟩; refine ⟨_, rfl, ?_⟩; have n0_ := Aside0.mk (Kd.R_elder' (rA HO502.out) (Kd.R_base ho0) hb); have n1_ := Aside0.mk (Kd.R_below (rA HO505.out) hb); have n2_ := Aside0.mk (Kd.R_lower (Kd.R_new' ho0 (Kd.R_lt (rA HO502.out))) (below_size bG)); have n3_ := Aside0.mk (blk_below (g := gb497) (o := .cells #[.string a0_0, .slice A0_1 l0_1.length c0_1] 44 (0, 0)) (kA BK497.out) hb); have n4_ := Aside0.mk (below_step bG hb); clear HO502; clear HO505; clear BK497; clear HB; have HO502 := n0_; have HO505 := n1_; have HO510 := n2_; have BK497 := n3_; have HB := n4_; clear n0_ n1_ n2_ n3_ n4_; (try clear hb); (try clear hb2); (try clear hk); (try clear hi); (try clear ho0)) | ((with_reducible refine gate_dst (N := 6) rfl ?_); refine box_event ?hg (N := 6) ?hd (cs := #[.string (⟨#[]⟩ : ByteArray), .slice none 0 0]) (t := 49) ?hr ?_; (case hd => rfl); (case hg => rfl); (case hr => first | (go_simp; done) | (go_simp; rfl)); intro gb511 hg w21 hbox hb; have n0_ := Aside0.mk (Kd.R_below (rA HO502.out) hb); have n1_ := Aside0.mk (Kd.R_below (rA HO505.out) hb); have n2_ := Aside0.mk (Kd.R_below (rA HO510.out) hb); have n3_ := Aside0.mk (blk_below (g := gb497) (o := .cells #[.string a0_0, .slice A0_1 l0_1.length c0_1] 44 (0, 0)) (kA BK497.out) hb); have n4_ := Aside0.mk (below_step bG hb); have n5_ := Aside0.mk (hbox); have n6_ := Aside0.mk ((by rw [hg]; exact (below_size bG) : w.heap.size ≤ gb511)); have n7_ := Aside0.mk ((by rw [hg]; exact (below_size bG) : w.heap.size ≤ gb511)); have n8_ := Aside0.mk ((by rw [hg]; exact Nat.ne_of_lt (blk_lt (g := gb497) (o := .cells #[.string a0_0, .slice A0_1 l0_1.length c0_1] 44 (0, 0)) (kA BK497.out)) : gb497 ≠ gb511)); have n9_ := Aside0.mk ((by rw [hg]; exact Nat.ne_of_gt (blk_lt (g := gb497) (o := .cells #[.string a0_0, .slice A0_1 l0_1.length c0_1] 44 (0, 0)) (kA BK497.out)) : gb511 ≠ gb497)); clear HO502; clear HO505; clear HO510; clear BK497; clear HB; have HO502 := n0_; have HO505 := n1_; have HO510 := n2_; have BK497 := n3_; have HB := n4_; have BK511 := n5_; have GW511 := n6_; have GE511 := n7_; have NB497_511 := n8_; have NB511_497 := n9_; clear n0_ n1_ n2_ n3_ n4_ n5_ n6_ n7_ n8_ n9_; clear hb hbox hg; have hnb22 := NB511_497.out; have hnc22 := NB497_511.out; have hcz23_0 : w21.cell? ⟨gb511, 0, none⟩ = some (.string (⟨#[]⟩ : ByteArray)) := (blk_cell BK511.out 0).trans rfl; have hcz23_1 : w21.cell? ⟨gb511, 1, none⟩ = some (.slice none 0 0) := (blk_cell BK511.out 1).trans rfl; have hfz23_0 := blk_frozen BK511.out 0; have hfz23_1 := blk_frozen BK511.out 1; obtain ⟨Ao24, co24, eo24⟩ := Kd.R_slice HO510.out; subst eo24) | ((with_reducible refine gate_callee (f := 29) rfl ?_); refine goesM_ (some 29) rfl rfl Tryd.func29 (by kernel_rfl) rfl #[.agg #[.string t507, .slice Ao24 t508.length co24]] rfl ?_; (with_reducible refine (impl_Encode.calls k t507 _ _ t508 t512 t515 _ ?side1 ?side2 ?side3 A10.out).mono ?_); (case side1 => refine (Kd.R_reads' (e := 79) (base := w.heap.size) (ok := fun k_ => (True ∧ some k_ ≠ (.slice Ao17 t500.length co17 : Value).ownBlock)) (n := t508.length) (c := co24) ?_).2.2; exact (by (with_reducible repeat (first | apply Kd.R_alloc | apply Kd.R_drewN | apply Kd.R_drew)); exact (Kd.R_mono (Kd.R_far (p := ⟨gb511, 1, none⟩) (Kd.R_far (p := ⟨gb511, 0, none⟩) (Kd.R_types HO510.out BK511.out (by decide)) (fun _ hk => hk.2) (.string t507)) (fun _ hk => hk.2) (.slice Ao24 t508.length co24)) (fun _ h_ => h_.1)))); (case side2 => exact (Kd.R_reads' HO510.out).2.1); (case side3 => exact GLW_below HG.out bG); rintro e w25 ⟨v513, rfl, ho0, hb⟩; refine ⟨_, rfl, ?_⟩; have n0_ := Aside0.mk (Kd.R_below (by (with_reducible repeat (first | apply Kd.R_alloc | apply Kd.R_drewN | apply Kd.R_drew)); exact (Kd.R_mono (Kd.R_far (p := ⟨gb511, 1, none⟩) (Kd.R_far (p := ⟨gb511, 0, none⟩) (Kd.R_types HO502.out BK511.out (by decide)) (fun _ hk => hk.2) (.string t507)) (fun _ hk => hk.2) (.slice Ao24 t508.length co24)) (fun _ h_ => h_.1))) hb); have n1_ := Aside0.mk (Kd.R_elder' (by (with_reducible repeat (first | apply Kd.R_alloc | apply Kd.R_drewN | apply Kd.R_drew)); exact (Kd.R_mono (Kd.R_far (p := ⟨gb511, 1, none⟩) (Kd.R_far (p := ⟨gb511, 0, none⟩) (Kd.R_types HO505.out BK511.out (by decide)) (fun _ hk => hk.2) (.string t507)) (fun _ hk => hk.2) (.slice Ao24 t508.length co24)) (fun _ h_ => h_.1))) (Kd.R_base ho0) hb); have n2_ := Aside0.mk (Kd.R_below (by (with_reducible repeat (first | apply Kd.R_alloc | apply Kd.R_drewN | apply Kd.R_drew)); exact (Kd.R_mono (Kd.R_far (p := ⟨gb511, 1, none⟩) (Kd.R_far (p := ⟨gb511, 0, none⟩) (Kd.R_types HO510.out BK511.out (by decide)) (fun _ hk => hk.2) (.string t507)) (fun _ hk => hk.2) (.slice Ao24 t508.length co24)) (fun _ h_ => h_.1))) hb); have n3_ := Aside0.mk (Kd.R_lower (Kd.R_new' ho0 (Kd.R_lt (by (with_reducible repeat (first | apply Kd.R_alloc | apply Kd.R_drewN | apply Kd.R_drew)); exact (Kd.R_mono (Kd.R_far (p := ⟨gb511, 1, none⟩) (Kd.R_far (p := ⟨gb511, 0, none⟩) (Kd.R_types HO505.out BK511.out (by decide)) (fun _ hk => hk.2) (.string t507)) (fun _ hk => hk.2) (.slice Ao24 t508.length co24)) (fun _ h_ => h_.1))))) (below_size bG)); have n4_ := Aside0.mk (blk_below (g := gb497) (o := .cells #[.string a0_0, .slice A0_1 l0_1.length c0_1] 44 (0, 0)) (by (with_reducible repeat (first | refine blk_drewN ?_ _ | refine blk_drew ?_ | refine blk_alloc ?_ _)); refine blk_far ?_ NB497_511.out _; (with_reducible repeat (first | refine blk_drewN ?_ _ | refine blk_drew ?_ | refine blk_alloc ?_ _)); refine blk_far ?_ NB497_511.out _; (with_reducible repeat (first | refine blk_drewN ?_ _ | refine blk_drew ?_ | refine blk_alloc ?_ _)); exact BK497.out) hb); have n5_ := Aside0.mk (blk_below (g := gb511) (o := .cells #[.string t507, .slice Ao24 t508.length co24] 49 (0, 0)) (by (with_reducible repeat (first | refine blk_drewN ?_ _ | refine blk_drew ?_ | refine blk_alloc ?_ _)); refine blk_put (cs := #[.string t507, .slice none 0 0]) ?_ 1 _ rfl; (with_reducible repeat (first | refine blk_drewN ?_ _ | refine blk_drew ?_ | refine blk_alloc ?_ _)); refine blk_put (cs := #[.string (⟨#[]⟩ : ByteArray), .slice none 0 0]) ?_ 0 _ rfl; (with_reducible repeat (first | refine blk_drewN ?_ _ | refine blk_drew ?_ | refine blk_alloc ?_ _)); exact BK511.out) hb); have n6_ := Aside0.mk (below_step bG hb); clear HO502; clear HO505; clear HO510; clear BK497; clear BK511; clear HB; have HO502 := n0_; have HO505 := n1_; have HO510 := n2_; have HO514 := n3_; have BK497 := n4_; have BK511 := n5_; have HB := n6_; clear n0_ n1_ n2_ n3_ n4_ n5_ n6_; (try clear hb); (try clear hb2); (try clear hk); (try clear hi); (try clear ho0)))
  (try simp only [Act.put, List.setIfInBounds_toArray, List.set_cons_zero, List.set_cons_succ])
  go_cut [40] (fun v40 wc => ∃ (kq : Nat) (x40_10 : Bool), v40 = .bool x40_10 ∧ Aside0 (laws_FnExactEncode.j0 kq t503 t506 t512 t515 x40_10 a0_0 l0_1 t507 t508 = some r) ∧ Aside0 (kq ≤ k) ∧ Aside0 (Kd.R (Kd.int .u8) 5 wc w.heap.size (fun k_ => some k_ ≠ (v513 : Value).ownBlock) v504 t503) ∧ Aside0 (Kd.R (Kd.int .u8) 5 wc w.heap.size (fun k_ => some k_ ≠ (v504 : Value).ownBlock) v513 t512) ∧ Aside0 (Kd.R k79 79 wc w.heap.size (fun _ => True) (.slice Ao24 t508.length co24) t508) ∧ Aside0 (wc.heap[gb497]? = some (.cells #[.string a0_0, (.slice A0_1 l0_1.length c0_1)] 44 (0, 0))) ∧ Aside0 (wc.heap[gb511]? = some (.cells #[.string t507, (.slice Ao24 t508.length co24)] 49 (0, 0))) ∧ Aside0 (Below w.heap.size w wc))
  case first =>
   have H := HC11.out
   clear HC11
   replace H := Option.bind_eq_some_iff.mp H
   obtain ⟨t516, A260, H⟩ := H
   replace H : (if t516 = true then (laws_FnExactEncode.j0 k t503 t506 t512 t515 (t515 != t506) a0_0 l0_1 t507 t508) else (laws_FnExactEncode.j0 k t503 t506 t512 t515 true a0_0 l0_1 t507 t508)) = some r := H
   have A26 := Aside0.mk A260
   clear A260
   by_cases c27 : t516 = true
   ·subst c27
    have H1 : (laws_FnExactEncode.j0 k t503 t506 t512 t515 (t515 != t506) a0_0 l0_1 t507 t508) = some r := by rw [if_pos rfl] at H; exact H
    clear H
    have H := H1
    clear H1
    have H' := Aside0.mk H
    clear H
    obtain ⟨Ao28, co28, eo28⟩ := Kd.R_slice HO514.out
    subst eo28
    obtain ⟨Ao29, co29, eo29⟩ := Kd.R_slice HO505.out
    subst eo29
    go_wp2_with (first | ((with_reducible refine gate_callee (f := 23) rfl ?_); refine goesM_ (some 34) rfl rfl Tryd.func23 (by kernel_rfl) rfl #[.slice Ao28 t512.length co28, .slice Ao29 t503.length co29] rfl ?_; (with_reducible refine (laws_eqByteS.calls k _ _ t512 _ _ t503 true _ ?side1 ?side2 ?side3 ?side4 A26.out).mono ?_); (case side1 => repeat (first | exact (Kd.R_reads' HO514.out).2.2 | (with_reducible refine Kd.C_alloc ?_ _) | (with_reducible refine Kd.C_drewN ?_ _) | (with_reducible refine Kd.C_drew ?_))); (case side2 => exact (Kd.R_reads' HO514.out).2.1); (case side3 => repeat (first | exact (Kd.R_reads' HO505.out).2.2 | (with_reducible refine Kd.C_alloc ?_ _) | (with_reducible refine Kd.C_drewN ?_ _) | (with_reducible refine Kd.C_drew ?_))); (case side4 => exact (Kd.R_reads' HO505.out).2.1); rintro e w' ⟨rfl, ⟨nd, rfl⟩⟩; refine ⟨_, rfl, ?_⟩))
    go_meet
    case rel => exact ⟨_, ((t515 != t506)), (by first | rfl | (simp; done) | (simp [*]; done) | (simp [i64_w, IntKind.wrap_u8, e256_]; done) | (simp; generalize ByteArray.toList _ = zz_; cases zz_ <;> rfl)), H', ⟨by first | omega | exact Nat.le_refl _⟩, ⟨by (with_reducible repeat (first | apply Kd.R_alloc | apply Kd.R_drewN | apply Kd.R_drew)); exact Kd.R_mono HO505.out (fun _ hk => hk.2)⟩, ⟨by (with_reducible repeat (first | apply Kd.R_alloc | apply Kd.R_drewN | apply Kd.R_drew)); exact Kd.R_mono HO514.out (fun _ hk => hk.2)⟩, ⟨by (with_reducible repeat (first | apply Kd.R_alloc | apply Kd.R_drewN | apply Kd.R_drew)); exact Kd.R_mono HO510.out (fun _ hk => trivial)⟩, ⟨kA BK497.out⟩, ⟨kA BK511.out⟩, ⟨bG⟩⟩
   ·replace c27 := Bool.eq_false_iff.mpr c27
    subst c27
    have H1 : (laws_FnExactEncode.j0 k t503 t506 t512 t515 true a0_0 l0_1 t507 t508) = some r := by rw [if_neg (show ¬ (false = true) by decide)] at H; exact H
    clear H
    have H := H1
    clear H1
    have H' := Aside0.mk H
    clear H
    obtain ⟨Ao30, co30, eo30⟩ := Kd.R_slice HO514.out
    subst eo30
    obtain ⟨Ao31, co31, eo31⟩ := Kd.R_slice HO505.out
    subst eo31
    go_wp2_with (first | ((with_reducible refine gate_callee (f := 23) rfl ?_); refine goesM_ (some 34) rfl rfl Tryd.func23 (by kernel_rfl) rfl #[.slice Ao30 t512.length co30, .slice Ao31 t503.length co31] rfl ?_; (with_reducible refine (laws_eqByteS.calls k _ _ t512 _ _ t503 false _ ?side1 ?side2 ?side3 ?side4 A26.out).mono ?_); (case side1 => repeat (first | exact (Kd.R_reads' HO514.out).2.2 | (with_reducible refine Kd.C_alloc ?_ _) | (with_reducible refine Kd.C_drewN ?_ _) | (with_reducible refine Kd.C_drew ?_))); (case side2 => exact (Kd.R_reads' HO514.out).2.1); (case side3 => repeat (first | exact (Kd.R_reads' HO505.out).2.2 | (with_reducible refine Kd.C_alloc ?_ _) | (with_reducible refine Kd.C_drewN ?_ _) | (with_reducible refine Kd.C_drew ?_))); (case side4 => exact (Kd.R_reads' HO505.out).2.1); rintro e w' ⟨rfl, ⟨nd, rfl⟩⟩; refine ⟨_, rfl, ?_⟩))
    go_meet
    case rel => exact ⟨_, (true), (by first | rfl | (simp; done) | (simp [*]; done) | (simp [i64_w, IntKind.wrap_u8, e256_]; done) | (simp; generalize ByteArray.toList _ = zz_; cases zz_ <;> rfl)), H', ⟨by first | omega | exact Nat.le_refl _⟩, ⟨by (with_reducible repeat (first | apply Kd.R_alloc | apply Kd.R_drewN | apply Kd.R_drew)); exact Kd.R_mono HO505.out (fun _ hk => hk.2)⟩, ⟨by (with_reducible repeat (first | apply Kd.R_alloc | apply Kd.R_drewN | apply Kd.R_drew)); exact Kd.R_mono HO514.out (fun _ hk => hk.2)⟩, ⟨by (with_reducible repeat (first | apply Kd.R_alloc | apply Kd.R_drewN | apply Kd.R_drew)); exact Kd.R_mono HO510.out (fun _ hk => trivial)⟩, ⟨kA BK497.out⟩, ⟨kA BK511.out⟩, ⟨bG⟩⟩
  case rest =>
   clear HC11
   try clear c2
   try clear p2
   try clear c3
   try clear c3b0
   try clear c5
   try clear p6
   try clear c22
   try clear c23
   try clear c26
   try clear c27
   try clear c28
   try clear c29
   try clear hcz13_0
   try clear hcz13_1
   try clear hcz15_0
   try clear hcz15_1
   try clear hcz19_0
   try clear hcz19_1
   try clear hcz23_0
   try clear hcz23_1
   try clear hcz5_0
   try clear hcz5_1
   try clear hfz13_0
   try clear hfz13_1
   try clear hfz15_0
   try clear hfz15_1
   try clear hfz19_0
   try clear hfz19_1
   try clear hfz23_0
   try clear hfz23_1
   try clear hfz5_0
   try clear hfz5_1
   obtain ⟨kq, x40_10, rfl, HA, HJ10, HO_4, HO_7, HO_512001, BK497, BK511, HB⟩ := hcut
   cases kq with
   | zero => exact absurd HA.out (by simp [laws_FnExactEncode.j0])
   | succ kj10 =>
    have H := HA.out
    clear HA
    simp only [laws_FnExactEncode.j0] at H
    by_cases c32 : x40_10 = true
    ·subst c32
     have H1 : (some false) = some r := by rw [if_pos rfl] at H; exact H
     clear H
     have H := H1
     clear H1
     obtain rfl := Option.some.inj H
     exact absurd hr_ (by simp)
    ·replace c32 := Bool.eq_false_iff.mpr c32
     subst c32
     have H1 : ((laws_toMsg.f kj10 a0_0 l0_1).bind fun bt517 => ((laws_eqMsg.f kj10 t507 t508 bt517.1 bt517.2).bind fun t521 => (if t521 = true then ((laws_markMsg.f kj10 t507 t508 1).bind fun bt522 => (if bt522.1 < 0 then (laws_FnExactEncode.j1 kj10 t503 t506 t512 true a0_0 l0_1) else ((laws_eqByteS.f kj10 t512 t503).bind fun t524 => (if t524 = true then (laws_FnExactEncode.j1 kj10 t503 t506 t512 (t515 != t506) a0_0 l0_1) else (laws_FnExactEncode.j1 kj10 t503 t506 t512 true a0_0 l0_1))))) else (some false)))) = some r := by rw [if_neg (show ¬ (false = true) by decide)] at H; exact H
     clear H
     have H := H1
     clear H1
     replace H := Option.bind_eq_some_iff.mp H
     obtain ⟨⟨t517, t518⟩, A330, H⟩ := H
     replace H : ((laws_eqMsg.f kj10 t507 t508 t517 t518).bind fun t521 => (if t521 = true then ((laws_markMsg.f kj10 t507 t508 1).bind fun bt522 => (if bt522.1 < 0 then (laws_FnExactEncode.j1 kj10 t503 t506 t512 true a0_0 l0_1) else ((laws_eqByteS.f kj10 t512 t503).bind fun t524 => (if t524 = true then (laws_FnExactEncode.j1 kj10 t503 t506 t512 (t515 != t506) a0_0 l0_1) else (laws_FnExactEncode.j1 kj10 t503 t506 t512 true a0_0 l0_1))))) else (some false))) = some r := H
     have A33 := Aside0.mk A330
     clear A330
     replace H := Option.bind_eq_some_iff.mp H
     obtain ⟨t521, A340, H⟩ := H
     replace H : (if t521 = true then ((laws_markMsg.f kj10 t507 t508 1).bind fun bt522 => (if bt522.1 < 0 then (laws_FnExactEncode.j1 kj10 t503 t506 t512 true a0_0 l0_1) else ((laws_eqByteS.f kj10 t512 t503).bind fun t524 => (if t524 = true then (laws_FnExactEncode.j1 kj10 t503 t506 t512 (t515 != t506) a0_0 l0_1) else (laws_FnExactEncode.j1 kj10 t503 t506 t512 true a0_0 l0_1))))) else (some false)) = some r := H
     have A34 := Aside0.mk A340
     clear A340
     by_cases c35 : t521 = true
     ·subst c35
      have H1 : ((laws_markMsg.f kj10 t507 t508 1).bind fun bt522 => (if bt522.1 < 0 then (laws_FnExactEncode.j1 kj10 t503 t506 t512 true a0_0 l0_1) else ((laws_eqByteS.f kj10 t512 t503).bind fun t524 => (if t524 = true then (laws_FnExactEncode.j1 kj10 t503 t506 t512 (t515 != t506) a0_0 l0_1) else (laws_FnExactEncode.j1 kj10 t503 t506 t512 true a0_0 l0_1))))) = some r := by rw [if_pos rfl] at H; exact H
      clear H
      have H := H1
      clear H1
      replace H := Option.bind_eq_some_iff.mp H
      obtain ⟨⟨t522, t523⟩, A360, H⟩ := H
      replace H : (if t522 < 0 then (laws_FnExactEncode.j1 kj10 t503 t506 t512 true a0_0 l0_1) else ((laws_eqByteS.f kj10 t512 t503).bind fun t524 => (if t524 = true then (laws_FnExactEncode.j1 kj10 t503 t506 t512 (t515 != t506) a0_0 l0_1) else (laws_FnExactEncode.j1 kj10 t503 t506 t512 true a0_0 l0_1)))) = some r := H
      have A36 := Aside0.mk A360
      clear A360
      have HC37 := Aside0.mk H
      clear H
      try go_wp2
      have n0_ := Aside0.mk (Kd.R_drew HO_4.out)
      have n1_ := Aside0.mk (Kd.R_drew HO_7.out)
      have n2_ := Aside0.mk (Kd.R_drew HO_512001.out)
      have n3_ := Aside0.mk (blk_drew BK497.out)
      have n4_ := Aside0.mk (blk_drew BK511.out)
      have n5_ := Aside0.mk (below_drew1 HB.out)
      clear HO_4
      clear HO_7
      clear HO_512001
      clear BK497
      clear BK511
      clear HB
      have HO_4 := n0_
      have HO_7 := n1_
      have HO_512001 := n2_
      have BK497 := n3_
      have BK511 := n4_
      have HB := n5_
      clear n0_ n1_ n2_ n3_ n4_ n5_
      refine start_ (n := 5) (S := fun w' => w'.cell? ⟨gb511, 0, none⟩ = some (.string t507) ∧ w'.cell? ⟨gb511, 1, none⟩ = some (.slice Ao24 t508.length co24) ∧ w'.cell? ⟨gb497, 0, none⟩ = some (.string a0_0) ∧ w'.cell? ⟨gb497, 1, none⟩ = some (.slice A0_1 l0_1.length c0_1)) (ds := []) #[false, false, false, false, false] (by kernel_rfl) rfl rfl ⟨(blk_cell BK511.out 0).trans rfl, (blk_cell BK511.out 1).trans rfl, (blk_cell BK497.out 0).trans rfl, (blk_cell BK497.out 1).trans rfl⟩ (fun hHeld => ?_)
      generalize wc.drew = w38 at HO_4 HO_7 HO_512001 BK497 BK511 HB hHeld ⊢
      refine take_ (i := 0) (N := some 41) (v := ?_) (a' := ?_) #[true, false, false, false, false] rfl rfl (by kernel_rfl) (fun _ _ _ h => h) (Or.inl ⟨by rfl, ?_⟩) hHeld ?_ ?_
      rotate_left
      ·rintro w' ⟨s0, s1, s2, s3⟩
       go_simp
       with_reducible rfl
      rotate_left
      ·simp only [Act.put, List.setIfInBounds_toArray, List.set_cons_zero, List.set_cons_succ, i64_w, i32_w]
       rfl
      refine take_ (i := 1) (N := some 42) (v := ?_) (a' := ?_) #[true, true, false, false, false] rfl rfl (by kernel_rfl) (fun _ _ _ h => h) (Or.inl ⟨by rfl, ?_⟩) hHeld ?_ ?_
      rotate_left
      ·rintro w' ⟨s0, s1, s2, s3⟩
       go_simp
       with_reducible rfl
      rotate_left
      ·simp only [Act.put, List.setIfInBounds_toArray, List.set_cons_zero, List.set_cons_succ, i64_w, i32_w]
       rfl
      refine one_ (i := 2) (N := some 43) #[true, true, true, false, false] rfl rfl (by kernel_rfl) (by decide) (fun K hK => ?_)
      refine goes_ Tryd.func28 (by kernel_rfl) rfl #[.agg #[.string a0_0, .slice A0_1 l0_1.length c0_1]] (by rfl) rfl rfl (by (try simp only [List.map_toArray, List.map_cons, List.map_nil]); first | done | rfl | (simp only [List.length_drop, List.length_take]; rfl)) ?_
      with_reducible refine (laws_toMsg.calls kj10 a0_0 _ _ l0_1 t517 t518 _ ?side1 ?side2 A33.out).mono ?_
      (case side1 => repeat (first | exact (Kd.C_below HR0_1.out HB.out) | (with_reducible refine Kd.C_alloc ?_ _) | (with_reducible refine Kd.C_drewN ?_ _) | (with_reducible refine Kd.C_drew ?_)))
      (case side2 => exact HC0_1.out)
      rintro e w39 ⟨v519, rfl, ho0, hb⟩
      refine ⟨_, rfl, ?_⟩
      have n0_ := Aside0.mk (Kd.R_below (rA HO_4.out) hb)
      have n1_ := Aside0.mk (Kd.R_below (rA HO_7.out) hb)
      have n2_ := Aside0.mk (Kd.R_elder' (rA HO_512001.out) (Kd.R_base ho0) hb)
      have n3_ := Aside0.mk (Kd.R_lower (Kd.R_new' ho0 (Kd.R_lt (rA HO_512001.out))) (below_size bG))
      have n4_ := Aside0.mk (blk_below (g := gb497) (o := .cells #[.string a0_0, .slice A0_1 l0_1.length c0_1] 44 (0, 0)) (kA BK497.out) hb)
      have n5_ := Aside0.mk (blk_below (g := gb511) (o := .cells #[.string t507, .slice Ao24 t508.length co24] 49 (0, 0)) (kA BK511.out) hb)
      have n6_ := Aside0.mk (below_step bG hb)
      clear HO_4
      clear HO_7
      clear HO_512001
      clear BK497
      clear BK511
      clear HB
      have HO_4 := n0_
      have HO_7 := n1_
      have HO_512001 := n2_
      have HO520 := n3_
      have BK497 := n4_
      have BK511 := n5_
      have HB := n6_
      clear n0_ n1_ n2_ n3_ n4_ n5_ n6_
      (try clear hb)
      (try clear hb2)
      (try clear hk)
      (try clear hi)
      (try clear ho0)
      obtain ⟨Ao40, co40, eo40⟩ := Kd.R_slice HO520.out
      (first | subst eo40 | (injection eo40 with f1_ f2_ f3_; have f4_ := f1_.symm; have f5_ := f3_.symm; clear f1_ f2_ f3_; subst f4_; subst f5_))
      refine hK.out _ _ ⟨(blk_cell BK511.out 0).trans rfl, (blk_cell BK511.out 1).trans rfl, (blk_cell BK497.out 0).trans rfl, (blk_cell BK497.out 1).trans rfl⟩ (fun hHeld => ?_)
      clear hK K
      refine norm_ (a' := ?_) ?_ ?_
      rotate_left
      ·show Act.put _ (some 43) _ = _
       simp only [Act.put, List.setIfInBounds_toArray, List.set_cons_zero, List.set_cons_succ, i64_w, i32_w]
       rfl
      refine one_ (i := 3) (N := some 44) #[true, true, true, true, false] rfl rfl (by kernel_rfl) (by decide) (fun K hK => ?_)
      refine goes_ Tryd.func30 (by kernel_rfl) rfl #[.agg #[.string t507, .slice Ao24 t508.length co24], .agg #[.string t517, .slice Ao40 t518.length co40]] (by rfl) rfl rfl (by (try simp only [List.map_toArray, List.map_cons, List.map_nil]); first | done | rfl | (simp only [List.length_drop, List.length_take]; rfl)) ?_
      with_reducible refine (laws_eqMsg.calls kj10 t507 _ _ t508 t517 _ _ t518 true _ ?side1 ?side2 ?side3 ?side4 A34.out).mono ?_
      (case side1 => repeat (first | exact (Kd.R_reads' HO_512001.out).2.2 | (with_reducible refine Kd.C_alloc ?_ _) | (with_reducible refine Kd.C_drewN ?_ _) | (with_reducible refine Kd.C_drew ?_)))
      (case side2 => exact (Kd.R_reads' HO_512001.out).2.1)
      (case side3 => repeat (first | exact (Kd.R_reads' HO520.out).2.2 | (with_reducible refine Kd.C_alloc ?_ _) | (with_reducible refine Kd.C_drewN ?_ _) | (with_reducible refine Kd.C_drew ?_)))
      (case side4 => exact (Kd.R_reads' HO520.out).2.1)
      rintro e w41 ⟨rfl, hb⟩
      refine ⟨_, rfl, ?_⟩
      have n0_ := Aside0.mk (Kd.R_below (rA HO_4.out) hb)
      have n1_ := Aside0.mk (Kd.R_below (rA HO_7.out) hb)
      have n2_ := Aside0.mk (Kd.R_below (rA HO_512001.out) hb)
      have n3_ := Aside0.mk (Kd.R_below (rA HO520.out) hb)
      have n4_ := Aside0.mk (blk_below (g := gb497) (o := .cells #[.string a0_0, .slice A0_1 l0_1.length c0_1] 44 (0, 0)) (kA BK497.out) hb)
      have n5_ := Aside0.mk (blk_below (g := gb511) (o := .cells #[.string t507, .slice Ao24 t508.length co24] 49 (0, 0)) (kA BK511.out) hb)
      have n6_ := Aside0.mk (below_step bG hb)
      clear HO_4
      clear HO_7
      clear HO_512001
      clear HO520
      clear BK497
      clear BK511
      clear HB
      have HO_4 := n0_
      have HO_7 := n1_
      have HO_512001 := n2_
      have HO520 := n3_
      have BK497 := n4_
      have BK511 := n5_
      have HB := n6_
      clear n0_ n1_ n2_ n3_ n4_ n5_ n6_
      (try clear hb)
      (try clear hb2)
      (try clear hk)
      (try clear hi)
      refine hK.out _ _ ⟨(blk_cell BK511.out 0).trans rfl, (blk_cell BK511.out 1).trans rfl, (blk_cell BK497.out 0).trans rfl, (blk_cell BK497.out 1).trans rfl⟩ (fun hHeld => ?_)
      clear hK K
      refine norm_ (a' := ?_) ?_ ?_
      rotate_left
      ·show Act.put _ (some 44) _ = _
       simp only [Act.put, List.setIfInBounds_toArray, List.set_cons_zero, List.set_cons_succ, i64_w, i32_w]
       rfl
      refine pure_ (i := 4) (N := some 45) (v := ?_) (a' := ?_) #[true, true, true, true, true] rfl rfl (by kernel_rfl) (fun _ _ _ h => h) (Or.inl ⟨by rfl, ?_⟩) ?_ ?_
      rotate_left
      ·intro w'
       go_simp
       with_reducible rfl
      rotate_left
      ·simp only [Act.put, List.setIfInBounds_toArray, List.set_cons_zero, List.set_cons_succ, i64_w, i32_w]
       rfl
      refine done_ (by kernel_rfl) ?_
      have hnb42 := NB511_497.out
      have hnc42 := NB497_511.out
      have hcz43_0 : w41.cell? ⟨gb511, 0, none⟩ = some (.string t507) := (blk_cell BK511.out 0).trans rfl
      have hcz43_1 : w41.cell? ⟨gb511, 1, none⟩ = some (.slice Ao24 t508.length co24) := (blk_cell BK511.out 1).trans rfl
      have hfz43_0 := blk_frozen BK511.out 0
      have hfz43_1 := blk_frozen BK511.out 1
      go_upto_region 14 with (first | ((with_reducible refine gate_callee (f := 31) rfl ?_); refine goesM_ (some 48) rfl rfl Tryd.func31 (by kernel_rfl) rfl #[.agg #[.string t507, .slice Ao24 t508.length co24], .int .i64 1] rfl ?_; (with_reducible refine (laws_markMsg.calls kj10 t507 (fun k_ => some k_ = (.slice Ao24 t508.length co24 : Value).ownBlock) (.slice Ao24 t508.length co24) t508 1 t522 t523 w _ ?side1 ?side2 A36.out).mono ?_); (case side1 => repeat (first | (with_reducible first | exact HB.out | apply below_alloc | apply pw_below_drewN | apply below_drew1 | refine below_set ?_ GE497.out | refine below_set ?_ GE511.out) | exact HB.out)); (case side2 => exact Kd.R_tight rfl HO_512001.out); rintro e w44 ⟨rfl, hy0, hb, hkp⟩; refine ⟨_, rfl, ?_⟩; have n0_ := Aside0.mk (Kd.R_mono (ok' := fun k_ => some k_ ≠ (v513 : Value).ownBlock) (Kd.R_keptB ((Kd.R_apart' HO_4.out (Kd.R_typed HO_512001.out) (by decide))) hkp (fun k_ hk_ hs_ => (hk_.2) hs_)) (fun k_ hk_ => hk_.1.1)); have n1_ := Aside0.mk (Kd.R_mono (ok' := fun k_ => some k_ ≠ (v504 : Value).ownBlock) (Kd.R_keptB ((Kd.R_apart' HO_7.out (Kd.R_typed HO_512001.out) (by decide))) hkp (fun k_ hk_ hs_ => (hk_.2) hs_)) (fun k_ hk_ => hk_.1.1)); have n2_ := Aside0.mk (Kd.R_reok rfl hy0 (fun k_ e_ => HO_512001.out.1 k_ e_)); have n3_ := Aside0.mk (blk_kept (kA BK497.out) hkp (fun hs_ => (fun e_ => (Kd.R_ne HO_512001.out BK497.out (by decide)) e_) hs_)); have n4_ := Aside0.mk (blk_kept (kA BK511.out) hkp (fun hs_ => (fun e_ => (Kd.R_ne HO_512001.out BK511.out (by decide)) e_) hs_)); have n5_ := Aside0.mk (Kd.R_mono (ok' := fun k_ => some k_ ≠ (.slice Ao24 t508.length co24 : Value).ownBlock) (Kd.R_keptB (HO520.out) hkp (fun k_ hk_ hs_ => (hk_.2) hs_)) (fun k_ hk_ => hk_.1.2)); have n6_ := Aside0.mk (hb); clear HO_4; clear HO_7; clear HO_512001; clear BK497; clear BK511; clear HO520; clear HB; have HO_4 := n0_; have HO_7 := n1_; have HO_512001 := n2_; have BK497 := n3_; have BK511 := n4_; have HO520 := n5_; have HB := n6_; clear n0_ n1_ n2_ n3_ n4_ n5_ n6_; (try clear hb); (try clear hkp); (try clear hy0)))
      (try simp only [Act.put, List.setIfInBounds_toArray, List.set_cons_zero, List.set_cons_succ])
      go_cut [61] (fun v61 wc => ∃ (kq : Nat) (x61_36 : Bool), v61 = .bool x61_36 ∧ Aside0 (laws_FnExactEncode.j1 kq t503 t506 t512 x61_36 a0_0 l0_1 = some r) ∧ Aside0 (kq ≤ kj10) ∧ Aside0 (Kd.R (Kd.int .u8) 5 wc w.heap.size (fun k_ => some k_ ≠ (v513 : Value).ownBlock) v504 t503) ∧ Aside0 (Kd.R (Kd.int .u8) 5 wc w.heap.size (fun k_ => some k_ ≠ (v504 : Value).ownBlock) v513 t512) ∧ Aside0 (Kd.R k79 79 wc w.heap.size (fun _ => True) (.slice Ao24 t508.length co24) t523) ∧ Aside0 (wc.heap[gb497]? = some (.cells #[.string a0_0, (.slice A0_1 l0_1.length c0_1)] 44 (0, 0))) ∧ Aside0 (wc.heap[gb511]? = some (.cells #[.string t507, (.slice Ao24 t508.length co24)] 49 (0, 0))) ∧ Aside0 (Below w.heap.size w wc))
      case first =>
       have H := HC37.out
       clear HC37
       by_cases c45 : t522 < 0
       ·rw [if_pos c45] at H
        have c45b0 : decide (t522 < 0) = true := decide_eq_true c45
        clear c45
        (first | rw [c45b0] | (simp only [i64_w, i32_w]; rw [c45b0]) | rw [c45b1] | (simp only [c45b1]) | skip)
        have H' := Aside0.mk H
        clear H
        go_wp2
        go_meet
        case rel => exact ⟨_, (true), (by first | rfl | (simp; done) | (simp [*]; done) | (simp [i64_w, IntKind.wrap_u8, e256_]; done) | (simp; generalize ByteArray.toList _ = zz_; cases zz_ <;> rfl)), H', ⟨by have := HJ10.out; first | omega | exact Nat.le_refl _⟩, ⟨rA HO_4.out⟩, ⟨rA HO_7.out⟩, ⟨by (with_reducible repeat (first | apply Kd.R_alloc | apply Kd.R_drewN | apply Kd.R_drew)); exact Kd.R_mono HO_512001.out (fun _ hk => trivial)⟩, ⟨kA BK497.out⟩, ⟨kA BK511.out⟩, ⟨bG⟩⟩
       ·rw [if_neg c45] at H
        have c45b0 : decide (t522 < 0) = false := decide_eq_false c45
        clear c45
        (first | rw [c45b0] | (simp only [i64_w, i32_w]; rw [c45b0]) | rw [c45b1] | (simp only [c45b1]) | skip)
        replace H := Option.bind_eq_some_iff.mp H
        obtain ⟨t524, A460, H⟩ := H
        replace H : (if t524 = true then (laws_FnExactEncode.j1 kj10 t503 t506 t512 (t515 != t506) a0_0 l0_1) else (laws_FnExactEncode.j1 kj10 t503 t506 t512 true a0_0 l0_1)) = some r := H
        have A46 := Aside0.mk A460
        clear A460
        by_cases c47 : t524 = true
        ·subst c47
         have H1 : (laws_FnExactEncode.j1 kj10 t503 t506 t512 (t515 != t506) a0_0 l0_1) = some r := by rw [if_pos rfl] at H; exact H
         clear H
         have H := H1
         clear H1
         have H' := Aside0.mk H
         clear H
         obtain ⟨Ao48, co48, eo48⟩ := Kd.R_slice HO_7.out
         subst eo48
         obtain ⟨Ao49, co49, eo49⟩ := Kd.R_slice HO_4.out
         subst eo49
         go_wp2_with (first | (go_at_call 23; (with_reducible refine (laws_eqByteS.calls kj10 _ _ t512 _ _ t503 true _ ?side1 ?side2 ?side3 ?side4 A46.out).mono ?_); (case side1 => repeat (first | exact (Kd.R_reads' HO_7.out).2.2 | (with_reducible refine Kd.C_alloc ?_ _) | (with_reducible refine Kd.C_drewN ?_ _) | (with_reducible refine Kd.C_drew ?_))); (case side2 => exact (Kd.R_reads' HO_7.out).2.1); (case side3 => repeat (first | exact (Kd.R_reads' HO_4.out).2.2 | (with_reducible refine Kd.C_alloc ?_ _) | (with_reducible refine Kd.C_drewN ?_ _) | (with_reducible refine Kd.C_drew ?_))); (case side4 => exact (Kd.R_reads' HO_4.out).2.1); rintro e w' ⟨rfl, ⟨nd, rfl⟩⟩))
         go_meet
         case rel => exact ⟨_, ((t515 != t506)), (by first | rfl | (simp; done) | (simp [*]; done) | (simp [i64_w, IntKind.wrap_u8, e256_]; done) | (simp; generalize ByteArray.toList _ = zz_; cases zz_ <;> rfl)), H', ⟨by have := HJ10.out; first | omega | exact Nat.le_refl _⟩, ⟨rA HO_4.out⟩, ⟨rA HO_7.out⟩, ⟨by (with_reducible repeat (first | apply Kd.R_alloc | apply Kd.R_drewN | apply Kd.R_drew)); exact Kd.R_mono HO_512001.out (fun _ hk => trivial)⟩, ⟨kA BK497.out⟩, ⟨kA BK511.out⟩, ⟨bG⟩⟩
        ·replace c47 := Bool.eq_false_iff.mpr c47
         subst c47
         have H1 : (laws_FnExactEncode.j1 kj10 t503 t506 t512 true a0_0 l0_1) = some r := by rw [if_neg (show ¬ (false = true) by decide)] at H; exact H
         clear H
         have H := H1
         clear H1
         have H' := Aside0.mk H
         clear H
         obtain ⟨Ao50, co50, eo50⟩ := Kd.R_slice HO_7.out
         subst eo50
         obtain ⟨Ao51, co51, eo51⟩ := Kd.R_slice HO_4.out
         subst eo51
         go_wp2_with (first | (go_at_call 23; (with_reducible refine (laws_eqByteS.calls kj10 _ _ t512 _ _ t503 false _ ?side1 ?side2 ?side3 ?side4 A46.out).mono ?_); (case side1 => repeat (first | exact (Kd.R_reads' HO_7.out).2.2 | (with_reducible refine Kd.C_alloc ?_ _) | (with_reducible refine Kd.C_drewN ?_ _) | (with_reducible refine Kd.C_drew ?_))); (case side2 => exact (Kd.R_reads' HO_7.out).2.1); (case side3 => repeat (first | exact (Kd.R_reads' HO_4.out).2.2 | (with_reducible refine Kd.C_alloc ?_ _) | (with_reducible refine Kd.C_drewN ?_ _) | (with_reducible refine Kd.C_drew ?_))); (case side4 => exact (Kd.R_reads' HO_4.out).2.1); rintro e w' ⟨rfl, ⟨nd, rfl⟩⟩))
         go_meet
         case rel => exact ⟨_, (true), (by first | rfl | (simp; done) | (simp [*]; done) | (simp [i64_w, IntKind.wrap_u8, e256_]; done) | (simp; generalize ByteArray.toList _ = zz_; cases zz_ <;> rfl)), H', ⟨by have := HJ10.out; first | omega | exact Nat.le_refl _⟩, ⟨rA HO_4.out⟩, ⟨rA HO_7.out⟩, ⟨by (with_reducible repeat (first | apply Kd.R_alloc | apply Kd.R_drewN | apply Kd.R_drew)); exact Kd.R_mono HO_512001.out (fun _ hk => trivial)⟩, ⟨kA BK497.out⟩, ⟨kA BK511.out⟩, ⟨bG⟩⟩
      case rest =>
       clear HC37
       try clear c2
       try clear p2
       try clear c3
       try clear c3b0
       try clear c4
       try clear c5
       try clear p6
       try clear c22
       try clear c23
       try clear c26
       try clear c27
       try clear c28
       try clear c29
       try clear c30
       try clear c31
       try clear c32
       try clear c35
       try clear c42
       try clear c45
       try clear c45b0
       try clear c45b1
       try clear c47
       try clear hcz13_0
       try clear hcz13_1
       try clear hcz15_0
       try clear hcz15_1
       try clear hcz19_0
       try clear hcz19_1
       try clear hcz23_0
       try clear hcz23_1
       try clear hcz43_0
       try clear hcz43_1
       try clear hcz5_0
       try clear hcz5_1
       try clear hfz13_0
       try clear hfz13_1
       try clear hfz15_0
       try clear hfz15_1
       try clear hfz19_0
       try clear hfz19_1
       try clear hfz23_0
       try clear hfz23_1
       try clear hfz43_0
       try clear hfz43_1
       try clear hfz5_0
       try clear hfz5_1
       try clear p2
       try clear p6
       obtain ⟨kq, x61_36, rfl, HA, HJ36, HO_4, HO_7, HO_512001, BK497, BK511, HB⟩ := hcut
       have hl512001_36 := (Kd.R_reads' HO_512001.out).1
       rw [hl512001_36] at HO_512001
       (try simp only [hl512001_36])
       (try simp only [hl512001_36] at BK497)
       (try simp only [hl512001_36] at BK511)
       (try simp only [hl512001_36] at HO_4)
       (try simp only [hl512001_36] at HO_7)
       cases kq with
       | zero => exact absurd HA.out (by simp [laws_FnExactEncode.j1])
       | succ kj36 =>
        have H := HA.out
        clear HA
        simp only [laws_FnExactEncode.j1] at H
        by_cases c52 : x61_36 = true
        ·subst c52
         have H1 : (some false) = some r := by rw [if_pos rfl] at H; exact H
         clear H
         have H := H1
         clear H1
         obtain rfl := Option.some.inj H
         exact absurd hr_ (by simp)
        ·replace c52 := Bool.eq_false_iff.mpr c52
         subst c52
         have H1 : ((laws_markByteS.f kj36 t512 1).bind fun bt525 => ((laws_heldByteS.f kj36 bt525.2 1).bind fun t527 => (if t527 < 0 then (some false) else (if t527 = bt525.1 then ((laws_toMsg.f kj36 a0_0 l0_1).bind fun bt528 => ((impl_Encode.f kj36 bt528.1 bt528.2).bind fun bt532 => ((laws_eqByteS.f kj36 bt532.1 t503).bind fun t536 => (if t536 = true then (laws_FnExactEncode.j2 kj36 bt525.2 bt525.1 (bt532.2 != t506)) else (laws_FnExactEncode.j2 kj36 bt525.2 bt525.1 true))))) else (some false))))) = some r := by rw [if_neg (show ¬ (false = true) by decide)] at H; exact H
         clear H
         have H := H1
         clear H1
         replace H := Option.bind_eq_some_iff.mp H
         obtain ⟨⟨t525, t526⟩, A530, H⟩ := H
         replace H : ((laws_heldByteS.f kj36 t526 1).bind fun t527 => (if t527 < 0 then (some false) else (if t527 = t525 then ((laws_toMsg.f kj36 a0_0 l0_1).bind fun bt528 => ((impl_Encode.f kj36 bt528.1 bt528.2).bind fun bt532 => ((laws_eqByteS.f kj36 bt532.1 t503).bind fun t536 => (if t536 = true then (laws_FnExactEncode.j2 kj36 t526 t525 (bt532.2 != t506)) else (laws_FnExactEncode.j2 kj36 t526 t525 true))))) else (some false)))) = some r := H
         have A53 := Aside0.mk A530
         clear A530
         replace H := Option.bind_eq_some_iff.mp H
         obtain ⟨t527, A540, H⟩ := H
         replace H : (if t527 < 0 then (some false) else (if t527 = t525 then ((laws_toMsg.f kj36 a0_0 l0_1).bind fun bt528 => ((impl_Encode.f kj36 bt528.1 bt528.2).bind fun bt532 => ((laws_eqByteS.f kj36 bt532.1 t503).bind fun t536 => (if t536 = true then (laws_FnExactEncode.j2 kj36 t526 t525 (bt532.2 != t506)) else (laws_FnExactEncode.j2 kj36 t526 t525 true))))) else (some false))) = some r := H
         have A54 := Aside0.mk A540
         clear A540
         by_cases c55 : t527 < 0
         ·rw [if_pos c55] at H
          have c55b0 : decide (t527 < 0) = true := decide_eq_true c55
          clear c55
          obtain rfl := Option.some.inj H
          exact absurd hr_ (by simp)
         ·rw [if_neg c55] at H
          have c55b0 : decide (t527 < 0) = false := decide_eq_false c55
          clear c55
          by_cases c56 : t527 = t525
          ·rw [if_pos c56] at H
           have c56b0 : (t527 == t525) = true := beq_iff_eq.mpr c56
           have c56b1 : (t527 != t525) = false := bne_eq_false_iff_eq.mpr c56
           clear c56
           replace H := Option.bind_eq_some_iff.mp H
           obtain ⟨⟨t528, t529⟩, A570, H⟩ := H
           replace H : ((impl_Encode.f kj36 t528 t529).bind fun bt532 => ((laws_eqByteS.f kj36 bt532.1 t503).bind fun t536 => (if t536 = true then (laws_FnExactEncode.j2 kj36 t526 t525 (bt532.2 != t506)) else (laws_FnExactEncode.j2 kj36 t526 t525 true)))) = some r := H
           have A57 := Aside0.mk A570
           clear A570
           replace H := Option.bind_eq_some_iff.mp H
           obtain ⟨⟨t532, t535⟩, A580, H⟩ := H
           replace H : ((laws_eqByteS.f kj36 t532 t503).bind fun t536 => (if t536 = true then (laws_FnExactEncode.j2 kj36 t526 t525 (t535 != t506)) else (laws_FnExactEncode.j2 kj36 t526 t525 true))) = some r := H
           have A58 := Aside0.mk A580
           clear A580
           have HC59 := Aside0.mk H
           clear H
           obtain ⟨Ao60, co60, eo60⟩ := Kd.R_slice HO_7.out
           subst eo60
           go_upto_region 25 with (first | ((with_reducible refine gate_callee (f := 24) rfl ?_); refine goesM_ (some 64) rfl rfl Tryd.func24 (by kernel_rfl) rfl #[.slice Ao60 t512.length co60, .int .i64 1] rfl ?_; (with_reducible refine (laws_markByteS.calls kj36 (fun k_ => some k_ = (.slice Ao60 t512.length co60 : Value).ownBlock) (.slice Ao60 t512.length co60) t512 1 t525 t526 w _ ?side1 ?side2 A53.out).mono ?_); (case side1 => repeat (first | (with_reducible first | exact HB.out | apply below_alloc | apply pw_below_drewN | apply below_drew1 | refine below_set ?_ GE497.out | refine below_set ?_ GE511.out) | exact HB.out)); (case side2 => exact Kd.R_tight rfl HO_7.out); rintro e w61 ⟨rfl, hy0, hb, hkp⟩; refine ⟨_, rfl, ?_⟩; have n0_ := Aside0.mk (Kd.R_mono (ok' := fun k_ => some k_ ≠ (.slice Ao60 t512.length co60 : Value).ownBlock) (Kd.R_keptB (HO_4.out) hkp (fun k_ hk_ hs_ => (hk_) hs_)) (fun k_ hk_ => hk_.1)); have n1_ := Aside0.mk (Kd.R_reok rfl hy0 (fun k_ e_ => HO_7.out.1 k_ e_)); have n2_ := Aside0.mk (Kd.R_mono (ok' := fun k_ => True) (Kd.R_keptB ((Kd.R_apart' HO_512001.out (Kd.R_typed HO_7.out) (by decide))) hkp (fun k_ hk_ hs_ => (hk_.2) hs_)) (fun k_ hk_ => trivial)); have n3_ := Aside0.mk (blk_kept (kA BK497.out) hkp (fun hs_ => (fun e_ => (Kd.R_ne HO_7.out BK497.out (by decide)) e_) hs_)); have n4_ := Aside0.mk (blk_kept (kA BK511.out) hkp (fun hs_ => (fun e_ => (Kd.R_ne HO_7.out BK511.out (by decide)) e_) hs_)); have n5_ := Aside0.mk (hb); clear HO_4; clear HO_7; clear HO_512001; clear BK497; clear BK511; clear HB; have HO_4 := n0_; have HO_7 := n1_; have HO_512001 := n2_; have BK497 := n3_; have BK511 := n4_; have HB := n5_; clear n0_ n1_ n2_ n3_ n4_ n5_; (try clear hb); (try clear hkp); (try clear hy0)) | ((with_reducible refine gate_callee (f := 25) rfl ?_); refine goesL_ (some 67) rfl rfl Tryd.func25 (by kernel_rfl) rfl #[.slice Ao60 t526.length co60, .int .i64 1] rfl (by (try simp only [List.map_toArray, List.map_cons, List.map_nil]); first | done | (rw [show t526.length = t512.length from (Kd.R_reads' HO_7.out).1.symm] <;> rfl) | rfl | (simp only [List.length_drop, List.length_take]; rfl)) ?_; (with_reducible refine (laws_heldByteS.calls kj36 _ _ t526 1 t527 _ ?side1 ?side2 A54.out).mono ?_); (case side1 => repeat (first | exact (Kd.R_reads' HO_7.out).2.2 | (with_reducible refine Kd.C_alloc ?_ _) | (with_reducible refine Kd.C_drewN ?_ _) | (with_reducible refine Kd.C_drew ?_))); (case side2 => rw [show t526.length = t512.length from (Kd.R_reads' HO_7.out).1.symm]; exact (Kd.R_reads' HO_7.out).2.1); rintro e w' ⟨rfl, ⟨nd, rfl⟩⟩; refine ⟨_, rfl, ?_⟩; have hnb62 := NB497_511.out; have hnc62 := NB511_497.out; have hcz63_0 : w61.cell? ⟨gb497, 0, none⟩ = some (.string a0_0) := (blk_cell BK497.out 0).trans rfl; have hcz63_1 : w61.cell? ⟨gb497, 1, none⟩ = some (.slice A0_1 l0_1.length c0_1) := (blk_cell BK497.out 1).trans rfl; have hfz63_0 := blk_frozen BK497.out 0; have hfz63_1 := blk_frozen BK497.out 1) | ((with_reducible refine gate_callee (f := 28) rfl ?_); refine goesM_ (some 75) rfl rfl Tryd.func28 (by kernel_rfl) rfl #[.agg #[.string a0_0, .slice A0_1 l0_1.length c0_1]] rfl ?_; (with_reducible refine (laws_toMsg.calls kj36 a0_0 _ _ l0_1 t528 t529 _ ?side1 ?side2 A57.out).mono ?_); (case side1 => repeat (first | exact (Kd.C_below HR0_1.out bG) | (with_reducible refine Kd.C_alloc ?_ _) | (with_reducible refine Kd.C_drewN ?_ _) | (with_reducible refine Kd.C_drew ?_))); (case side2 => exact HC0_1.out); rintro e w64 ⟨v530, rfl, ho0, hb⟩; refine ⟨_, rfl, ?_⟩; have n0_ := Aside0.mk (Kd.R_below (rA HO_4.out) hb); have n1_ := Aside0.mk (Kd.R_below (rA HO_7.out) hb); have n2_ := Aside0.mk (Kd.R_elder' (rA HO_512001.out) (Kd.R_base ho0) hb); have n3_ := Aside0.mk (Kd.R_lower (Kd.R_new' ho0 (Kd.R_lt (rA HO_512001.out))) (below_size bG)); have n4_ := Aside0.mk (blk_below (g := gb497) (o := .cells #[.string a0_0, .slice A0_1 l0_1.length c0_1] 44 (0, 0)) (kA BK497.out) hb); have n5_ := Aside0.mk (blk_below (g := gb511) (o := .cells #[.string t507, .slice Ao24 t523.length co24] 49 (0, 0)) (kA BK511.out) hb); have n6_ := Aside0.mk (below_step bG hb); clear HO_4; clear HO_7; clear HO_512001; clear BK497; clear BK511; clear HB; have HO_4 := n0_; have HO_7 := n1_; have HO_512001 := n2_; have HO531 := n3_; have BK497 := n4_; have BK511 := n5_; have HB := n6_; clear n0_ n1_ n2_ n3_ n4_ n5_ n6_; (try clear hb); (try clear hb2); (try clear hk); (try clear hi); (try clear ho0); obtain ⟨Ao65, co65, eo65⟩ := Kd.R_slice HO531.out; subst eo65) | ((with_reducible refine gate_callee (f := 29) rfl ?_); refine goesM_ (some 76) rfl rfl Tryd.func29 (by kernel_rfl) rfl #[.agg #[.string t528, .slice Ao65 t529.length co65]] rfl ?_; (with_reducible refine (impl_Encode.calls kj36 t528 _ _ t529 t532 t535 _ ?side1 ?side2 ?side3 A58.out).mono ?_); (case side1 => repeat (first | exact (Kd.R_reads' HO531.out).2.2 | (with_reducible refine Kd.C_alloc ?_ _) | (with_reducible refine Kd.C_drewN ?_ _) | (with_reducible refine Kd.C_drew ?_))); (case side2 => exact (Kd.R_reads' HO531.out).2.1); (case side3 => exact GLW_below HG.out bG); rintro e w66 ⟨v533, rfl, ho0, hb⟩; refine ⟨_, rfl, ?_⟩; have n0_ := Aside0.mk (Kd.R_elder' (rA HO_4.out) (Kd.R_base ho0) hb); have n1_ := Aside0.mk (Kd.R_elder' (rA HO_7.out) (Kd.R_base ho0) hb); have n2_ := Aside0.mk (Kd.R_below (rA HO_512001.out) hb); have n3_ := Aside0.mk (Kd.R_below (rA HO531.out) hb); have n4_ := Aside0.mk (Kd.R_lower (Kd.R_new' (Kd.R_new' ho0 (Kd.R_lt (rA HO_4.out))) (Kd.R_lt (rA HO_7.out))) (below_size bG)); have n5_ := Aside0.mk (blk_below (g := gb497) (o := .cells #[.string a0_0, .slice A0_1 l0_1.length c0_1] 44 (0, 0)) (kA BK497.out) hb); have n6_ := Aside0.mk (blk_below (g := gb511) (o := .cells #[.string t507, .slice Ao24 t523.length co24] 49 (0, 0)) (kA BK511.out) hb); have n7_ := Aside0.mk (below_step bG hb); clear HO_4; clear HO_7; clear HO_512001; clear HO531; clear BK497; clear BK511; clear HB; have HO_4 := n0_; have HO_7 := n1_; have HO_512001 := n2_; have HO531 := n3_; have HO534 := n4_; have BK497 := n5_; have BK511 := n6_; have HB := n7_; clear n0_ n1_ n2_ n3_ n4_ n5_ n6_ n7_; (try clear hb); (try clear hb2); (try clear hk); (try clear hi); (try clear ho0)))
           (try simp only [Act.put, List.setIfInBounds_toArray, List.set_cons_zero, List.set_cons_succ])
           go_cut [87] (fun v87 wc => ∃ (kq : Nat) (x87_58 : Bool), v87 = .bool x87_58 ∧ Aside0 (laws_FnExactEncode.j2 kq t526 t525 x87_58 = some r) ∧ Aside0 (kq ≤ kj36) ∧ Aside0 (Kd.R (Kd.int .u8) 5 wc w.heap.size (fun _ => True) (.slice Ao60 t512.length co60) t526) ∧ Aside0 (Kd.R k79 79 wc w.heap.size (fun _ => True) (.slice Ao24 t523.length co24) t523) ∧ Aside0 (wc.heap[gb497]? = some (.cells #[.string a0_0, (.slice A0_1 l0_1.length c0_1)] 44 (0, 0))) ∧ Aside0 (wc.heap[gb511]? = some (.cells #[.string t507, (.slice Ao24 t523.length co24)] 49 (0, 0))) ∧ Aside0 (Below w.heap.size w wc))
           case first =>
            have H := HC59.out
            clear HC59
            replace H := Option.bind_eq_some_iff.mp H
            obtain ⟨t536, A670, H⟩ := H
            replace H : (if t536 = true then (laws_FnExactEncode.j2 kj36 t526 t525 (t535 != t506)) else (laws_FnExactEncode.j2 kj36 t526 t525 true)) = some r := H
            have A67 := Aside0.mk A670
            clear A670
            by_cases c68 : t536 = true
            ·subst c68
             have H1 : (laws_FnExactEncode.j2 kj36 t526 t525 (t535 != t506)) = some r := by rw [if_pos rfl] at H; exact H
             clear H
             have H := H1
             clear H1
             have H' := Aside0.mk H
             clear H
             obtain ⟨Ao69, co69, eo69⟩ := Kd.R_slice HO534.out
             subst eo69
             obtain ⟨Ao70, co70, eo70⟩ := Kd.R_slice HO_4.out
             subst eo70
             go_wp2_with (first | ((with_reducible refine gate_callee (f := 23) rfl ?_); refine goesM_ (some 81) rfl rfl Tryd.func23 (by kernel_rfl) rfl #[.slice Ao69 t532.length co69, .slice Ao70 t503.length co70] rfl ?_; (with_reducible refine (laws_eqByteS.calls kj36 _ _ t532 _ _ t503 true _ ?side1 ?side2 ?side3 ?side4 A67.out).mono ?_); (case side1 => repeat (first | exact (Kd.R_reads' HO534.out).2.2 | (with_reducible refine Kd.C_alloc ?_ _) | (with_reducible refine Kd.C_drewN ?_ _) | (with_reducible refine Kd.C_drew ?_))); (case side2 => exact (Kd.R_reads' HO534.out).2.1); (case side3 => repeat (first | exact (Kd.R_reads' HO_4.out).2.2 | (with_reducible refine Kd.C_alloc ?_ _) | (with_reducible refine Kd.C_drewN ?_ _) | (with_reducible refine Kd.C_drew ?_))); (case side4 => exact (Kd.R_reads' HO_4.out).2.1); rintro e w' ⟨rfl, ⟨nd, rfl⟩⟩; refine ⟨_, rfl, ?_⟩))
             go_meet
             case rel => exact ⟨_, ((t535 != t506)), (by first | rfl | (simp; done) | (simp [*]; done) | (simp [i64_w, IntKind.wrap_u8, e256_]; done) | (simp; generalize ByteArray.toList _ = zz_; cases zz_ <;> rfl)), H', ⟨by have := HJ10.out; have := HJ36.out; first | omega | exact Nat.le_refl _⟩, ⟨by (try simp only [hl512001_36]); (with_reducible repeat (first | apply Kd.R_alloc | apply Kd.R_drewN | apply Kd.R_drew)); exact Kd.R_mono HO_7.out (fun _ hk => trivial)⟩, ⟨by (try simp only [hl512001_36]); (with_reducible repeat (first | apply Kd.R_alloc | apply Kd.R_drewN | apply Kd.R_drew)); exact Kd.R_mono HO_512001.out (fun _ hk => trivial)⟩, ⟨by (try simp only [hl512001_36]); (with_reducible repeat (first | refine blk_drewN ?_ _ | refine blk_drew ?_ | refine blk_alloc ?_ _)); exact BK497.out⟩, ⟨by (try simp only [hl512001_36]); (with_reducible repeat (first | refine blk_drewN ?_ _ | refine blk_drew ?_ | refine blk_alloc ?_ _)); exact BK511.out⟩, ⟨bG⟩⟩
            ·replace c68 := Bool.eq_false_iff.mpr c68
             subst c68
             have H1 : (laws_FnExactEncode.j2 kj36 t526 t525 true) = some r := by rw [if_neg (show ¬ (false = true) by decide)] at H; exact H
             clear H
             have H := H1
             clear H1
             have H' := Aside0.mk H
             clear H
             obtain ⟨Ao71, co71, eo71⟩ := Kd.R_slice HO534.out
             subst eo71
             obtain ⟨Ao72, co72, eo72⟩ := Kd.R_slice HO_4.out
             subst eo72
             go_wp2_with (first | ((with_reducible refine gate_callee (f := 23) rfl ?_); refine goesM_ (some 81) rfl rfl Tryd.func23 (by kernel_rfl) rfl #[.slice Ao71 t532.length co71, .slice Ao72 t503.length co72] rfl ?_; (with_reducible refine (laws_eqByteS.calls kj36 _ _ t532 _ _ t503 false _ ?side1 ?side2 ?side3 ?side4 A67.out).mono ?_); (case side1 => repeat (first | exact (Kd.R_reads' HO534.out).2.2 | (with_reducible refine Kd.C_alloc ?_ _) | (with_reducible refine Kd.C_drewN ?_ _) | (with_reducible refine Kd.C_drew ?_))); (case side2 => exact (Kd.R_reads' HO534.out).2.1); (case side3 => repeat (first | exact (Kd.R_reads' HO_4.out).2.2 | (with_reducible refine Kd.C_alloc ?_ _) | (with_reducible refine Kd.C_drewN ?_ _) | (with_reducible refine Kd.C_drew ?_))); (case side4 => exact (Kd.R_reads' HO_4.out).2.1); rintro e w' ⟨rfl, ⟨nd, rfl⟩⟩; refine ⟨_, rfl, ?_⟩))
             go_meet
             case rel => exact ⟨_, (true), (by first | rfl | (simp; done) | (simp [*]; done) | (simp [i64_w, IntKind.wrap_u8, e256_]; done) | (simp; generalize ByteArray.toList _ = zz_; cases zz_ <;> rfl)), H', ⟨by have := HJ10.out; have := HJ36.out; first | omega | exact Nat.le_refl _⟩, ⟨by (try simp only [hl512001_36]); (with_reducible repeat (first | apply Kd.R_alloc | apply Kd.R_drewN | apply Kd.R_drew)); exact Kd.R_mono HO_7.out (fun _ hk => trivial)⟩, ⟨by (try simp only [hl512001_36]); (with_reducible repeat (first | apply Kd.R_alloc | apply Kd.R_drewN | apply Kd.R_drew)); exact Kd.R_mono HO_512001.out (fun _ hk => trivial)⟩, ⟨by (try simp only [hl512001_36]); (with_reducible repeat (first | refine blk_drewN ?_ _ | refine blk_drew ?_ | refine blk_alloc ?_ _)); exact BK497.out⟩, ⟨by (try simp only [hl512001_36]); (with_reducible repeat (first | refine blk_drewN ?_ _ | refine blk_drew ?_ | refine blk_alloc ?_ _)); exact BK511.out⟩, ⟨bG⟩⟩
           case rest =>
            clear HC59
            try clear c2
            try clear p2
            try clear c3
            try clear c3b0
            try clear c4
            try clear c5
            try clear c6
            try clear p6
            try clear c22
            try clear c23
            try clear c24
            try clear c25
            try clear c26
            try clear c27
            try clear c28
            try clear c29
            try clear c30
            try clear c31
            try clear c32
            try clear c35
            try clear c42
            try clear c45
            try clear c45b0
            try clear c45b1
            try clear c47
            try clear c52
            try clear c55
            try clear c55b0
            try clear c56
            try clear c56b0
            try clear c56b1
            try clear c62
            try clear p64
            try clear c68
            try clear hcz13_0
            try clear hcz13_1
            try clear hcz15_0
            try clear hcz15_1
            try clear hcz19_0
            try clear hcz19_1
            try clear hcz23_0
            try clear hcz23_1
            try clear hcz43_0
            try clear hcz43_1
            try clear hcz5_0
            try clear hcz5_1
            try clear hcz63_0
            try clear hcz63_1
            try clear hfz13_0
            try clear hfz13_1
            try clear hfz15_0
            try clear hfz15_1
            try clear hfz19_0
            try clear hfz19_1
            try clear hfz23_0
            try clear hfz23_1
            try clear hfz43_0
            try clear hfz43_1
            try clear hfz5_0
            try clear hfz5_1
            try clear hfz63_0
            try clear hfz63_1
            try clear p2
            try clear p6
            obtain ⟨kq, x87_58, rfl, HA, HJ58, HO_7, HO_512001, BK497, BK511, HB⟩ := hcut
            have hl7_58 := (Kd.R_reads' HO_7.out).1
            rw [hl7_58] at HO_7
            (try simp only [hl7_58])
            (try simp only [hl7_58] at BK497)
            (try simp only [hl7_58] at BK511)
            (try simp only [hl7_58] at HO_512001)
            cases kq with
            | zero => exact absurd HA.out (by simp [laws_FnExactEncode.j2])
            | succ kj58 =>
             have H := HA.out
             clear HA
             simp only [laws_FnExactEncode.j2] at H
             by_cases c73 : x87_58 = true
             ·subst c73
              have H1 : (some false) = some r := by rw [if_pos rfl] at H; exact H
              clear H
              have H := H1
              clear H1
              obtain rfl := Option.some.inj H
              exact absurd hr_ (by simp)
             ·replace c73 := Bool.eq_false_iff.mpr c73
              subst c73
              have H1 : ((laws_heldByteS.f kj58 t526 1).bind fun t537 => (if t537 < 0 then (some false) else (if t537 = t525 then (some true) else (some false)))) = some r := by rw [if_neg (show ¬ (false = true) by decide)] at H; exact H
              clear H
              have H := H1
              clear H1
              replace H := Option.bind_eq_some_iff.mp H
              obtain ⟨t537, A740, H⟩ := H
              replace H : (if t537 < 0 then (some false) else (if t537 = t525 then (some true) else (some false))) = some r := H
              have A74 := Aside0.mk A740
              clear A740
              by_cases c75 : t537 < 0
              ·rw [if_pos c75] at H
               have c75b0 : decide (t537 < 0) = true := decide_eq_true c75
               clear c75
               obtain rfl := Option.some.inj H
               exact absurd hr_ (by simp)
              ·rw [if_neg c75] at H
               have c75b0 : decide (t537 < 0) = false := decide_eq_false c75
               clear c75
               by_cases c76 : t537 = t525
               ·rw [if_pos c76] at H
                have c76b0 : (t537 == t525) = true := beq_iff_eq.mpr c76
                have c76b1 : (t537 != t525) = false := bne_eq_false_iff_eq.mpr c76
                clear c76
                obtain rfl := Option.some.inj H
                go_wp2_with (first | ((with_reducible refine gate_callee (f := 25) rfl ?_); refine goesM_ (some 90) rfl rfl Tryd.func25 (by kernel_rfl) rfl #[.slice Ao60 t526.length co60, .int .i64 1] rfl ?_; (with_reducible refine (laws_heldByteS.calls kj58 _ _ t526 1 t537 _ ?side1 ?side2 A74.out).mono ?_); (case side1 => repeat (first | exact (Kd.R_reads' HO_7.out).2.2 | (with_reducible refine Kd.C_alloc ?_ _) | (with_reducible refine Kd.C_drewN ?_ _) | (with_reducible refine Kd.C_drew ?_))); (case side2 => exact (Kd.R_reads' HO_7.out).2.1); rintro e w' ⟨rfl, ⟨nd, rfl⟩⟩; refine ⟨_, rfl, ?_⟩))
                go_ret
                exact ⟨by first | rfl | (simp [errW_none, errW_some] <;> rfl) | (simp [*, errW_none, errW_some] <;> rfl), bG⟩
               ·rw [if_neg c76] at H
                have c76b0 : (t537 == t525) = false := beq_eq_false_iff_ne.mpr c76
                have c76b1 : (t537 != t525) = true := bne_iff_ne.mpr c76
                obtain rfl := Option.some.inj H
                exact absurd hr_ (by simp)
          ·rw [if_neg c56] at H
           have c56b0 : (t527 == t525) = false := beq_eq_false_iff_ne.mpr c56
           have c56b1 : (t527 != t525) = true := bne_iff_ne.mpr c56
           obtain rfl := Option.some.inj H
           exact absurd hr_ (by simp)
     ·replace c35 := Bool.eq_false_iff.mpr c35
      subst c35
      have H1 : (some false) = some r := by rw [if_neg (show ¬ (false = true) by decide)] at H; exact H
      clear H
      have H := H1
      clear H1
      obtain rfl := Option.some.inj H
      exact absurd hr_ (by simp)
end Go.Proofs.YtfiieppnpmodoaaDoor.Q
end
section
namespace Go.Proofs.YtfiieppnpmodoaaDoor.Q
open Go.RowKit Go.Proofs.YtfiieppnpmodoaaDoorW.PrintWords Go.Proofs.YtfiieppnpmodoaaDoorW.PrintLast Go.Proofs.YtfiieppnpmodoaaDoorW.PrintMore
set_option linter.unusedVariables false
set_option linter.unusedSimpArgs false
abbrev LF := S102
abbrev IF := S79
theorem rdL_nat (l : List LF) (n : Nat) (h : n < l.length) : rd_T102 l (n : Int) = l[n] := by
  unfold rd_T102
  simp [List.getD, h]
theorem rdF_nat (l : List IF) (n : Nat) (h : n < l.length) : rd_T79 l (n : Int) = l[n] := by
  unfold rd_T79
  simp [List.getD, h]
theorem dropL (l : List LF) (n : Nat) (h : n < l.length) : l.drop n = rd_T102 l (n : Int) :: l.drop (n + 1) := by
  rw [List.drop_eq_getElem_cons h, rdL_nat l n h]
theorem dropF (l : List IF) (n : Nat) (h : n < l.length) : l.drop n = rd_T79 l (n : Int) :: l.drop (n + 1) := by
  rw [List.drop_eq_getElem_cons h, rdF_nat l n h]
theorem rdF_mem (l : List IF) (n : Nat) (h : n < l.length) : rd_T79 l (n : Int) ∈ l := by
  rw [rdF_nat l n h]
  exact List.getElem_mem h
theorem rdL_mem (l : List LF) (n : Nat) (h : n < l.length) : rd_T102 l (n : Int) ∈ l := by
  rw [rdL_nat l n h]
  exact List.getElem_mem h
theorem rdF_set_same (y : List IF) (n : Nat) (v : IF) (h : n < y.length) : rd_T79 (y.set n v) (n : Int) = v := by
  rw [rdF_nat _ _ (by simpa using h)]
  simp
theorem rdF_set_other (y : List IF) (n j : Nat) (v : IF) (h : j ≠ n) : rd_T79 (y.set n v) (j : Int) = rd_T79 y (j : Int) := by
  unfold rd_T79
  simp [List.getD, List.getElem?_set, Ne.symm h]
theorem intNat (n : Nat) : ((n : Int) : Int).toNat = n := by simp
theorem w64s {n : Nat} (h : n ≤ 140737488351232) : wrap64 ((n : Int) + 1) = ((n + 1 : Nat) : Int) := by unfold wrap64; omega
theorem szFieldS_l (l : List LF) (hl : l.length ≤ 10000000) (hw : ∀ f ∈ l, f.f1.size ≤ 9223372036854775807) : ∀ (d n k : Nat) (a : Int), n + d = l.length → 0 ≤ a → a ≤ 1048576 → d < k →
    ∃ r, laws_szFieldS.l0 k l a (n : Int) = some r ∧ (r < 0 ∨ (0 ≤ r ∧ r ≤ a ∧ ∀ f ∈ l.drop n, (f.f1.size : Int) ≤ a)) := by
  intro d
  induction d with
  | zero =>
    intro n k a hd h0 h1 hk
    obtain ⟨k, rfl⟩ : ∃ m, k = m + 1 := ⟨k - 1, by omega⟩
    have c1 : ¬ (n : Int) < (l.length : Int) := by omega
    simp only [laws_szFieldS.l0, if_neg c1]
    refine ⟨a, rfl, Or.inr ⟨h0, Int.le_refl _, ?_⟩⟩
    rw [List.drop_of_length_le (by omega)]
    intro f hf
    simp at hf
  | succ d ih =>
    intro n k a hd h0 h1 hk
    obtain ⟨k, rfl⟩ : ∃ m, k = m + 1 := ⟨k - 1, by omega⟩
    have c1 : (n : Int) < (l.length : Int) := by omega
    have c2 : 0 ≤ (n : Int) := by omega
    have hs := hw _ (rdL_mem l n (by omega))
    rw [dropL l n (by omega)]
    simp only [laws_szFieldS.l0, if_pos c1, if_pos c2]
    unfold laws_szField.f
    generalize rd_T102 l (n : Int) = f at hs
    have e : wrap64 (a - (f.f1.size : Int)) = a - (f.f1.size : Int) := w64id (by omega) (by omega)
    rw [e]
    by_cases h : a - (f.f1.size : Int) < 0
    · rw [if_pos h]
      exact ⟨-1, rfl, Or.inl (by omega)⟩
    · rw [if_neg h, Option.bind_some, if_neg h, w64s (by omega)]
      obtain ⟨r, hr, hq⟩ := ih (n + 1) k (a - (f.f1.size : Int)) (by omega) (by omega) (by omega) (by omega)
      refine ⟨r, hr, ?_⟩
      rcases hq with hq | ⟨q1, q2, q3⟩
      · exact Or.inl hq
      · refine Or.inr ⟨q1, by omega, fun g hg => ?_⟩
        rcases List.mem_cons.1 hg with rfl | hg
        · omega
        · have := q3 g hg
          omega
theorem szMsg_at (m : ByteArray) (l : List LF) (hm : m.size ≤ 9223372036854775807) (hl : l.length ≤ 9223372036854775807) (hw : ∀ f ∈ l, f.f1.size ≤ 9223372036854775807) (a : Int) (h0 : 0 ≤ a) (h1 : a ≤ 1048576) :
    ∃ r, (∀ k, l.length < k → laws_szMsg.f k m l a = some r) ∧ (r < 0 ∨ (0 ≤ r ∧ r ≤ a ∧ m.size ≤ 1048576 ∧ l.length ≤ 1048576 ∧ ∀ f ∈ l, f.f1.size ≤ 1048576)) := by
  have e : wrap64 (a - (m.size : Int)) = a - (m.size : Int) := w64id (by omega) (by omega)
  by_cases h : a - (m.size : Int) < 0
  · refine ⟨-1, fun k _ => ?_, Or.inl (by omega)⟩
    unfold laws_szMsg.f
    rw [e, if_pos h]
  have e2 : wrap64 (a - (m.size : Int) - (l.length : Int)) = a - (m.size : Int) - (l.length : Int) := w64id (by omega) (by omega)
  by_cases h2 : a - (m.size : Int) - (l.length : Int) < 0
  · refine ⟨-1, fun k _ => ?_, Or.inl (by omega)⟩
    unfold laws_szMsg.f laws_szFieldS.f
    rw [e, if_neg h, e2, if_pos h2, Option.bind_some, if_pos (by omega)]
  have hl2 : l.length ≤ 1048576 := by omega
  have hm2 : m.size ≤ 1048576 := by omega
  clear e e2
  obtain ⟨r, hr, hq⟩ := szFieldS_l l (by omega) hw l.length 0 (l.length + 1) (a - (m.size : Int) - (l.length : Int)) (by omega) (by omega) (by omega) (by omega)
  have e : wrap64 (a - (m.size : Int)) = a - (m.size : Int) := w64id (by omega) (by omega)
  have e2 : wrap64 (a - (m.size : Int) - (l.length : Int)) = a - (m.size : Int) - (l.length : Int) := w64id (by omega) (by omega)
  have hz : laws_szFieldS.f (l.length + 1) l (a - (m.size : Int)) = some r := by
    unfold laws_szFieldS.f
    rw [e2, if_neg h2]
    exact hr
  refine ⟨if r < 0 then -1 else r, fun k hk => ?_, ?_⟩
  · unfold laws_szMsg.f
    rw [e, if_neg h, later (g := fun k => laws_szFieldS.f k l (a - (m.size : Int))) (fun k => laws_szFieldS.mono l _ k) hz k (by omega), Option.bind_some]
    by_cases q : r < 0
    · rw [if_pos q, if_pos q]
    · rw [if_neg q, if_neg q]
  · clear e e2
    rcases hq with hq | ⟨q1, q2, q3⟩
    · rw [if_pos hq]; exact Or.inl (by omega)
    · rw [if_neg (by omega)]
      refine Or.inr ⟨q1, by omega, hm2, hl2, fun f hf => ?_⟩
      have := q3 f (by simpa using hf)
      omega
def conv (f : LF) : IF := ⟨f.f0, f.f1⟩
theorem toFieldS_l (l : List LF) (hl : l.length ≤ 10000000) : ∀ (d n k : Nat) (y : List IF), n + d = l.length → y.length = l.length → y.take n = (l.map conv).take n → d < k →
    laws_toFieldS.l0 k l y (n : Int) = some (l.map conv) := by
  intro d
  induction d with
  | zero =>
    intro n k y hd hy ht hk
    obtain ⟨k, rfl⟩ : ∃ m, k = m + 1 := ⟨k - 1, by omega⟩
    have c1 : ¬ (n : Int) < (l.length : Int) := by omega
    simp only [laws_toFieldS.l0, if_neg c1]
    rw [List.take_of_length_le (by omega), List.take_of_length_le (by simp; omega)] at ht
    rw [ht]
  | succ d ih =>
    intro n k y hd hy ht hk
    obtain ⟨k, rfl⟩ : ∃ m, k = m + 1 := ⟨k - 1, by omega⟩
    have c1 : (n : Int) < (l.length : Int) := by omega
    have c2 : 0 ≤ (n : Int) := by omega
    have c3 : (n : Int) < (y.length : Int) := by omega
    simp only [laws_toFieldS.l0, if_pos c1, if_pos c2, if_pos c3, w64s (n := n) (by omega), intNat, laws_toField.f, Option.bind_some]
    refine ih (n + 1) k _ (by omega) (by simpa using hy) ?_ (by omega)
    rw [List.take_succ_eq_append_getElem (by simpa [hy] using by omega), List.take_succ_eq_append_getElem (by simpa using by omega), rdL_nat l n (by omega)]
    simp [List.take_set_of_le, ht, conv]
theorem toMsg_at (m : ByteArray) (l : List LF) (hl : l.length ≤ 10000000) (k : Nat) (hk : l.length < k) : laws_toMsg.f k m l = some (m, l.map conv) := by
  unfold laws_toMsg.f laws_toFieldS.f
  have h : laws_toFieldS.l0 k l (List.replicate ((l.length : Int) : Int).toNat z79) 0 = some (l.map conv) := toFieldS_l l hl l.length 0 k _ (by omega) (by simp) (by simp) hk
  rw [if_pos (by omega), if_pos (by omega), h]
  rfl
theorem eqFieldS_l (l : List IF) (hl : l.length ≤ 10000000) : ∀ (d n k : Nat), n + d = l.length → d < k → laws_eqFieldS.l0 k l l (n : Int) = some true := by
  intro d
  induction d with
  | zero =>
    intro n k hd hk
    obtain ⟨k, rfl⟩ : ∃ m, k = m + 1 := ⟨k - 1, by omega⟩
    have c1 : ¬ (n : Int) < (l.length : Int) := by omega
    simp only [laws_eqFieldS.l0, if_neg c1]
  | succ d ih =>
    intro n k hd hk
    obtain ⟨k, rfl⟩ : ∃ m, k = m + 1 := ⟨k - 1, by omega⟩
    have c1 : (n : Int) < (l.length : Int) := by omega
    have c2 : 0 ≤ (n : Int) := by omega
    simp only [laws_eqFieldS.l0, if_pos c1, if_pos c2, w64s (n := n) (by omega), laws_eqField.f, if_true, Option.bind_some]
    exact ih (n + 1) k (by omega) (by omega)
theorem eqMsg_self (m : ByteArray) (l : List IF) (hl : l.length ≤ 10000000) (k : Nat) (hk : l.length < k) : laws_eqMsg.f k m l m l = some true := by
  unfold laws_eqMsg.f laws_eqFieldS.f
  have h : laws_eqFieldS.l0 k l l 0 = some true := eqFieldS_l l hl l.length 0 k (by omega) hk
  rw [if_pos rfl, if_pos rfl, h]
  rfl
theorem markText_l : ∀ (d k : Nat) (a : Int) (x : ByteArray), 0 ≤ a → a ≤ 1000000000 → a < 10 ^ d → x.size + d ≤ 1000 → d < k → ∃ t, laws_markText.l0 k a x = some t := by
  intro d
  induction d with
  | zero =>
    intro k a x h0 hg h1 hx hk
    obtain ⟨k, rfl⟩ : ∃ m, k = m + 1 := ⟨k - 1, by omega⟩
    have c1 : ¬ a > 0 := by simp at h1; omega
    have c2 : 1 + x.size ≤ 9223372036854775807 := by omega
    simp only [laws_markText.l0, if_neg c1, if_pos c2]
    exact ⟨_, rfl⟩
  | succ d ih =>
    intro k a x h0 hg h1 hx hk
    obtain ⟨k, rfl⟩ : ∃ m, k = m + 1 := ⟨k - 1, by omega⟩
    simp only [laws_markText.l0]
    by_cases c1 : a > 0
    · have hz : (strOfNums [wrap64 (48 + Int.tmod a 10) % 256]).size = 1 := by rw [strOfNums_size]; rfl
      rw [if_pos c1, Option.bind_some, if_pos (by omega)]
      have hq : 0 ≤ wrap64 (Int.tdiv a 10) ∧ wrap64 (Int.tdiv a 10) ≤ 1000000000 ∧ wrap64 (Int.tdiv a 10) < 10 ^ d := by
        rw [Int.tdiv_eq_ediv_of_nonneg h0]
        have hp : (10 : Int) ^ (d + 1) = 10 ^ d * 10 := Int.pow_succ 10 d
        rw [hp] at h1
        generalize (10 : Int) ^ d = p at h1
        rw [w64id (by omega) (by omega)]
        omega
      refine ih k _ _ hq.1 hq.2.1 hq.2.2 ?_ (by omega)
      rw [ByteArray.size_append, hz]
      omega
    · have c2 : 1 + x.size ≤ 9223372036854775807 := by omega
      rw [if_neg c1, if_pos c2]
      exact ⟨_, rfl⟩
def mtext (a : Int) : ByteArray := (laws_markText.f 30 a).getD ⟨#[]⟩
theorem markText_at (a : Int) (h1 : a ≤ 1000000000) (k : Nat) (hk : 30 ≤ k) : laws_markText.f k a = some (mtext a) := by
  have h : laws_markText.f 30 a = some (mtext a) := by
    unfold mtext
    by_cases h : a ≤ 0
    · unfold laws_markText.f
      rw [if_pos h]; rfl
    · obtain ⟨t, ht⟩ := markText_l 10 30 a ⟨#[]⟩ (by omega) (by omega) (by omega) (by decide) (by omega)
      have : laws_markText.f 30 a = some t := by
        unfold laws_markText.f
        rw [if_neg h]; exact ht
      rw [this]; rfl
  exact later (g := fun k => laws_markText.f k a) (fun k => laws_markText.mono a k) h k hk
def mfield (a : Int) : IF := ⟨a, mtext (a + 1)⟩
theorem markFieldS_l : ∀ (d n k : Nat) (y : List IF) (a : Int), n + d = y.length → y.length ≤ 10000000 → 0 ≤ a → a + 2 * d ≤ 900000000 → d + 30 ≤ k →
    ∃ y', laws_markFieldS.l0 k y a (n : Int) = some (a + 2 * d, y') ∧ y'.length = y.length ∧ (∀ j : Nat, j < n → rd_T79 y' (j : Int) = rd_T79 y (j : Int)) ∧ ∀ j : Nat, n ≤ j → j < y.length → rd_T79 y' (j : Int) = mfield (a + 2 * ((j : Int) - (n : Int))) := by
  intro d
  induction d with
  | zero =>
    intro n k y a hd hy ha hb hk
    obtain ⟨k, rfl⟩ : ∃ m, k = m + 1 := ⟨k - 1, by omega⟩
    have c1 : ¬ (n : Int) < (y.length : Int) := by omega
    simp only [laws_markFieldS.l0, if_neg c1]
    refine ⟨y, ?_, rfl, fun _ _ => rfl, fun j h1 h2 => by omega⟩
    simp
  | succ d ih =>
    intro n k y a hd hy ha hb hk
    obtain ⟨k, rfl⟩ : ∃ m, k = m + 1 := ⟨k - 1, by omega⟩
    have c1 : (n : Int) < (y.length : Int) := by omega
    have c2 : 0 ≤ (n : Int) := by omega
    have e1 : wrap64 (a + 1) = a + 1 := w64id (by omega) (by omega)
    have e2 : wrap64 (a + 1 + 1) = a + 2 := by rw [w64id (by omega) (by omega)]; omega
    simp only [laws_markFieldS.l0, if_pos c1, if_pos c2, intNat, Option.bind_some, e1, e2, w64s (n := n) (by omega), markText_at (a + 1) (by omega) k (by omega)]
    have hset : (y.set n ⟨a, (rd_T79 y (n : Int)).f1⟩).set n ⟨(rd_T79 (y.set n ⟨a, (rd_T79 y (n : Int)).f1⟩) (n : Int)).f0, mtext (a + 1)⟩ = y.set n (mfield a) := by
      rw [rdF_set_same _ _ _ (by omega), List.set_set]
      rfl
    rw [hset]
    obtain ⟨y', h1, h2, h3, h4⟩ := ih (n + 1) k (y.set n (mfield a)) (a + 2) (by simpa using (by omega : n + 1 + d = y.length)) (by simpa using hy) (by omega) (by omega) (by omega)
    refine ⟨y', ?_, by simpa using h2, fun j hj => ?_, fun j hj1 hj2 => ?_⟩
    · rw [h1, show a + 2 + 2 * (d : Int) = a + 2 * ((d + 1 : Nat) : Int) from by omega]
    · rw [h3 j (by omega), rdF_set_other _ _ _ _ (by omega)]
    · by_cases e : j = n
      · rw [e, h3 n (by omega), rdF_set_same _ _ _ (by omega)]
        have : a + 2 * ((n : Int) - (n : Int)) = a := by omega
        rw [this]
      · rw [h4 j (by omega) (by simpa using hj2)]
        have : a + 2 + 2 * ((j : Int) - ((n + 1 : Nat) : Int)) = a + 2 * ((j : Int) - (n : Int)) := by omega
        rw [this]
theorem markMsg_marks (m : ByteArray) (y : List IF) (hy : y.length ≤ 10000000) (a : Int) (ha : 0 ≤ a) (hb : a ≤ 1000000) :
    ∃ y', y'.length = y.length ∧ ∀ k, y.length + 30 ≤ k → laws_markMsg.f k m y a = some (a + 2 * y.length, y') := by
  obtain ⟨y', h1, h2, _, h4⟩ := markFieldS_l y.length 0 (y.length + 30) y a (by omega) (by omega) ha (by omega) (by omega)
  have hm : ∀ k, y.length + 30 ≤ k → laws_markFieldS.f k y a = some (a + 2 * y.length, y') := fun k hk => later (g := fun k => laws_markFieldS.f k y a) (fun k => laws_markFieldS.mono y a k) h1 k hk
  refine ⟨y', h2, fun k hk => ?_⟩
  unfold laws_markMsg.f
  rw [hm k hk]; rfl
def ubcd : List Int → List Int
  | [] => []
  | c :: t => (48 + c / 16) :: (48 + c % 16) :: ubcd t
def cutAt (l : List Int) (a m : Nat) : List Int := (l.drop a).take m
def isBcd (n : Nat) (u : List Int) : Bool := if n % 2 = 1 then decide (rd u 0 = 48) && digs (u.drop 1) else digs u
def inAt (l : List Int) (a1 n : Int) : Bool := decide (1 ≤ n ∧ n ≤ 38 ∧ 0 ≤ a1 ∧ a1 ≤ (l.length : Int) ∧ (n + 1) / 2 ≤ (l.length : Int) - a1)
def getBcd (l : List Int) (a1 n : Int) : List Int × Int × Bool :=
  if inAt l a1 n && isBcd n.toNat (ubcd (cutAt l a1.toNat ((n + 1) / 2).toNat)) then
    ((ubcd (cutAt l a1.toNat ((n + 1) / 2).toNat)).drop (n.toNat % 2), a1 + (n + 1) / 2, true)
  else ([], 0, false)
theorem ubcd_digs (n m : Nat) (u : List Int) (hm : m = (n + 1) / 2) (hn : 1 ≤ n) (hu : u.length = 2 * m) : isBcd n u = (digs u && (decide (n % 2 = 0) || decide (rd u 0 = 48))) := by
  unfold isBcd
  by_cases h : n % 2 = 1
  · rw [if_pos h]
    have h0 : decide (n % 2 = 0) = false := decide_eq_false (by omega)
    rw [h0, Bool.false_or]
    have hd := drop_rd u 0 (by omega)
    simp only [List.drop_zero, Nat.zero_add] at hd
    have hp : 0 < (u.drop 1).length := by simp; omega
    by_cases h48 : rd u 0 = 48
    · have e1 : digs u = digs (u.drop 1) := by
        unfold digs
        have e2 : u.all isDig = (u.drop 1).all isDig := by
          have h7 : isDig (rd u ((0 : Nat) : Int)) = true := by simpa [h48] using (by decide : isDig 48 = true)
          have h8 : u.all isDig = (rd u ((0 : Nat) : Int) :: u.drop 1).all isDig := congrArg (fun x => List.all x isDig) hd
          rw [h8, List.all_cons, h7, Bool.true_and]
        have e3 : u.isEmpty = false := by cases u with | nil => simp at hu; omega | cons => rfl
        have e4 : (u.drop 1).isEmpty = false := by
          generalize u.drop 1 = v at hp
          cases v with | nil => simp at hp | cons => rfl
        rw [e2, e3, e4]
      simp [h48, e1]
    · simp [h48]
  · rw [if_neg h]
    have h0 : decide (n % 2 = 0) = true := decide_eq_true (by omega)
    rw [h0]
    simp
theorem bcd_bytes : ∀ (n : Nat) (l : List Int), l.length = 2 * n → l.all isDig = true → ∀ c ∈ bcd l, isByte c
  | 0, l, h, _ => by
    have : l = [] := List.length_eq_zero_iff.1 (by omega)
    rw [this]; intro c hc; simp [bcd] at hc
  | n + 1, [], h, _ => by simp at h
  | n + 1, [a], h, _ => by simp at h; omega
  | n + 1, a :: b :: t, h, hd => by
    simp only [List.all_cons, Bool.and_eq_true] at hd
    have ha := dig_range' hd.1
    have hb := dig_range' hd.2.1
    intro c hc
    rw [bcd] at hc
    rcases List.mem_cons.1 hc with rfl | hc
    · unfold isByte; omega
    · exact bcd_bytes n t (by simp at h; omega) hd.2.2 c hc
theorem ubcd_bcd : ∀ (n : Nat) (l : List Int), l.length = 2 * n → l.all isDig = true → ubcd (bcd l) = l
  | 0, l, h, _ => by
    have : l = [] := List.length_eq_zero_iff.1 (by omega)
    rw [this]; rfl
  | n + 1, [], h, _ => by simp at h
  | n + 1, [a], h, _ => by simp at h; omega
  | n + 1, a :: b :: t, h, hd => by
    simp only [List.all_cons, Bool.and_eq_true] at hd
    have ha := dig_range' hd.1
    have hb := dig_range' hd.2.1
    rw [bcd, ubcd, ubcd_bcd n t (by simp at h; omega) hd.2.2]
    have e1 : 48 + ((a - 48) * 16 + (b - 48)) / 16 = a := by omega
    have e2 : 48 + ((a - 48) * 16 + (b - 48)) % 16 = b := by omega
    rw [e1, e2]
theorem cutAt_all (l : List Int) : cutAt l 0 l.length = l := by unfold cutAt; simp
theorem getBcd_putBcd (L : List Int) (hd : L.all isDig = true) (h1 : 1 ≤ L.length) (h2 : L.length ≤ 38) :
    putBcd L = (bcd (evened L), true) ∧ (bcd (evened L)).length = (L.length + 1) / 2 ∧ (∀ c ∈ bcd (evened L), isByte c) ∧ getBcd (bcd (evened L)) 0 (L.length : Int) = (L, (((L.length + 1) / 2 : Nat) : Int), true) := by
  have he := evened_length L
  have ha := evened_all L hd
  have hl := bcd_length _ _ he
  have hu := ubcd_bcd _ _ he ha
  have hg : digs L = true := by
    unfold digs; rw [hd]; cases L with
    | nil => simp at h1
    | cons => rfl
  have hge : digs (evened L) = true := by
    unfold digs; rw [ha]; cases hE : evened L with
    | nil => rw [hE] at he; simp at he; omega
    | cons => rfl
  refine ⟨by unfold putBcd; rw [hg]; simp [h2], hl, bcd_bytes _ _ he ha, ?_⟩
  unfold getBcd
  have en : (((L.length : Int) + 1) / 2).toNat = (bcd (evened L)).length := by omega
  have ei : inAt (bcd (evened L)) 0 (L.length : Int) = true := by unfold inAt; simp; omega
  rw [en, Int.toNat_zero, cutAt_all, hu, ei, Int.toNat_natCast]
  have eb : isBcd L.length (evened L) = true := by
    rw [ubcd_digs L.length ((L.length + 1) / 2) (evened L) rfl h1 he, hge]
    unfold evened
    by_cases q : L.length % 2 = 1
    · rw [if_pos q]; simp [rd]
    · simp; omega
  have ed : (evened L).drop (L.length % 2) = L := by
    unfold evened
    by_cases q : L.length % 2 = 1
    · rw [if_pos q, q]; rfl
    · rw [if_neg q, show L.length % 2 = 0 by omega]; rfl
  rw [eb, ed]
  simp
theorem putField_len (x : Int) (L : List Int) : (putField x L).1.length ≤ 100 := by
  unfold putField
  split
  · rename_i h
    have hl := fieldOk_len x L h
    have := sizeOf_range x
    have h1 : (pfHead x L.length).length ≤ 38 := by
      unfold pfHead
      split
      · exact putLen_short _ _
      · simp
    have h2 : (pfBody x L).length ≤ 60 := by
      unfold pfBody
      split
      · rename_i hd
        obtain ⟨d1, d2, d3⟩ := fieldOk_digits x L h hd
        have := (getBcd_putBcd L d1 d2 d3).2.1
        omega
      · omega
    simp only [List.length_append]
    omega
  · simp
def orBit (x : List Int) (b : Int) : List Int := if 1 ≤ b ∧ b ≤ 64 then x.set ((b - 1) / 8).toNat (Go.bits .or .u8 (rd x ((b - 1) / 8)) (shr .u8 128 ((b - 1) % 8))) else x
def putBits (l : List Int) : List Int := l.foldl orBit (List.replicate 8 0)
theorem orBit_length (x : List Int) (b : Int) : (orBit x b).length = x.length := by
  unfold orBit
  split
  · simp
  · rfl
theorem putBits_foldl_length (l : List Int) : ∀ x : List Int, (l.foldl orBit x).length = x.length := by
  induction l with
  | nil => intro x; rfl
  | cons b t ih => intro x; rw [List.foldl_cons, ih, orBit_length]
theorem putBits_length (l : List Int) : (putBits l).length = 8 := by
  unfold putBits
  rw [putBits_foldl_length]
  simp
def okFrom : Option Int → List IF → Bool
  | _, [] => true
  | p, f :: t => fieldOk f.f0 (bytesOf f.f1) && (match p with | none => true | some q => decide (q < f.f0)) && okFrom (some f.f0) t
theorem okFrom_cons (p : Option Int) (f : IF) (t : List IF) : okFrom p (f :: t) = (fieldOk f.f0 (bytesOf f.f1) && (match p with | none => true | some q => decide (q < f.f0)) && okFrom (some f.f0) t) := by
  cases p <;> rfl
def isMti (m : ByteArray) : Bool := digs (bytesOf m) && decide (m.size = 4)
def msgOk (m : ByteArray) (l : List IF) : Bool := isMti m && okFrom none l
def prevOf (l : List IF) (n : Nat) : Option Int := if n = 0 then none else some (rd_T79 l (((n - 1 : Nat)) : Int)).f0
theorem spec_MsgOk_l (m : ByteArray) (l : List IF) (hl : l.length ≤ 10000000) (B : Nat) (hB : B ≤ 10000000) (hw : ∀ f ∈ l, f.f1.size ≤ B) : ∀ (d n k : Nat), n + d = l.length → d + B + 30 < k →
    spec_MsgOk.l0 k l (l.length : Int) (n : Int) m l = some (okFrom (prevOf l n) (l.drop n)) := by
  intro d
  induction d with
  | zero =>
    intro n k hd hk
    obtain ⟨k, rfl⟩ : ∃ m, k = m + 1 := ⟨k - 1, by omega⟩
    have c1 : ¬ (n : Int) < (l.length : Int) := by omega
    simp only [spec_MsgOk.l0, if_neg c1]
    rw [List.drop_of_length_le (by omega)]
    rfl
  | succ d ih =>
    intro n k hd hk
    obtain ⟨k, rfl⟩ : ∃ m, k = m + 1 := ⟨k - 1, by omega⟩
    have c1 : (n : Int) < (l.length : Int) := by omega
    have c2 : 0 ≤ (n : Int) := by omega
    have hs := hw _ (rdF_mem l n (by omega))
    have hp : prevOf l (n + 1) = some (rd_T79 l (n : Int)).f0 := by unfold prevOf; rw [if_neg (by omega)]; rfl
    have ih' := ih (n + 1) k (by omega) (by omega)
    rw [hp] at ih'
    rw [dropF l n (by omega), okFrom_cons]
    simp only [spec_MsgOk.l0, if_pos c1, if_pos c2, w64s (n := n) (by omega)]
    rw [spec_FieldOk_at _ _ (by omega) k (by omega), Option.bind_some]
    by_cases h : fieldOk (rd_T79 l (n : Int)).f0 (bytesOf (rd_T79 l (n : Int)).f1) = true
    · rw [if_pos h, h, Bool.true_and]
      by_cases h0 : n = 0
      · have hpn : prevOf l n = none := by unfold prevOf; rw [if_pos h0]
        rw [if_neg (by omega), hpn, ih', Bool.true_and]
      · have hpn : prevOf l n = some (rd_T79 l ((n - 1 : Nat) : Int)).f0 := by unfold prevOf; rw [if_neg h0]
        have e : wrap64 ((n : Int) - 1) = ((n - 1 : Nat) : Int) := by rw [w64id (by omega) (by omega)]; omega
        rw [if_pos (by omega), e, if_pos (by omega), if_pos (by omega), hpn, ih']
        generalize (rd_T79 l (n : Int)).f0 = u
        generalize (rd_T79 l ((n - 1 : Nat) : Int)).f0 = v
        by_cases g : v ≥ u
        · rw [if_pos g]
          have : decide (v < u) = false := decide_eq_false (by omega)
          simp only [this, Bool.false_and]
        · rw [if_neg g]
          have : decide (v < u) = true := decide_eq_true (by omega)
          simp only [this, Bool.true_and]
    · rw [if_neg h]
      simp [h]
theorem impl_MsgOk_l (m : ByteArray) (hm : m.size ≤ 10000000) (l : List IF) (hl : l.length ≤ 10000000) (B : Nat) (hB : B ≤ 10000000) (hw : ∀ f ∈ l, f.f1.size ≤ B) : ∀ (d n k : Nat), n + d = l.length → d + B + m.size + 30 < k →
    impl_MsgOk.l0 k l (l.length : Int) (n : Int) m l = some (okFrom (prevOf l n) (l.drop n) && isMti m) := by
  intro d
  induction d with
  | zero =>
    intro n k hd hk
    obtain ⟨k, rfl⟩ : ∃ m, k = m + 1 := ⟨k - 1, by omega⟩
    have c1 : ¬ (n : Int) < (l.length : Int) := by omega
    simp only [impl_MsgOk.l0, if_neg c1]
    rw [List.drop_of_length_le (by omega)]
    unfold impl_isWide.f isMti
    rw [impl_Digits_at m (by omega) k (by omega), Option.bind_some]
    have e : ((m.size : Int) == 4) = decide (m.size = 4) := by
      by_cases h : m.size = 4
      · rw [h]; rfl
      · have h' : ¬ (m.size : Int) = 4 := by omega
        rw [decide_eq_false h]
        simpa using h'
    rw [e]
    cases digs (bytesOf m) <;> simp [okFrom]
  | succ d ih =>
    intro n k hd hk
    obtain ⟨k, rfl⟩ : ∃ m, k = m + 1 := ⟨k - 1, by omega⟩
    have c1 : (n : Int) < (l.length : Int) := by omega
    have c2 : 0 ≤ (n : Int) := by omega
    have hs := hw _ (rdF_mem l n (by omega))
    have hp : prevOf l (n + 1) = some (rd_T79 l (n : Int)).f0 := by unfold prevOf; rw [if_neg (by omega)]; rfl
    have ih' := ih (n + 1) k (by omega) (by omega)
    rw [hp] at ih'
    rw [dropF l n (by omega), okFrom_cons]
    simp only [impl_MsgOk.l0, if_pos c1, if_pos c2, w64s (n := n) (by omega)]
    rw [impl_FieldOk_at _ _ (by omega) k (by omega), Option.bind_some]
    by_cases h : fieldOk (rd_T79 l (n : Int)).f0 (bytesOf (rd_T79 l (n : Int)).f1) = true
    · rw [if_pos h, h, Bool.true_and]
      by_cases h0 : n = 0
      · have hpn : prevOf l n = none := by unfold prevOf; rw [if_pos h0]
        rw [if_neg (by omega), hpn, ih', Bool.true_and]
      · have hpn : prevOf l n = some (rd_T79 l ((n - 1 : Nat) : Int)).f0 := by unfold prevOf; rw [if_neg h0]
        have e : wrap64 ((n : Int) - 1) = ((n - 1 : Nat) : Int) := by rw [w64id (by omega) (by omega)]; omega
        rw [if_pos (by omega), e, if_pos (by omega), if_pos (by omega), hpn, ih']
        generalize (rd_T79 l (n : Int)).f0 = u
        generalize (rd_T79 l ((n - 1 : Nat) : Int)).f0 = v
        by_cases g : u ≤ v
        · rw [if_pos g]
          have : decide (v < u) = false := decide_eq_false (by omega)
          simp only [this, Bool.false_and]
        · rw [if_neg g]
          have : decide (v < u) = true := decide_eq_true (by omega)
          simp only [this, Bool.true_and]
    · rw [if_neg h]
      simp [h]
theorem spec_MsgOk_at (m : ByteArray) (l : List IF) (hm : m.size ≤ 10000000) (hl : l.length ≤ 10000000) (B : Nat) (hB : B ≤ 10000000) (hw : ∀ f ∈ l, f.f1.size ≤ B) (k : Nat) (hk : l.length + B + m.size + 40 < k) : spec_MsgOk.f k m l = some (msgOk m l) := by
  obtain ⟨k, rfl⟩ : ∃ m, k = m + 1 := ⟨k - 1, by omega⟩
  unfold spec_MsgOk.f msgOk isMti
  rw [spec_Digits_at m (by omega) _ (by omega), Option.bind_some]
  by_cases h : digs (bytesOf m) = true
  · rw [if_pos h, h, Bool.true_and, spec_MsgOk.j0]
    by_cases h4 : m.size = 4
    · have e : ((m.size : Int) != 4) = false := by rw [h4]; rfl
      rw [e, decide_eq_true h4, Bool.true_and, if_neg (by simp)]
      exact spec_MsgOk_l m l hl B hB hw l.length 0 k (by omega) (by omega)
    · have e : ((m.size : Int) != 4) = true := by simp; omega
      rw [e, decide_eq_false h4, Bool.false_and, if_pos rfl]
  · rw [if_neg h, spec_MsgOk.j0, if_pos rfl]
    simp [h]
theorem impl_MsgOk_at (m : ByteArray) (l : List IF) (hm : m.size ≤ 10000000) (hl : l.length ≤ 10000000) (B : Nat) (hB : B ≤ 10000000) (hw : ∀ f ∈ l, f.f1.size ≤ B) (k : Nat) (hk : l.length + B + m.size + 40 < k) : impl_MsgOk.f k m l = some (msgOk m l) := by
  unfold impl_MsgOk.f
  have h := impl_MsgOk_l m hm l hl B hB hw l.length 0 k (by omega) (by omega)
  unfold msgOk
  rw [Bool.and_comm]
  exact h
def lowOf (l : List IF) : List Int := (l.filter fun f => decide (f.f0 ≤ 64)).map fun f => f.f0
def highOf (l : List IF) : List Int := (l.filter fun f => !decide (f.f0 ≤ 64)).map fun f => f.f0 - 64
def bodyOf : List IF → List Int
  | [] => []
  | f :: t => (putField f.f0 (bytesOf f.f1)).1 ++ bodyOf t
def headOf (l : List IF) : List Int := if highOf l = [] then putBits (lowOf l) else putBits (lowOf l ++ [1]) ++ putBits (highOf l)
def encode (m : ByteArray) (l : List IF) : List Int × Bool := if msgOk m l = true then (bcd (evened (bytesOf m)) ++ headOf l ++ bodyOf l, true) else ([], false)
theorem headOf_length (l : List IF) : (headOf l).length = if highOf l = [] then 8 else 16 := by
  unfold headOf
  split
  · exact putBits_length _
  · rw [List.length_append, putBits_length, putBits_length]
theorem bodyOf_len : ∀ (l : List IF), (bodyOf l).length ≤ 100 * l.length := by
  intro l
  induction l with
  | nil => simp [bodyOf]
  | cons f t ih =>
    rw [bodyOf, List.length_append, List.length_cons]
    have := putField_len f.f0 (bytesOf f.f1)
    omega
theorem isMti_facts (m : ByteArray) (h : isMti m = true) : (bytesOf m).all isDig = true ∧ (bytesOf m).length = 4 := by
  unfold isMti at h
  simp only [Bool.and_eq_true, decide_eq_true_eq] at h
  exact ⟨(digs_and _ h.1).1, by rw [bytesOf_length]; exact h.2⟩
theorem encode_len (m : ByteArray) (l : List IF) (h : msgOk m l = true) : 10 ≤ (encode m l).1.length ∧ (encode m l).1.length ≤ 18 + 100 * l.length := by
  unfold encode
  rw [if_pos h]
  unfold msgOk at h
  simp only [Bool.and_eq_true] at h
  obtain ⟨h1, h2⟩ := isMti_facts m h.1
  have p := (getBcd_putBcd _ h1 (by omega) (by omega)).2.1
  have q := headOf_length l
  have r := bodyOf_len l
  simp only [List.length_append]
  split at q <;> omega
theorem spec_PutBits_l (l : List Int) (hl : l.length ≤ 1000000000) : ∀ (d n k : Nat) (x : List Int), n + d = l.length → x.length = 8 → d < k →
    spec_PutBits.l0 k x l (l.length : Int) (n : Int) = some ((l.drop n).foldl orBit x) ∧ impl_PutBits.l0 k x l (l.length : Int) (n : Int) = some ((l.drop n).foldl orBit x) := by
  intro d
  induction d with
  | zero =>
    intro n k x hd hx hk
    obtain ⟨k, rfl⟩ : ∃ m, k = m + 1 := ⟨k - 1, by omega⟩
    have c1 : ¬ (n : Int) < (l.length : Int) := by omega
    rw [List.drop_eq_nil_of_le (by omega)]
    simp only [spec_PutBits.l0, impl_PutBits.l0, if_neg c1]
    exact ⟨rfl, rfl⟩
  | succ d ih =>
    intro n k x hd hx hk
    obtain ⟨k, rfl⟩ : ∃ m, k = m + 1 := ⟨k - 1, by omega⟩
    have c1 : (n : Int) < (l.length : Int) := by omega
    have c2 : 0 ≤ (n : Int) := by omega
    have ih' := ih (n + 1) k (orBit x (rd l (n : Int))) (by omega) (by rw [orBit_length, hx]) (by omega)
    rw [drop_rd l n (by omega), List.foldl_cons]
    have en : wrap64 ((n : Int) + 1) = ((n + 1 : Nat) : Int) := by unfold wrap64; omega
    simp only [spec_PutBits.l0, impl_PutBits.l0, if_pos c1, if_pos c2, en]
    generalize rd l (n : Int) = b at ih' ⊢
    unfold spec_l01In.f impl_within.f
    by_cases h1 : 1 ≤ b
    · have h1' : b ≥ 1 := h1
      simp only [if_pos h1, if_pos h1', Option.bind_some]
      by_cases h2 : b ≤ 64
      · simp only [h2, decide_true, if_true]
        have e1 : wrap64 (b - 1) = b - 1 := by unfold wrap64; omega
        have e2 : Int.tdiv (b - 1) 8 = (b - 1) / 8 := Int.tdiv_eq_ediv_of_nonneg (by omega)
        have e3 : Int.tmod (b - 1) 8 = (b - 1) % 8 := Int.tmod_eq_emod_of_nonneg (by omega)
        have e4 : wrap64 ((b - 1) / 8) = (b - 1) / 8 := by unfold wrap64; omega
        have c3 : 0 ≤ (b - 1) / 8 := by omega
        have c4 : (b - 1) / 8 < (x.length : Int) := by omega
        have c5 : 0 ≤ (b - 1) % 8 := by omega
        have eo : orBit x b = x.set ((b - 1) / 8).toNat (Go.bits .or .u8 (rd x ((b - 1) / 8)) (shr .u8 128 ((b - 1) % 8))) := by unfold orBit; rw [if_pos ⟨h1, h2⟩]
        simp only [e1, e2, e3, e4, if_pos c3, if_pos c4, if_pos c5]
        rw [← eo]
        exact ih'
      · have eo : orBit x b = x := by unfold orBit; rw [if_neg (fun h => h2 h.2)]
        simp only [h2, decide_false, Bool.false_eq_true, if_false]
        rw [eo] at ih' ⊢
        exact ih'
    · have h1' : ¬ b ≥ 1 := h1
      have eo : orBit x b = x := by unfold orBit; rw [if_neg (fun h => h1 h.1)]
      simp only [if_neg h1, if_neg h1', Option.bind_some, Bool.false_eq_true, if_false]
      rw [eo] at ih' ⊢
      exact ih'
theorem spec_PutBits_at (l : List Int) (hl : l.length ≤ 1000000000) (k : Nat) (hk : l.length < k) : spec_PutBits.f k l = some (putBits l) := by
  unfold spec_PutBits.f
  rw [if_pos (by omega)]
  exact (spec_PutBits_l l hl l.length 0 k _ (by omega) (by simp) hk).1
theorem impl_PutBits_at (l : List Int) (hl : l.length ≤ 1000000000) (k : Nat) (hk : l.length < k) : impl_PutBits.f k l = some (putBits l) := by
  unfold impl_PutBits.f
  rw [if_pos (by omega)]
  exact (spec_PutBits_l l hl l.length 0 k _ (by omega) (by simp) hk).2
theorem okFrom_iff : ∀ (l : List IF) (p : Option Int), okFrom p l = true ↔ ((∀ f ∈ l, fieldOk f.f0 (bytesOf f.f1) = true) ∧ l.Pairwise (fun a b => a.f0 < b.f0) ∧ ∀ q, p = some q → ∀ f ∈ l, q < f.f0) := by
  intro l
  induction l with
  | nil => intro p; simp [okFrom]
  | cons g t ih =>
    intro p
    rw [okFrom_cons]
    simp only [Bool.and_eq_true, ih (some g.f0), List.pairwise_cons, List.mem_cons, Option.some.injEq]
    constructor
    · rintro ⟨⟨h1, h2⟩, h3, h4, h5⟩
      refine ⟨fun f hf => ?_, ⟨fun f hf => h5 _ rfl f hf, h4⟩, fun q hq f hf => ?_⟩
      · rcases hf with rfl | hf
        · exact h1
        · exact h3 f hf
      · subst hq
        simp only [decide_eq_true_eq] at h2
        rcases hf with rfl | hf
        · exact h2
        · have := h5 _ rfl f hf
          omega
    · rintro ⟨h1, ⟨h2, h3⟩, h4⟩
      refine ⟨⟨h1 g (.inl rfl), ?_⟩, fun f hf => h1 f (.inr hf), h3, fun q hq f hf => by rw [← hq]; exact h2 f hf⟩
      cases p with
      | none => rfl
      | some q => simp only [decide_eq_true_eq]; exact h4 q rfl g (.inl rfl)
theorem known_range (x : Int) (h : ¬ kindOf x = 0) : 2 ≤ x ∧ x ≤ 103 := by
  rcases known x h with rfl | (rfl | rfl | rfl | rfl | rfl | rfl) | (rfl | rfl | rfl | rfl | rfl) | (rfl | rfl) | (rfl | rfl) <;> decide
theorem impl_PutField_at (x : Int) (s : ByteArray) (h : s.size ≤ 140737488351232) : impl_PutField.f x s = some (putField x (bytesOf s)) := by
  unfold impl_PutField.f
  rw [if_pos h]
theorem spec_PutField_at (x : Int) (s : ByteArray) (h : s.size ≤ 140737488351232) : spec_PutField.f x s = some (putField x (bytesOf s)) := by
  unfold spec_PutField.f
  rw [if_pos h]
theorem low_cons (f : IF) (t : List IF) : lowOf (f :: t) = if f.f0 > 64 then lowOf t else f.f0 :: lowOf t := by
  unfold lowOf
  by_cases h : f.f0 > 64
  · rw [if_pos h, List.filter_cons_of_neg (by simp; omega)]
  · rw [if_neg h, List.filter_cons_of_pos (by simp; omega)]; rfl
theorem high_cons (f : IF) (t : List IF) : highOf (f :: t) = if f.f0 > 64 then (f.f0 - 64) :: highOf t else highOf t := by
  unfold highOf
  by_cases h : f.f0 > 64
  · rw [if_pos h, List.filter_cons_of_pos (by simp; omega)]; rfl
  · rw [if_neg h, List.filter_cons_of_neg (by simp; omega)]
theorem impl_Encode_l (m : ByteArray) (l : List IF) (hl : l.length ≤ 10000000) (hw : ∀ f ∈ l, f.f1.size ≤ 10000000) (hr : ∀ f ∈ l, 2 ≤ f.f0 ∧ f.f0 ≤ 103) : ∀ (d n k : Nat) (x4 x5 x6 : List Int), n + d = l.length → x4.length ≤ n → x5.length ≤ n → x6.length ≤ 100 * n →
    impl_Encode.l0 (k + d) x4 x5 x6 l (l.length : Int) (n : Int) m l = impl_Encode.l0 k (x4 ++ lowOf (l.drop n)) (x5 ++ highOf (l.drop n)) (x6 ++ bodyOf (l.drop n)) l (l.length : Int) (l.length : Int) m l := by
  intro d
  induction d with
  | zero =>
    intro n k x4 x5 x6 hd h4 h5 h6
    have e : n = l.length := by omega
    subst e
    rw [List.drop_eq_nil_of_le (Nat.le_refl _)]
    simp [lowOf, highOf, bodyOf]
  | succ d ih =>
    intro n k x4 x5 x6 hd h4 h5 h6
    have hm := rdF_mem l n (by omega)
    have hs := hw _ hm
    have hx := hr _ hm
    rw [show k + (d + 1) = (k + d) + 1 by omega, impl_Encode.l0, if_pos (by omega), if_pos (by omega), if_pos (by omega), dropF l n (by omega), low_cons, high_cons, bodyOf, impl_PutField_at _ _ (by omega), w64s (by omega)]
    have hb := putField_len (rd_T79 l (n : Int)).f0 (bytesOf (rd_T79 l (n : Int)).f1)
    generalize rd_T79 l (n : Int) = f at hs hx hb
    rw [Option.bind_some]
    by_cases q : f.f0 > 64
    · have e : wrap64 (f.f0 - 64) = f.f0 - 64 := by unfold wrap64; omega
      rw [if_pos q, if_pos q, if_pos q, if_pos (by omega), if_pos (by omega), e, ih (n + 1) k _ _ _ (by omega) (by omega) (by simp; omega) (by simp; omega)]
      simp
    · rw [if_neg q, if_neg q, if_neg q, if_pos (by omega), Option.bind_some, if_pos (by omega), ih (n + 1) k _ _ _ (by omega) (by simp; omega) (by omega) (by simp; omega)]
      simp
theorem low_len : ∀ (l : List IF), (lowOf l).length ≤ l.length := by
  intro l
  unfold lowOf
  rw [List.length_map]
  exact List.length_filter_le _ _
theorem high_len : ∀ (l : List IF), (highOf l).length ≤ l.length := by
  intro l
  unfold highOf
  rw [List.length_map]
  exact List.length_filter_le _ _
theorem mti_bcd (m : ByteArray) (h : isMti m = true) : putBcd (bytesOf m) = (bcd (evened (bytesOf m)), true) ∧ (bcd (evened (bytesOf m))).length = 2 ∧ m.size = 4 := by
  obtain ⟨h1, h2⟩ := isMti_facts m h
  have := bcd_length _ _ (evened_length (bytesOf m))
  exact ⟨putBcd_digits _ h1 (by omega) (by omega), by omega, by rw [← bytesOf_length]; exact h2⟩
theorem msg_parts (m : ByteArray) (l : List IF) (h : msgOk m l = true) : isMti m = true ∧ ∀ f ∈ l, 2 ≤ f.f0 ∧ f.f0 ≤ 103 := by
  unfold msgOk at h
  simp only [Bool.and_eq_true] at h
  obtain ⟨o1, _, _⟩ := (okFrom_iff l none).1 h.2
  exact ⟨h.1, fun f hf => known_range _ (fieldOk_kind _ _ (o1 f hf))⟩
theorem impl_Encode_at (m : ByteArray) (l : List IF) (hm : m.size ≤ 10000000) (hl : l.length ≤ 10000000) (hw : ∀ f ∈ l, f.f1.size ≤ 10000000) (k : Nat) (hk : 2 * l.length + m.size + 20000000 < k) : impl_Encode.f k m l = some (encode m l) := by
  unfold impl_Encode.f encode
  rw [impl_MsgOk_at m l hm hl 10000000 (by omega) hw k (by omega), Option.bind_some]
  by_cases h : msgOk m l = true
  · obtain ⟨hmti, hr⟩ := msg_parts m l h
    obtain ⟨b1, b2, b3⟩ := mti_bcd m hmti
    rw [if_pos h, if_pos h]
    have hz := impl_Encode_l m l hl hw hr l.length 0 (k - l.length) [] [] [] (by omega) (by simp) (by simp) (by simp)
    rw [show k - l.length + l.length = k by omega] at hz
    refine hz.trans ?_
    rw [List.drop_zero, List.nil_append, List.nil_append, List.nil_append]
    obtain ⟨k, rfl⟩ : ∃ q, k = q + 1 + l.length := ⟨k - 1 - l.length, by omega⟩
    have z4 := low_len l
    have z5 := high_len l
    have z6 := bodyOf_len l
    have p1 := putBits_length (lowOf l)
    have p2 := putBits_length (lowOf l ++ [1])
    have p3 := putBits_length (highOf l)
    rw [show k + 1 + l.length - l.length = k + 1 by omega, impl_Encode.l0, if_neg (by omega), impl_PutBcd_at m (by omega) k (by omega), b1, Option.bind_some]
    unfold headOf
    by_cases q : highOf l = []
    · rw [q, if_neg (by simp), impl_PutBits_at _ (by omega) k (by omega), Option.bind_some, if_pos rfl]
      simp only
      rw [if_pos (by omega), Option.bind_some, if_pos (by rw [List.length_append]; omega)]
    · have q2 : (highOf l).length ≠ 0 := fun z => q (List.length_eq_zero_iff.1 z)
      rw [if_pos (by omega), if_pos (by omega), impl_PutBits_at _ (by simp; omega) k (by simp; omega), Option.bind_some, if_neg q]
      simp only
      rw [if_pos (by omega), Option.bind_some, impl_PutBits_at _ (by omega) k (by omega), Option.bind_some, if_pos (by rw [List.length_append]; omega), Option.bind_some, if_pos (by rw [List.length_append, List.length_append]; omega)]
      simp
  · rw [if_neg h, if_neg h]
theorem spec_Encode_l (m : ByteArray) (l : List IF) (hl : l.length ≤ 10000000) (hr : ∀ f ∈ l, 2 ≤ f.f0 ∧ f.f0 ≤ 103) : ∀ (d n k : Nat) (x4 x5 : List Int), n + d = l.length → x4.length ≤ n → x5.length ≤ n →
    spec_Encode.l0 (k + d) x4 x5 l (l.length : Int) (n : Int) m l = spec_Encode.l0 k (x4 ++ lowOf (l.drop n)) (x5 ++ highOf (l.drop n)) l (l.length : Int) (l.length : Int) m l := by
  intro d
  induction d with
  | zero =>
    intro n k x4 x5 hd h4 h5
    have e : n = l.length := by omega
    subst e
    rw [List.drop_eq_nil_of_le (Nat.le_refl _)]
    simp [lowOf, highOf]
  | succ d ih =>
    intro n k x4 x5 hd h4 h5
    have hx := hr _ (rdF_mem l n (by omega))
    rw [show k + (d + 1) = (k + d) + 1 by omega, spec_Encode.l0, if_pos (by omega), if_pos (by omega), if_pos (by omega), dropF l n (by omega), low_cons, high_cons, w64s (by omega)]
    generalize rd_T79 l (n : Int) = f at hx
    by_cases q : f.f0 > 64
    · have e : wrap64 (f.f0 - 64) = f.f0 - 64 := by unfold wrap64; omega
      rw [if_pos q, if_pos q, if_pos q, if_pos (by omega), e, ih (n + 1) k _ _ (by omega) (by omega) (by simp; omega)]
      simp
    · rw [if_neg q, if_neg q, if_neg q, if_pos (by omega), ih (n + 1) k _ _ (by omega) (by simp; omega) (by omega)]
      simp
theorem spec_Encode_l1 (l : List IF) (hl : l.length ≤ 10000000) (hw : ∀ f ∈ l, f.f1.size ≤ 10000000) : ∀ (d n k : Nat) (x : List Int), n + d = l.length → x.length ≤ 100 + 100 * n → d < k →
    spec_Encode.l1 k x l (l.length : Int) (n : Int) = some (x ++ bodyOf (l.drop n), true) := by
  intro d
  induction d with
  | zero =>
    intro n k x hd hx hk
    obtain ⟨k, rfl⟩ : ∃ m, k = m + 1 := ⟨k - 1, by omega⟩
    rw [spec_Encode.l1, if_neg (by omega), List.drop_eq_nil_of_le (by omega), bodyOf, List.append_nil]
  | succ d ih =>
    intro n k x hd hx hk
    obtain ⟨k, rfl⟩ : ∃ m, k = m + 1 := ⟨k - 1, by omega⟩
    have hs := hw _ (rdF_mem l n (by omega))
    rw [spec_Encode.l1, if_pos (by omega), if_pos (by omega), if_pos (by omega), dropF l n (by omega), bodyOf, spec_PutField_at _ _ (by omega), w64s (by omega), Option.bind_some]
    have hb := putField_len (rd_T79 l (n : Int)).f0 (bytesOf (rd_T79 l (n : Int)).f1)
    rw [if_pos (by omega), ih (n + 1) k _ (by omega) (by simp; omega) (by omega), List.append_assoc]
theorem spec_Encode_at (m : ByteArray) (l : List IF) (hm : m.size ≤ 10000000) (hl : l.length ≤ 10000000) (hw : ∀ f ∈ l, f.f1.size ≤ 10000000) (k : Nat) (hk : 3 * l.length + m.size + 20000000 < k) : spec_Encode.f k m l = some (encode m l) := by
  unfold spec_Encode.f encode
  rw [spec_MsgOk_at m l hm hl 10000000 (by omega) hw k (by omega), Option.bind_some]
  by_cases h : msgOk m l = true
  · obtain ⟨hmti, hr⟩ := msg_parts m l h
    obtain ⟨b1, b2, b3⟩ := mti_bcd m hmti
    rw [if_pos h, if_pos h]
    have hz := spec_Encode_l m l hl hr l.length 0 (k - l.length) [] [] (by omega) (by simp) (by simp)
    rw [show k - l.length + l.length = k by omega] at hz
    refine hz.trans ?_
    rw [List.drop_zero, List.nil_append, List.nil_append]
    obtain ⟨k, rfl⟩ : ∃ q, k = q + 3 + l.length := ⟨k - 3 - l.length, by omega⟩
    have z4 := low_len l
    have z5 := high_len l
    have z6 := bodyOf_len l
    have p1 := putBits_length (lowOf l)
    have p2 := putBits_length (lowOf l ++ [1])
    have p3 := putBits_length (highOf l)
    have hj2 : ∀ x : List Int, x.length ≤ 100 → spec_Encode.j2 (k + 1) x m l = some (x ++ bodyOf l, true) := by
      intro x hx
      rw [spec_Encode.j2]
      exact spec_Encode_l1 l hl hw l.length 0 k x (by omega) (by omega) (by omega)
    rw [show k + 3 + l.length - l.length = k + 2 + 1 by omega, spec_Encode.l0, if_neg (by omega), spec_PutBcd_at m (by omega) (k + 2) (by omega), b1, Option.bind_some]
    unfold headOf
    by_cases q : highOf l = []
    · rw [q, if_neg (by simp), spec_Encode.j1, spec_PutBits_at _ (by omega) (k + 1) (by omega), Option.bind_some, if_pos rfl]
      simp only
      rw [if_pos (by omega), Option.bind_some, if_neg (by simp), hj2 _ (by rw [List.length_append]; omega)]
    · have q2 : (highOf l).length ≠ 0 := fun z => q (List.length_eq_zero_iff.1 z)
      rw [if_pos (by omega), if_pos (by omega), spec_Encode.j1, spec_PutBits_at _ (by simp; omega) (k + 1) (by simp; omega), Option.bind_some, if_neg q]
      simp only
      rw [if_pos (by omega), Option.bind_some, if_pos (by omega), spec_PutBits_at _ (by omega) (k + 1) (by omega), Option.bind_some, if_pos (by rw [List.length_append]; omega), hj2 _ (by rw [List.length_append, List.length_append]; omega)]
      simp
  · rw [if_neg h, if_neg h]
theorem eqByteS_l (l : List Int) (hl : l.length ≤ 1000000000) : ∀ (d n k : Nat), n + d = l.length → d < k → laws_eqByteS.l0 k l l (n : Int) = some true := by
  intro d
  induction d with
  | zero =>
    intro n k hd hk
    obtain ⟨k, rfl⟩ : ∃ m, k = m + 1 := ⟨k - 1, by omega⟩
    have c1 : ¬ (n : Int) < (l.length : Int) := by omega
    simp only [laws_eqByteS.l0, if_neg c1]
  | succ d ih =>
    intro n k hd hk
    obtain ⟨k, rfl⟩ : ∃ m, k = m + 1 := ⟨k - 1, by omega⟩
    have c1 : (n : Int) < (l.length : Int) := by omega
    have c2 : 0 ≤ (n : Int) := by omega
    simp only [laws_eqByteS.l0, if_pos c1, if_pos c2, if_true, w64 c2 (by omega)]
    exact ih (n + 1) k (by omega) (by omega)
theorem eqByteS_self (l : List Int) (hl : l.length ≤ 1000000000) (k : Nat) (hk : l.length < k) : laws_eqByteS.f k l l = some true := by
  unfold laws_eqByteS.f
  rw [if_pos rfl]
  exact eqByteS_l l hl l.length 0 k (by omega) hk
theorem markByteS_l : ∀ (d n k : Nat) (y : List Int) (a : Int), n + d = y.length → y.length ≤ 1000000000000 → 0 ≤ a → a + d ≤ 1000000000000 → d < k →
    ∃ y', laws_markByteS.l0 k y a (n : Int) = some (a + d, y') ∧ y'.length = y.length ∧ (∀ j : Nat, j < n → rd y' (j : Int) = rd y (j : Int)) ∧ ∀ j : Nat, n ≤ j → j < y.length → rd y' (j : Int) = (a + ((j : Int) - (n : Int))) % 256 := by
  intro d
  induction d with
  | zero =>
    intro n k y a hd hy ha hb hk
    obtain ⟨k, rfl⟩ : ∃ m, k = m + 1 := ⟨k - 1, by omega⟩
    have c1 : ¬ (n : Int) < (y.length : Int) := by omega
    simp only [laws_markByteS.l0, if_neg c1]
    refine ⟨y, ?_, rfl, fun _ _ => rfl, fun j h1 h2 => by omega⟩
    simp
  | succ d ih =>
    intro n k y a hd hy ha hb hk
    obtain ⟨k, rfl⟩ : ∃ m, k = m + 1 := ⟨k - 1, by omega⟩
    have c1 : (n : Int) < (y.length : Int) := by omega
    have c2 : 0 ≤ (n : Int) := by omega
    simp only [laws_markByteS.l0, if_pos c1, if_pos c2, toNat_cast]
    rw [show wrap64 ((n : Int) + 1) = ((n + 1 : Nat) : Int) from by unfold wrap64; omega, show wrap64 (a + 1) = a + 1 from by unfold wrap64; omega]
    obtain ⟨y', h1, h2, h3, h4⟩ := ih (n + 1) k (y.set n ((a) % 256)) (a + 1) (by simpa using (by omega : n + 1 + d = y.length)) (by simpa using hy) (by omega) (by omega) (by omega)
    refine ⟨y', ?_, by simpa using h2, fun j hj => ?_, fun j hj1 hj2 => ?_⟩
    · rw [h1, show a + 1 + (d : Int) = a + ((d + 1 : Nat) : Int) from by omega]
    · rw [h3 j (by omega), rd_set_other _ _ _ _ (by omega)]
    · by_cases e : j = n
      · rw [e, h3 n (by omega), rd_set_same _ _ _ (by omega)]
        have : a + ((n : Int) - (n : Int)) = a := by omega
        rw [this]
      · rw [h4 j (by omega) (by simpa using hj2)]
        have : a + 1 + ((j : Int) - ((n + 1 : Nat) : Int)) = a + ((j : Int) - (n : Int)) := by omega
        rw [this]
theorem heldByteS_l : ∀ (d n k : Nat) (y : List Int) (a : Int), n + d = y.length → y.length ≤ 1000000000000 → 0 ≤ a → a + d ≤ 1000000000000 → d < k → (∀ j : Nat, n ≤ j → j < y.length → rd y (j : Int) = (a + ((j : Int) - (n : Int))) % 256) →
    laws_heldByteS.l0 k y a (n : Int) = some (a + d) := by
  intro d
  induction d with
  | zero =>
    intro n k y a hd hy ha hb hk hv
    obtain ⟨k, rfl⟩ : ∃ m, k = m + 1 := ⟨k - 1, by omega⟩
    have c1 : ¬ (n : Int) < (y.length : Int) := by omega
    simp only [laws_heldByteS.l0, if_neg c1]
    simp
  | succ d ih =>
    intro n k y a hd hy ha hb hk hv
    obtain ⟨k, rfl⟩ : ∃ m, k = m + 1 := ⟨k - 1, by omega⟩
    have c1 : (n : Int) < (y.length : Int) := by omega
    have c2 : 0 ≤ (n : Int) := by omega
    have c3 : rd y (n : Int) = (a) % 256 := by
      rw [hv n (by omega) (by omega)]
      have : a + ((n : Int) - (n : Int)) = a := by omega
      rw [this]
    simp only [laws_heldByteS.l0, if_pos c1, if_pos c2, if_pos c3]
    rw [show wrap64 ((n : Int) + 1) = ((n + 1 : Nat) : Int) from by unfold wrap64; omega, show wrap64 (a + 1) = a + 1 from by unfold wrap64; omega]
    rw [ih (n + 1) k y (a + 1) (by omega) hy (by omega) (by omega) (by omega) (fun j h1 h2 => ?_)]
    · rw [show a + 1 + (d : Int) = a + ((d + 1 : Nat) : Int) from by omega]
    · rw [hv j (by omega) h2]
      have : a + 1 + ((j : Int) - ((n + 1 : Nat) : Int)) = a + ((j : Int) - (n : Int)) := by omega
      rw [this]
theorem markByteS_held (y : List Int) (hy : y.length ≤ 1000000000) (a : Int) (ha : 0 ≤ a) (hb : a ≤ 1000000000) :
    ∃ y', y'.length = y.length ∧ ∀ k, y.length < k → laws_markByteS.f k y a = some (a + y.length, y') ∧ laws_heldByteS.f k y' a = some (a + y.length) := by
  obtain ⟨y', h1, h2, _, h4⟩ := markByteS_l y.length 0 (y.length + 1) y a (by omega) (by omega) ha (by omega) (by omega)
  refine ⟨y', h2, fun k hk => ⟨later (g := fun k => laws_markByteS.f k y a) (fun k => laws_markByteS.mono y a k) h1 k hk, ?_⟩⟩
  have h := heldByteS_l y'.length 0 k y' a (by omega) (by omega) ha (by omega) (by omega) (fun j hj1 hj2 => h4 j hj1 (by omega))
  rw [h2] at h
  exact h
theorem FnExactEncode : ∀ (m : ByteArray) (l : List LF), m.size ≤ 9223372036854775807 → l.length ≤ 9223372036854775807 → (∀ f ∈ l, f.f1.size ≤ 9223372036854775807 ∧ (Lit.int .i64 f.f0).wf = true) → ∃ k, laws_FnExactEncode.f k m l = some true := by
  intro m l hm hl hf
  obtain ⟨r, s1, hr⟩ := szMsg_at m l hm hl (fun f h => (hf f h).1) 1048576 (by omega) (by omega)
  obtain ⟨K, hK⟩ : ∃ K : Nat, 200 * l.length + 500000000 ≤ K := ⟨_, Nat.le_refl _⟩
  refine ⟨K + 4, ?_⟩
  unfold laws_FnExactEncode.f
  rw [s1 (K + 4) (by omega), Option.bind_some]
  rcases hr with hr | ⟨q0, _, q1, q2, q3⟩
  · rw [if_pos hr]
  have q : ¬ r < 0 := by omega
  rw [if_neg q]
  have g0 := toMsg_at m l (by omega)
  have hz : (l.map conv).length = l.length := by simp
  have hw : ∀ f ∈ l.map conv, f.f1.size ≤ 10000000 := by
    intro f hf
    obtain ⟨g, hg, rfl⟩ := List.mem_map.1 hf
    exact Nat.le_trans (q3 g hg) (by omega)
  have hv : (encode m (l.map conv)).1.length ≤ 100 + 100 * l.length := by
    cases h : msgOk m (l.map conv) with
    | true => have := (encode_len m (l.map conv) h).2; omega
    | false => unfold encode; rw [if_neg (by simp [h])]; simp
  have g1 := spec_Encode_at m (l.map conv) (by omega) (by omega) hw
  have g2 := impl_Encode_at m (l.map conv) (by omega) (by omega) hw
  generalize encode m (l.map conv) = v at g1 g2 hv
  obtain ⟨vl, vb⟩ := v
  simp only at hv
  obtain ⟨K0, hK0⟩ : ∃ K0 : Nat, vl.length + 300000000 + 100 * l.length ≤ K0 ∧ K0 ≤ K := ⟨K, by omega, Nat.le_refl _⟩
  have hv2 : vl.length ≤ 200000000 := by omega
  have g3 := eqByteS_self vl (by omega)
  have g4 := eqMsg_self m (l.map conv) (by omega)
  obtain ⟨y, hy, m2⟩ := markMsg_marks m (l.map conv) (by omega) 1 (by omega) (by omega)
  obtain ⟨z, hz3, n2⟩ := markByteS_held vl (by omega) 1 (by omega) (by omega)
  have p1 : ¬ (1 + 2 * ((l.map conv).length : Int)) < 0 := by omega
  have p2 : ¬ (1 + (vl.length : Int)) < 0 := by omega
  have a1_ := g0 (K + 4) (by omega)
  have a2_ := g1 (K + 4) (by omega)
  have a3_ := g2 (K + 4) (by omega)
  have a4_ := g3 (K + 4) (by omega)
  have b1_ := g0 (K + 3) (by omega)
  have b2_ := g4 (K + 3) (by omega)
  have b3_ := m2 (K + 3) (by omega)
  have b4_ := g3 (K + 3) (by omega)
  have c1_ := (n2 (K + 2) (by omega)).1
  have c2_ := (n2 (K + 2) (by omega)).2
  have c3_ := g0 (K + 2) (by omega)
  have c4_ := g2 (K + 2) (by omega)
  have c5_ := g3 (K + 2) (by omega)
  have d1_ := (n2 (K + 1) (by omega)).2
  clear g0 g1 g2 g3 g4 m2 n2 hy hz3 hK hw hz q1 q2 q3 s1 hf hm hl hv hv2 hK0
  rw [a1_, Option.bind_some]
  simp only
  rw [a2_, Option.bind_some, Option.bind_some]
  simp only
  rw [a3_, Option.bind_some]
  simp only
  rw [a4_, Option.bind_some, if_pos rfl, bne_self_eq_false, laws_FnExactEncode.j0, if_neg (by simp), b1_, Option.bind_some]
  simp only
  rw [b2_, Option.bind_some, if_pos rfl, b3_, Option.bind_some]
  simp only
  rw [if_neg p1, b4_, Option.bind_some, if_pos rfl, bne_self_eq_false]
  rw [laws_FnExactEncode.j1, if_neg (by simp), c1_, Option.bind_some]
  simp only
  rw [c2_, Option.bind_some, if_neg p2, if_pos rfl, c3_, Option.bind_some]
  simp only
  rw [c4_, Option.bind_some]
  simp only
  rw [c5_, Option.bind_some, if_pos rfl, bne_self_eq_false, laws_FnExactEncode.j2, if_neg (by simp), d1_, Option.bind_some, if_neg p2, if_pos rfl]
end Go.Proofs.YtfiieppnpmodoaaDoor.Q
end
section
/- What an argument that is a slice of fields, or of ints, inside a struct reads as: for the rows; no condition. -/
namespace Go.Proofs.YtfiieppnpmodoaaDoor.Q
open Go.RowKit Go.Proofs.YtfiieppnpmodoaaDoorW.PrintWords Go.Proofs.YtfiieppnpmodoaaDoorW.PrintLast Go.Proofs.YtfiieppnpmodoaaDoorW.PrintMore Go.ChangeShapes Go.WideShapes Go.ChangeAt Go.Deep
set_option linter.unusedVariables false
set_option linter.unusedSimpArgs false
theorem addr_add (a : Addr) (i j : Nat) : (a.add i).add j = a.add (i + j) := by
  unfold Addr.add
  by_cases h1 : i = 0 <;> by_cases h2 : j = 0 <;> simp [h1, h2, Nat.add_assoc]
theorem maxLen_eq : maxLen = 9223372036854775807 := rfl
theorem cellsField : Tryd.prog.cellsOf 102 = 2 := by kernel_rfl
theorem cellsInt : Tryd.prog.cellsOf 3 = 1 := by kernel_rfl
theorem cellsStr : Tryd.prog.cellsOf 9 = 1 := by kernel_rfl
set_option maxRecDepth 100000 in
theorem field_cells {H : Type} {enc : TypeId × Value → H} {W : World} {n : Nat} {cs : List Value} {y : DataW H × List MemPlace} (h : DataW.trod enc Tryd.prog W 0 (fun _ => true) true n 102 cs = some y) :
    ∃ f : S102, cs = [.int .i64 f.f0, .string f.f1] ∧ f.f1.size ≤ 9223372036854775807 ∧ (Lit.int .i64 f.f0).wf = true := by
  obtain ⟨y0, y1, m, hx, hl, h0, h1⟩ := trod_struct2 Tryd.underlying102 h
  rw [cellsField] at hl
  match cs, hl with
  | [u0, u1], _ =>
    simp only [cellsInt, cellsStr, List.drop_zero, List.take_succ_cons, List.take_zero, List.drop_succ_cons] at h0 h1
    obtain ⟨a, e0, _, wa⟩ := DataW.trod_int Tryd.underlying3 h0
    obtain ⟨s, e1, _, ws⟩ := DataW.trod_string Tryd.underlying9 h1
    simp at e0 e1
    subst e0 e1
    exact ⟨⟨a, s⟩, rfl, ws, wa⟩
instance : Inhabited S102 := ⟨z102⟩
set_option maxRecDepth 100000 in
theorem fields_open {H : Type} {enc : TypeId × Value → H} {W : World} {fuel : Nat} {v : Value} {x : DataW H × List MemPlace} (h : DataW.trod enc Tryd.prog W 0 (fun _ => true) true fuel 42 [v] = some x) :
    ∃ (A : Option Addr) (c : Nat) (l : List S102), v = .slice A l.length c ∧ l.length ≤ c ∧ l.length ≤ 9223372036854775807 ∧ Kd.C k102 W A l.length l ∧ ∀ f ∈ l, f.f1.size ≤ 9223372036854775807 ∧ (Lit.int .i64 f.f0).wf = true := by
  rcases open_slice Tryd.underlying42 h with ⟨hcs, _⟩ | ⟨a, len, cap, m, n, D, Pl, hcs, _, hlc, hcap, hm, _, hel⟩
  · simp at hcs
    subst hcs
    exact ⟨none, 0, [], rfl, Nat.le_refl _, by simp, Kd.C_nil _ _, fun f hf => by cases hf⟩
  · simp at hcs
    subst hcs
    have hlm : len ≤ m := by rw [hm]; simpa using hlc
    rw [cellsField] at hel
    obtain ⟨F, hF⟩ := choose_lt (α := S102) (n := len) (p := fun i f => f.f1.size ≤ 9223372036854775807 ∧ (Lit.int .i64 f.f0).wf = true ∧ ∀ (j : Nat) (u : Value), ([.int .i64 f.f0, .string f.f1] : List Value)[j]? = some u → W.cell? (a.add (i * 2 + j)) = some u) (fun i hi => by
      obtain ⟨cs', h1, h2⟩ := hel i (by omega)
      obtain ⟨f, rfl, hs, hw⟩ := field_cells h2
      obtain ⟨_, _, hc⟩ := World.cells?_some h1
      refine ⟨f, hs, hw, fun j u hj => ?_⟩
      have hj2 : j < 2 := by
        have := (List.getElem?_eq_some_iff.1 hj).1
        simpa using this
      rw [← addr_add, hc j hj2]
      exact hj)
    have hlen : ((List.range len).map F).length = len := by simp
    rw [maxLen_eq] at hcap
    refine ⟨some a, cap, (List.range len).map F, by rw [hlen], by rw [hlen]; exact hlc, by rw [hlen]; omega, ?_, ?_⟩
    · rw [hlen]
      refine ⟨hlen, by omega, fun _ => ⟨a, rfl, fun j p hj => ?_⟩⟩
      have hjl : j < len := by
        have := (List.getElem?_eq_some_iff.1 hj).1
        rwa [hlen] at this
      have hp : p = F j := by
        simp [hjl] at hj
        exact hj.symm
      subst hp
      exact ⟨[.int .i64 (F j).f0, .string (F j).f1], rfl, k102_mk W (F j), (hF j hjl).2.2⟩
    · intro f hf
      obtain ⟨j, hj, rfl⟩ := List.mem_map.1 hf
      have hjl : j < len := List.mem_range.1 hj
      exact ⟨(hF j hjl).1, (hF j hjl).2.1⟩
end Go.Proofs.YtfiieppnpmodoaaDoor.Q
end
section
/- The start that fits a row that lists the three tables, and what the rows' list gives the walks: for rows of tied cards. -/
namespace Go.Proofs.YtfiieppnpmodoaaDoor.Laid
open Go.ChangeShapes Go.WideShapes Go.ChangeAt Go.RowKit
def valsOf (d : DataW Unit) : Array Value := match d with
  | .agg l => (l.map fun | .lit (.int k z) => Value.int k z | _ => .bool false).toArray
  | _ => #[]
def put (d : DataW Unit) : Obj → Obj
  | .cells _ t frozen => .cells (valsOf d) t frozen
  | o => o
/-- The settled world with the three tables laid. -/
noncomputable def world (os : Os) : World :=
  let w0 := World.holding Tryd.prog os ⟨#[], #[], []⟩
  { w0 with heap := ((w0.heap.modify 3 (put Rows.laid_internal_strconv_uint64pow10)).modify 4 (put Rows.laid_math_bits_deBruijn32tab)).modify 5 (put Rows.laid_math_bits_deBruijn64tab) }
abbrev list3 : List (String × DataW Unit) := [("math/bits.deBruijn32tab", Rows.laid_math_bits_deBruijn32tab), ("math/bits.deBruijn64tab", Rows.laid_math_bits_deBruijn64tab), ("internal/strconv.uint64pow10", Rows.laid_internal_strconv_uint64pow10)]
set_option maxRecDepth 100000 in
theorem met (os : Os) (args : Array Value) : laidMet Tryd.prog list3 ((world os).forCall (fun _ _ => 0) ⟨#[], args, []⟩).memory :=
  laidMet_of_run' 100 (by kernel_rfl) (by kernel_rfl)
theorem gPowType : (Tryd.prog.globals[3]?).map (·.type) = some 147 := by kernel_rfl
theorem gl {W : World} (h : laidMet Tryd.prog list3 W) : Q.GLW W :=
  Lib.tabIs_of_head Q.gPow gPowType Tryd.underlying147 Tryd.underlying120 (by kernel_rfl) (by kernel_rfl) (show laidMet Tryd.prog [("internal/strconv.uint64pow10", Lib.tabData .u64 Lib.pow10Tab)] W from h.tail.tail)
end Go.Proofs.YtfiieppnpmodoaaDoor.Laid
end
