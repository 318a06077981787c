/- Texts for FnExactReply, packed by a program of this session (wip/pack.py), part 4 of 5: the print's words that are used, the printed walks, the plain laws, the row; no condition. -/
import Derived.Test.YtnnnglbjipiclaaMgFnExactReply3
import Derived.WalkKit
import Derived.ProofKit
import Derived.Deep.Slices
section
namespace Go.Proofs.Ytnnnglbjipiclaa.Q
open Go.RowKit Go.Proofs.YtnnnglbjipiclaaW.PrintWords Go.Proofs.YtnnnglbjipiclaaW.PrintLast Go.Proofs.YtnnnglbjipiclaaW.PrintMore
set_option linter.unusedVariables false
set_option linter.unusedSimpArgs false
theorem impl_FieldOf_l (x : Int) (l : List IF) (hl : l.length ≤ 10000000) : ∀ (d n k : Nat), n + d = l.length → d < k →
    impl_FieldOf.l0 k x l (l.length : Int) (n : Int) = some (match (l.drop n).find? (fun g => decide (g.f0 = x)) with | some f => (f.f1, true) | none => (⟨#[]⟩, false)) := by
  intro d
  induction d with
  | zero =>
    intro n k hd hk
    obtain ⟨k, rfl⟩ : ∃ m, k = m + 1 := ⟨k - 1, by omega⟩
    rw [impl_FieldOf.l0, if_neg (by omega), List.drop_eq_nil_of_le (by omega)]
    rfl
  | succ d ih =>
    intro n k hd hk
    obtain ⟨k, rfl⟩ : ∃ m, k = m + 1 := ⟨k - 1, by omega⟩
    rw [impl_FieldOf.l0, if_pos (by omega), if_pos (by omega), if_pos (by omega), dropF l n (by omega), w64s (by omega)]
    by_cases q : (rd_T45 l (n : Int)).f0 = x
    · rw [if_pos q, List.find?_cons_of_pos (by simpa using q)]
    · rw [if_neg q, List.find?_cons_of_neg (by simpa using q)]
      exact ih (n + 1) k (by omega) (by omega)
theorem impl_FieldOf_at (m : ByteArray) (x : Int) (l : List IF) (hl : l.length ≤ 10000000) (k : Nat) (hk : l.length < k) :
    impl_FieldOf.f k m l x = some (match l.find? (fun g => decide (g.f0 = x)) with | some f => (f.f1, true) | none => (⟨#[]⟩, false)) := by
  unfold impl_FieldOf.f
  exact impl_FieldOf_l x l hl l.length 0 k (by omega) hk
theorem replyL_short (l : List Int) : (replyL l).length ≤ 4 := by
  unfold replyL
  split
  · rename_i h
    simp only [Bool.and_eq_true, decide_eq_true_eq] at h
    simp
    omega
  · simp
theorem rsText_at (c : Int) : ∃ t, spec_RsText.f c = some t ∧ impl_RsText.f c = some t ∧ t.size ≤ 10 := by
  obtain ⟨l, hl, hi, hn, hs⟩ : ∃ l, spec_l05Texts.f = some l ∧ impl_rsTexts.f = some l ∧ l.length = 11 ∧ ∀ t ∈ l, t.size ≤ 10 := ⟨_, rfl, rfl, rfl, by decide +kernel⟩
  have w : wrap64 (((11 : Nat) : Int) - 1) = 10 := by unfold wrap64; omega
  unfold spec_RsText.f impl_RsText.f
  rw [hl, hi]
  simp only [Option.bind_some, hn, w]
  unfold impl_within.f spec_l01In.f
  by_cases h : 0 ≤ c
  · have h' : c ≥ 0 := h
    simp only [if_pos h, if_pos h', Option.bind_some]
    by_cases h2 : c ≤ 10
    · have h3 : c < 11 := by omega
      refine ⟨rdOf ByteArray.empty l c, by simp [h2, h3], by simp [h2, h3], ?_⟩
      have e : rdOf ByteArray.empty l c = l[c.toNat]'(by omega) := by
        unfold rdOf
        simp [List.getD, (by omega : c.toNat < l.length)]
      rw [e]
      exact hs _ (List.getElem_mem _)
    · exact ⟨⟨#[]⟩, by simp [h2], by simp [h2], by decide⟩
  · have h' : ¬ c ≥ 0 := h
    simp only [if_neg h, if_neg h', Option.bind_some]
    exact ⟨⟨#[]⟩, by simp, by simp, by decide⟩
def nosR : List Int := [2, 3, 4, 7, 11, 37, 38, 39, 41, 49, 54, 102, 103]
def rstep (fo : Int → ByteArray × Bool) (code : Int) (hold told rs ff : ByteArray) (no : Int) : List IF :=
  if no = 38 then (if code = 0 ∧ (hold.toList != ([] : List UInt8)) = true then [⟨38, ff⟩] else [])
  else if no = 39 then [⟨39, rs⟩]
  else if no = 54 then (if (told.toList != ([] : List UInt8)) = true then [⟨54, told⟩] else [])
  else if (fo no).2 = true then [⟨no, (fo no).1⟩] else []
def rlist (fo : Int → ByteArray × Bool) (code : Int) (hold told rs ff : ByteArray) : List Int → List IF
  | [] => []
  | no :: t => rstep fo code hold told rs ff no ++ rlist fo code hold told rs ff t
theorem rlist_snoc (fo : Int → ByteArray × Bool) (code : Int) (hold told rs ff : ByteArray) : ∀ (t : List Int) (no : Int), rlist fo code hold told rs ff (t ++ [no]) = rlist fo code hold told rs ff t ++ rstep fo code hold told rs ff no
  | [], no => by simp [rlist]
  | a :: t, no => by simp [rlist, rlist_snoc fo code hold told rs ff t no]
theorem rstep_len (fo : Int → ByteArray × Bool) (code : Int) (hold told rs ff : ByteArray) (no : Int) : (rstep fo code hold told rs ff no).length ≤ 1 := by
  unfold rstep
  repeat' split
  all_goals simp
theorem rlist_len (fo : Int → ByteArray × Bool) (code : Int) (hold told rs ff : ByteArray) : ∀ (t : List Int), (rlist fo code hold told rs ff t).length ≤ t.length
  | [] => by simp [rlist]
  | a :: t => by
    have := rlist_len fo code hold told rs ff t
    have := rstep_len fo code hold told rs ff a
    simp only [rlist, List.length_append, List.length_cons]
    omega
theorem rlist_next (fo : Int → ByteArray × Bool) (code : Int) (hold told rs ff : ByteArray) (ns : List Int) (x : Int) (h0 : 0 ≤ x) (h1 : x < (ns.length : Int)) (hl : ns.length ≤ 1000) :
    rlist fo code hold told rs ff (ns.take (wrap64 (x + 1)).toNat) = rlist fo code hold told rs ff (ns.take x.toNat) ++ rstep fo code hold told rs ff (rd ns x) := by
  obtain ⟨n, rfl⟩ := Int.eq_ofNat_of_zero_le h0
  have e : wrap64 ((n : Int) + 1) = ((n + 1 : Nat) : Int) := by unfold wrap64; omega
  have hn : n < ns.length := by omega
  rw [e, intNat, intNat, List.take_succ_eq_append_getElem hn, rlist_snoc, rd_nat ns n hn]
theorem rlist_short (fo : Int → ByteArray × Bool) (code : Int) (hold told rs ff : ByteArray) (ns : List Int) (n : Nat) (hl : ns.length = 13) : (rlist fo code hold told rs ff (ns.take n)).length < 1000 := by
  have := rlist_len fo code hold told rs ff (ns.take n)
  rw [List.length_take] at this
  omega
def foOf (l : List IF) (no : Int) : ByteArray × Bool := match l.find? (fun g => decide (g.f0 = no)) with | some f => (f.f1, true) | none => (⟨#[]⟩, false)
def rsT (code : Int) : ByteArray := (impl_RsText.f code).getD ⟨#[]⟩
def mtOf (m : ByteArray) : ByteArray := strOfNums (replyL (bytesOf m))
def rout (l : List IF) (code : Int) (hold told : ByteArray) : List IF := rlist (foOf l) code hold told (rsT code) (fieldFit 38 hold) nosR
def reply (m : ByteArray) (l : List IF) (code : Int) (hold told : ByteArray) : ByteArray × List IF × Bool :=
  if msgOk m l = true ∧ ¬ (mtOf m).toList = ([] : List UInt8) ∧ ¬ (rsT code).toList = ([] : List UInt8) ∧ msgOk (mtOf m) (rout l code hold told) = true then (mtOf m, rout l code hold told, true) else (⟨#[]⟩, [], false)
theorem rsT_at (code : Int) : spec_RsText.f code = some (rsT code) ∧ impl_RsText.f code = some (rsT code) ∧ (rsT code).size ≤ 10 := by
  obtain ⟨t, h1, h2, h3⟩ := rsText_at code
  unfold rsT
  rw [h2, h1]
  exact ⟨rfl, rfl, h3⟩
theorem mtOf_size (m : ByteArray) : (mtOf m).size ≤ 4 := by
  unfold mtOf
  rw [strOfNums_size]
  exact replyL_short _
theorem fin_size (x : Int) (s : ByteArray) : (fin x s).size ≤ s.size := by
  unfold fin
  split
  · exact Nat.le_refl _
  · exact Nat.zero_le _
theorem fieldFit_size (x : Int) (s : ByteArray) : (fieldFit x s).size ≤ s.size + 60 := by
  have h := size_range x
  unfold fieldFit
  split
  · refine Nat.le_trans (fin_size _ _) ?_
    rw [ByteArray.size_append, rep_size]
    omega
  · split
    · refine Nat.le_trans (fin_size _ _) ?_
      rw [ByteArray.size_append, rep_size]
      omega
    · exact Nat.le_trans (fin_size _ _) (by omega)
theorem foOf_size (l : List IF) (B : Nat) (hw : ∀ f ∈ l, f.f1.size ≤ B) (no : Int) : (foOf l no).1.size ≤ B := by
  unfold foOf
  split
  · rename_i f h
    exact hw f (List.mem_of_find?_eq_some h)
  · exact Nat.zero_le _
theorem rlist_mem (fo : Int → ByteArray × Bool) (code : Int) (hold told rs ff : ByteArray) : ∀ (ns : List Int), ∀ f ∈ rlist fo code hold told rs ff ns, f.f0 ∈ ns ∧ (f.f1 = ff ∨ f.f1 = rs ∨ f.f1 = told ∨ ∃ no, f.f1 = (fo no).1)
  | [], f, h => by simp [rlist] at h
  | a :: t, f, h => by
    simp only [rlist, List.mem_append] at h
    rcases h with h | h
    · refine ⟨?_, ?_⟩
      · unfold rstep at h
        split at h
        · rename_i q
          split at h
          · rw [List.mem_singleton.1 h, q]; exact List.mem_cons_self
          · simp at h
        · split at h
          · rename_i q
            rw [List.mem_singleton.1 h, q]; exact List.mem_cons_self
          · split at h
            · rename_i q
              split at h
              · rw [List.mem_singleton.1 h, q]; exact List.mem_cons_self
              · simp at h
            · split at h
              · rw [List.mem_singleton.1 h]; exact List.mem_cons_self
              · simp at h
      · unfold rstep at h
        split at h
        · split at h
          · rw [List.mem_singleton.1 h]; exact .inl rfl
          · simp at h
        · split at h
          · rw [List.mem_singleton.1 h]; exact .inr (.inl rfl)
          · split at h
            · split at h
              · rw [List.mem_singleton.1 h]; exact .inr (.inr (.inl rfl))
              · simp at h
            · split at h
              · rw [List.mem_singleton.1 h]; exact .inr (.inr (.inr ⟨a, rfl⟩))
              · simp at h
    · obtain ⟨h1, h2⟩ := rlist_mem fo code hold told rs ff t f h
      exact ⟨List.mem_cons_of_mem _ h1, h2⟩
theorem rout_size (l : List IF) (code : Int) (hold told : ByteArray) (hw : ∀ f ∈ l, f.f1.size ≤ 10000000) (hh : hold.size ≤ 1050000) (ht : told.size ≤ 10000000) : ∀ f ∈ rout l code hold told, f.f1.size ≤ 10000000 := by
  intro f hf
  have hr := (rsT_at code).2.2
  have hq := fieldFit_size 38 hold
  rcases (rlist_mem _ _ _ _ _ _ _ f hf).2 with h | h | h | ⟨no, h⟩
  · rw [h]; omega
  · rw [h]; omega
  · rw [h]; omega
  · rw [h]; exact foOf_size l _ hw no
theorem rout_len (l : List IF) (code : Int) (hold told : ByteArray) : (rout l code hold told).length ≤ 13 := rlist_len _ _ _ _ _ _ nosR
end Go.Proofs.Ytnnnglbjipiclaa.Q
end
section
namespace Go.Proofs.Ytnnnglbjipiclaa.Q
open Go.RowKit Go.Proofs.YtnnnglbjipiclaaW.PrintWords Go.Proofs.YtnnnglbjipiclaaW.PrintLast Go.Proofs.YtnnnglbjipiclaaW.PrintMore
attribute [local go_sem] max2_int min2_int max_two min_two max_three min_three max_four min_four
set_option linter.unusedVariables false
set_option linter.unusedSimpArgs false
set_option maxHeartbeats 16000000 in
set_option maxRecDepth 100000 in
theorem reply_go (K : Nat) (m : ByteArray) (A : Option Addr) (c : Nat) (l : List IF) (code : Int) (hold told : ByteArray) (mt rs ff : ByteArray) (fo : Int → ByteArray × Bool) (out : List IF) (b : Bool) (w : World)
    (hr0 : Kd.C k45 w A l.length l) (hc0 : l.length ≤ c)
    (hM : impl_MsgOk.f K m l = some true) (hT : impl_ReplyMti.f K m = some mt) (hS : impl_RsText.f code = some rs) (hmt : (mt.toList == ([] : List UInt8)) = false) (hrs : (rs.toList == ([] : List UInt8)) = false)
    (hF : ∀ no, impl_FieldOf.f K m l no = some (fo no)) (hH : impl_FieldFit.f K 38 hold = some ff) (hout : rlist fo code hold told rs ff nosR = out) (hO : impl_MsgOk.f K mt out = some b) :
    Calls Try.prog 7 #[.agg #[.string m, .slice A l.length c], .int .i64 code, .string hold, .string told] w fun e w' => ∃ v : Value, e = .returned (.tuple #[.agg #[.string (if b then mt else ⟨#[]⟩), v], .bool b]) ∧ Kd.R k45 45 w' w.heap.size (fun _ => True) v (if b then out else []) ∧ Below w.heap.size w w' := by
  have hu28 := Try.underlying28
  have hu45 := Try.underlying45
  have HR0 := Aside0.mk hr0
  have HC0 := Aside0.mk hc0
  have HMO := Aside0.mk hM
  have HT := Aside0.mk hT
  have HS := Aside0.mk hS
  have HF := Aside0.mk hF
  have HH := Aside0.mk hH
  have HO := Aside0.mk hO
  have HOUT := Aside0.mk hout
  have HB := Aside0.mk (Below.refl w.heap.size w)
  obtain ⟨ns, hns⟩ : ∃ y_ : List Int, y_ = ([2, 3, 4, 7, 11, 37, 38, 39, 41, 49, 54, 102, 103] : List Int) := ⟨_, rfl⟩
  have HN := Aside0.mk hns
  clear hr0 hc0 hM hT hS hF hH hO hout hns
  go_enter Try.func7, Try.ntmps7
  go_upto_region 5 with (first | ((with_reducible refine gate_dst (N := 4) rfl ?_); refine box_event ?hg (N := 4) ?hd (cs := #[.string m, .slice A l.length c]) (t := 28) ?hr ?_; (case hd => rfl); (case hg => rfl); (case hr => first | (go_simp; done) | (go_simp; rfl)); intro g4 hg w1 hbox hb; have nG_ := Aside0.mk ((by rw [hg]; exact below_size HB.out) : w.heap.size ≤ g4); have nB_ := Aside0.mk (below_step HB.out hb); clear HB; have HB := nB_; clear nB_; have Bg4 := Aside0.mk hbox; have GEg4 := nG_; clear nG_; clear hb hbox hg) | ((with_reducible refine gate_dst (N := 8) rfl ?_); refine box_event ?hg (N := 8) ?hd (cs := #[.string (⟨#[]⟩ : ByteArray), .slice none 0 0]) (t := 28) ?hr ?_; (case hd => rfl); (case hg => rfl); (case hr => first | (go_simp; done) | (go_simp; rfl)); intro g8 hg w2 hbox hb; have nG_ := Aside0.mk ((by rw [hg]; exact below_size HB.out) : w.heap.size ≤ g8); have NBg4_g8 := Aside0.mk ((by rw [hg]; exact Nat.ne_of_lt (blk_lt Bg4.out)) : g4 ≠ g8); have ng4_ := Aside0.mk (blk_below Bg4.out hb); clear Bg4; have Bg4 := ng4_; clear ng4_; have nB_ := Aside0.mk (below_step HB.out hb); clear HB; have HB := nB_; clear nB_; have Bg8 := Aside0.mk hbox; have GEg8 := nG_; clear nG_; clear hb hbox hg; have hcza_0 : w2.cell? ⟨g4, 0, none⟩ = some (.string m) := (blk_cell Bg4.out 0).trans rfl; have hcza_1 : w2.cell? ⟨g4, 1, none⟩ = some (.slice A l.length c) := (blk_cell Bg4.out 1).trans rfl; have hfza_0 := blk_frozen Bg4.out 0; have hfza_1 := blk_frozen Bg4.out 1) | ((with_reducible refine gate_callee (f := 19) rfl ?_); refine goesL_ (some 17) rfl rfl Try.func19 (by kernel_rfl) rfl #[.agg #[.string m, .slice A l.length c]] rfl (by (try simp only [List.map_toArray, List.map_cons, List.map_nil]); first | done | rfl | (simp only [List.length_drop, List.length_take]; rfl)) ?_; (with_reducible refine (impl_MsgOk.calls K m A c l true _ ?side1 ?side2 HMO.out).mono ?_); (case side1 => exact Kd.C_below HR0.out HB.out); (case side2 => exact HC0.out); rintro e w3 ⟨rfl, hb⟩; refine ⟨_, rfl, ?_⟩; have ng4_ := Aside0.mk (blk_below Bg4.out hb); clear Bg4; have Bg4 := ng4_; clear ng4_; have ng8_ := Aside0.mk (blk_below Bg8.out hb); clear Bg8; have Bg8 := ng8_; clear ng8_; have nB_ := Aside0.mk (below_step HB.out hb); clear HB; have HB := nB_; clear nB_; clear hb; have hczb_0 : w3.cell? ⟨g4, 0, none⟩ = some (.string m) := (blk_cell Bg4.out 0).trans rfl; have hczb_1 : w3.cell? ⟨g4, 1, none⟩ = some (.slice A l.length c) := (blk_cell Bg4.out 1).trans rfl; have hfzb_0 := blk_frozen Bg4.out 0; have hfzb_1 := blk_frozen Bg4.out 1) | ((with_reducible refine gate_callee (f := 20) rfl ?_); refine goesL_ (some 33) rfl rfl Try.func20 (by kernel_rfl) rfl #[.string m] rfl (by (try simp only [List.map_toArray, List.map_cons, List.map_nil]); first | done | rfl | (simp only [List.length_drop, List.length_take]; rfl)) ?_; (with_reducible refine (impl_ReplyMti.calls K m mt _ HT.out).mono ?_); rintro e w6 ⟨rfl, hd_⟩; refine ⟨_, rfl, ?_⟩; have hb := hd_.below; have ng4_ := Aside0.mk (blk_below Bg4.out hb); clear Bg4; have Bg4 := ng4_; clear ng4_; have ng8_ := Aside0.mk (blk_below Bg8.out hb); clear Bg8; have Bg8 := ng8_; clear ng8_; have nB_ := Aside0.mk (below_step HB.out hb); clear HB; have HB := nB_; clear nB_; clear hb hd_; have hczf_0 : w6.cell? ⟨g4, 0, none⟩ = some (.string m) := (blk_cell Bg4.out 0).trans rfl; have hczf_1 : w6.cell? ⟨g4, 1, none⟩ = some (.slice A l.length c) := (blk_cell Bg4.out 1).trans rfl; have hfzf_0 := blk_frozen Bg4.out 0; have hfzf_1 := blk_frozen Bg4.out 1) | (go_at_call 20; (with_reducible refine (impl_ReplyMti.calls K m mt _ HT.out).mono ?_); rintro e w4 ⟨rfl, hd_⟩; have hb := hd_.below; have ng4_ := Aside0.mk (blk_below Bg4.out hb); clear Bg4; have Bg4 := ng4_; clear ng4_; have ng8_ := Aside0.mk (blk_below Bg8.out hb); clear Bg8; have Bg8 := ng8_; clear ng8_; have nB_ := Aside0.mk (below_step HB.out hb); clear HB; have HB := nB_; clear nB_; clear hb hd_; have hczc_0 : w4.cell? ⟨g4, 0, none⟩ = some (.string m) := (blk_cell Bg4.out 0).trans rfl; have hczc_1 : w4.cell? ⟨g4, 1, none⟩ = some (.slice A l.length c) := (blk_cell Bg4.out 1).trans rfl; have hfzc_0 := blk_frozen Bg4.out 0; have hfzc_1 := blk_frozen Bg4.out 1) | (go_at_call 21; (with_reducible refine (impl_RsText.calls code rs _ HS.out).mono ?_); rintro e w5 ⟨rfl, hb⟩; have ng4_ := Aside0.mk (blk_below Bg4.out hb); clear Bg4; have Bg4 := ng4_; clear ng4_; have ng8_ := Aside0.mk (blk_below Bg8.out hb); clear Bg8; have Bg8 := ng8_; clear ng8_; have nB_ := Aside0.mk (below_step HB.out hb); clear HB; have HB := nB_; clear nB_; clear hb; have hczd_0 : w5.cell? ⟨g4, 0, none⟩ = some (.string m) := (blk_cell Bg4.out 0).trans rfl; have hczd_1 : w5.cell? ⟨g4, 1, none⟩ = some (.slice A l.length c) := (blk_cell Bg4.out 1).trans rfl; have hfzd_0 := blk_frozen Bg4.out 0; have hfzd_1 := blk_frozen Bg4.out 1; have hcze_0 : w5.cell? ⟨g8, 0, none⟩ = some (.string (⟨#[]⟩ : ByteArray)) := (blk_cell Bg8.out 0).trans rfl; have hcze_1 : w5.cell? ⟨g8, 1, none⟩ = some (.slice none 0 0) := (blk_cell Bg8.out 1).trans rfl; have hfze_0 := blk_frozen Bg8.out 0; have hfze_1 := blk_frozen Bg8.out 1) | ((with_reducible refine gate_dst (N := 10) rfl ?_); refine box_event ?hg (N := 10) ?hd (cs := #[.string (⟨#[]⟩ : ByteArray), .slice none 0 0]) (t := 28) ?hr ?_; (case hd => rfl); (case hg => rfl); (case hr => first | (go_simp; done) | (go_simp; rfl)); intro g10 hg w7 hbox hb; have nG_ := Aside0.mk ((by rw [hg]; exact below_size HB.out) : w.heap.size ≤ g10); have NBg4_g10 := Aside0.mk ((by rw [hg]; exact Nat.ne_of_lt (blk_lt Bg4.out)) : g4 ≠ g10); have ng4_ := Aside0.mk (blk_below Bg4.out hb); clear Bg4; have Bg4 := ng4_; clear ng4_; have NBg8_g10 := Aside0.mk ((by rw [hg]; exact Nat.ne_of_lt (blk_lt Bg8.out)) : g8 ≠ g10); have ng8_ := Aside0.mk (blk_below Bg8.out hb); clear Bg8; have Bg8 := ng8_; clear ng8_; have nB_ := Aside0.mk (below_step HB.out hb); clear HB; have HB := nB_; clear nB_; have Bg10 := Aside0.mk hbox; have GEg10 := nG_; clear nG_; clear hb hbox hg; have hczg_0 : w7.cell? ⟨g10, 0, none⟩ = some (.string (⟨#[]⟩ : ByteArray)) := (blk_cell Bg10.out 0).trans rfl; have hczg_1 : w7.cell? ⟨g10, 1, none⟩ = some (.slice none 0 0) := (blk_cell Bg10.out 1).trans rfl; have hfzg_0 := blk_frozen Bg10.out 0; have hfzg_1 := blk_frozen Bg10.out 1))
  have n4_ := Aside0.mk (blk_far (p := ⟨g10, 1, none⟩) (blk_far (p := ⟨g10, 0, none⟩) Bg4.out NBg4_g10.out (.string mt)) NBg4_g10.out (.slice none 0 0))
  have n8_ := Aside0.mk (blk_far (p := ⟨g10, 1, none⟩) (blk_far (p := ⟨g10, 0, none⟩) Bg8.out NBg8_g10.out (.string mt)) NBg8_g10.out (.slice none 0 0))
  have n10_ := Aside0.mk (blk_put (cs := #[.string mt, .slice none 0 0]) (cs' := #[.string mt, .slice none 0 0]) (blk_put (cs := #[.string (⟨#[]⟩ : ByteArray), .slice none 0 0]) (cs' := #[.string mt, .slice none 0 0]) Bg10.out 0 (.string mt) rfl) 1 (.slice none 0 0) rfl)
  have nB_ : Aside0 (Below w.heap.size w ((w7.setCell ⟨g10, 0, none⟩ (.string mt)).setCell ⟨g10, 1, none⟩ (.slice none 0 0))) := ⟨by refine below_set ?_ GEg10.out; refine below_set ?_ GEg10.out; exact HB.out⟩
  clear Bg4 Bg8 Bg10 HB
  have Bg4 := n4_
  have Bg8 := n8_
  have Bg10 := n10_
  have HB := nB_
  clear n4_ n8_ n10_ nB_ hcza_0 hcza_1 hfza_0 hfza_1 hczb_0 hczb_1 hfzb_0 hfzb_1 hczc_0 hczc_1 hfzc_0 hfzc_1 hczd_0 hczd_1 hfzd_0 hfzd_1 hcze_0 hcze_1 hfze_0 hfze_1 hczf_0 hczf_1 hfzf_0 hfzf_1 hczg_0 hczg_1 hfzg_0 hfzg_1
  generalize (w7.setCell ⟨g10, 0, none⟩ (.string mt)).setCell ⟨g10, 1, none⟩ (.slice none 0 0) = wd at Bg4 Bg8 Bg10 HB ⊢
  go_wp2_with (first | ((with_reducible refine gate_dst (N := 36) rfl ?_); refine Kd.R_lit (Kd.int .i64) _ 3 ?hg (N := 36) ?hd (xs := ([2, 3, 4, 7, 11, 37, 38, 39, 41, 49, 54, 102, 103] : List Int)) (inner := [.int .i64 2, .int .i64 3, .int .i64 4, .int .i64 7, .int .i64 11, .int .i64 37, .int .i64 38, .int .i64 39, .int .i64 41, .int .i64 49, .int .i64 54, .int .i64 102, .int .i64 103]) (ok := fun _ => True) (okp := fun _ => True) ?hr ?hp (fun _ hk => hk) trivial (Below.refl _ _) (Nat.le_refl _) (by simp) ?_; (case hd => rfl); (case hg => rfl); (case hr => first | (go_simp; done) | (go_simp; rfl)); (case hp => exact (Reps.one (show Kd.M (Kd.int .i64) _ _ _ 2 [.int .i64 2] from rfl) (Reps.one (show Kd.M (Kd.int .i64) _ _ _ 3 [.int .i64 3] from rfl) (Reps.one (show Kd.M (Kd.int .i64) _ _ _ 4 [.int .i64 4] from rfl) (Reps.one (show Kd.M (Kd.int .i64) _ _ _ 7 [.int .i64 7] from rfl) (Reps.one (show Kd.M (Kd.int .i64) _ _ _ 11 [.int .i64 11] from rfl) (Reps.one (show Kd.M (Kd.int .i64) _ _ _ 37 [.int .i64 37] from rfl) (Reps.one (show Kd.M (Kd.int .i64) _ _ _ 38 [.int .i64 38] from rfl) (Reps.one (show Kd.M (Kd.int .i64) _ _ _ 39 [.int .i64 39] from rfl) (Reps.one (show Kd.M (Kd.int .i64) _ _ _ 41 [.int .i64 41] from rfl) (Reps.one (show Kd.M (Kd.int .i64) _ _ _ 49 [.int .i64 49] from rfl) (Reps.one (show Kd.M (Kd.int .i64) _ _ _ 54 [.int .i64 54] from rfl) (Reps.one (show Kd.M (Kd.int .i64) _ _ _ 102 [.int .i64 102] from rfl) (Reps.one (show Kd.M (Kd.int .i64) _ _ _ 103 [.int .i64 103] from rfl) (Reps.none _ _))))))))))))))); intro v36 w8 ho hb hg_ hnew_; clear hg_ hnew_; (first | rw [← HN.out] at ho | (simp only [Int.reduceToNat] at ho; rw [← HN.out] at ho)); have HU := Aside0.mk (Kd.R_lower ho (below_size HB.out)); have ng4_ := Aside0.mk (blk_below Bg4.out hb); clear Bg4; have Bg4 := ng4_; clear ng4_; have ng8_ := Aside0.mk (blk_below Bg8.out hb); clear Bg8; have Bg8 := ng8_; clear ng8_; have ng10_ := Aside0.mk (blk_below Bg10.out hb); clear Bg10; have Bg10 := ng10_; clear ng10_; have nB_ := Aside0.mk (below_step HB.out hb); clear HB; have HB := nB_; clear nB_; clear hb ho; obtain ⟨A36, c36, e36⟩ := Kd.R_slice HU.out; subst e36))
  have HL := Aside0.mk (show ns.length = 13 by rw [HN.out]; rfl)
  have HI0 := Aside0.mk (show RInv w w8 m (.slice A l.length c) mt g4 g8 g10 (.slice none 0 0) [] (.slice A36 ns.length c36) ns from ⟨Bg4.out, Bg8.out, Bg10.out, Kd.R_nil _ _ _ _ _, HU.out, HB.out⟩)
  clear Bg4 Bg8 Bg10 HU HB
  go_loopg [38] 13 (fun kq v38 w' => ∃ (x : Int) (v : Value) (XS : List IF), v38 = .int .i64 x ∧ Aside0 (0 ≤ x ∧ x + (kq : Int) = 13) ∧ Aside0 (XS = rlist fo code hold told rs ff (ns.take x.toNat)) ∧ Aside0 (RInv w w' m (.slice A l.length c) mt g4 g8 g10 v XS (.slice A36 ns.length c36) ns))
  case atStart => exact ⟨0, .slice none 0 0, [], (by first | rfl | (simp; done)), ⟨by omega⟩, ⟨rfl⟩, HI0⟩
  case round =>
    clear HI0
    obtain ⟨x, v, XS, rfl, HX, HXS, HI⟩ := hrel
    by_cases c44 : x < (ns.length : Int)
    · cases gk with
      | zero => exact absurd HX.out.2 (by have := HL.out; omega)
      | succ k1 =>
        have c44b0 : decide (x < (ns.length : Int)) = true := decide_eq_true c44
        have x0 : 0 ≤ x := HX.out.1
        obtain ⟨ad, ead, hx⟩ := Kd.at_int (Kd.R_reads' HI.out.hu).2.2 x x0 c44
        cases ead
        have p44 : (0 ≤ x) = True := eq_true x0
        have q44 : (x < (ns.length : Int)) = True := eq_true c44
        have HNX := Aside0.mk (rlist_next fo code hold told rs ff ns x x0 c44 (by have := HL.out; omega))
        have HWX := Aside0.mk (show wrap64 (x + 1) = x + 1 by have := HL.out; unfold wrap64; omega)
        have HSH := Aside0.mk (show XS.length < 1000 by rw [HXS.out]; exact rlist_short fo code hold told rs ff ns _ HL.out)
        rw [← HXS.out] at HNX
        clear x0 c44
        generalize rd ns x = no at hx HNX
        obtain ⟨s, ok, hfo⟩ : ∃ s ok, fo no = (s, ok) := ⟨_, _, rfl⟩
        have HFn := Aside0.mk (show impl_FieldOf.f K m l no = some (s, ok) by rw [← hfo]; exact HF.out no)
        have HFO := Aside0.mk hfo
        clear hfo
        have hcza_0 : wr.cell? ⟨g4, 0, none⟩ = some (.string m) := (blk_cell HI.out.b4 0).trans rfl
        have hcza_1 : wr.cell? ⟨g4, 1, none⟩ = some (.slice A l.length c) := (blk_cell HI.out.b4 1).trans rfl
        have hfza_0 := blk_frozen HI.out.b4 0
        have hfza_1 := blk_frozen HI.out.b4 1
        by_cases c1 : no = 38
        · by_cases c2 : code = 0
          · by_cases c3 : hold.toList = ([] : List UInt8)
            · skip
              have c1b0 : (no == 38) = true := beq_iff_eq.mpr c1
              have c1b1 : (no != 38) = false := bne_eq_false_iff_eq.mpr c1
              have c2b0 : (code == 0) = true := beq_iff_eq.mpr c2
              have c2b1 : (code != 0) = false := bne_eq_false_iff_eq.mpr c2
              have c3b0 : (hold.toList == ([] : List UInt8)) = true := beq_iff_eq.mpr c3
              have c3b1 : (hold.toList != ([] : List UInt8)) = false := bne_eq_false_iff_eq.mpr c3
              have HST := Aside0.mk (show rstep fo code hold told rs ff no = [] by unfold rstep; rw [if_pos c1, if_neg (by simp [c3])])
              rw [HST.out, List.append_nil] at HNX
              clear HST c1 c2 c3
              go_wp2_with (first | ((with_reducible refine gate_callee (f := 23) rfl ?_); refine goesL_ (some 45) rfl rfl Try.func23 (by kernel_rfl) rfl #[.agg #[.string m, .slice A l.length c], .int .i64 no] rfl (by (try simp only [List.map_toArray, List.map_cons, List.map_nil]); first | done | rfl | (simp only [List.length_drop, List.length_take]; rfl)) ?_; (with_reducible refine (impl_FieldOf.calls K m A c l no s ok _ ?side1 ?side2 HFn.out).mono ?_); (case side1 => exact Kd.C_below HR0.out HI.out.bel); (case side2 => exact HC0.out); rintro e w9 ⟨rfl, hb⟩; refine ⟨_, rfl, ?_⟩; have nI_ := Aside0.mk (HI.out.below hb); clear HI; have HI := nI_; clear nI_ hb))
              go_roundg k1
              case measure => exact Nat.lt_succ_self _
              case rel => exact ⟨wrap64 (x + 1), v, XS, (by first | rfl | (simp; done) | (simp [*]; done)), ⟨by have := HX.out; have := HWX.out; omega⟩, ⟨HNX.out.symm⟩, HI⟩
            · skip
              have c1b0 : (no == 38) = true := beq_iff_eq.mpr c1
              have c1b1 : (no != 38) = false := bne_eq_false_iff_eq.mpr c1
              have c2b0 : (code == 0) = true := beq_iff_eq.mpr c2
              have c2b1 : (code != 0) = false := bne_eq_false_iff_eq.mpr c2
              have c3b0 : (hold.toList == ([] : List UInt8)) = false := beq_eq_false_iff_ne.mpr c3
              have c3b1 : (hold.toList != ([] : List UInt8)) = true := bne_iff_ne.mpr c3
              have HST := Aside0.mk (show rstep fo code hold told rs ff no = [(⟨38, ff⟩ : IF)] by unfold rstep; rw [if_pos c1, if_pos ⟨c2, bne_iff_ne.mpr c3⟩])
              rw [HST.out] at HNX
              clear HST c1 c2 c3
              go_wp2_with (first | ((with_reducible refine gate_callee (f := 23) rfl ?_); refine goesL_ (some 45) rfl rfl Try.func23 (by kernel_rfl) rfl #[.agg #[.string m, .slice A l.length c], .int .i64 no] rfl (by (try simp only [List.map_toArray, List.map_cons, List.map_nil]); first | done | rfl | (simp only [List.length_drop, List.length_take]; rfl)) ?_; (with_reducible refine (impl_FieldOf.calls K m A c l no s ok _ ?side1 ?side2 HFn.out).mono ?_); (case side1 => exact Kd.C_below HR0.out HI.out.bel); (case side2 => exact HC0.out); rintro e w9 ⟨rfl, hb⟩; refine ⟨_, rfl, ?_⟩; have nI_ := Aside0.mk (HI.out.below hb); clear HI; have HI := nI_; clear nI_ hb) | ((with_reducible refine gate_callee (f := 24) rfl ?_); refine goesL_ (some 59) rfl rfl Try.func24 (by kernel_rfl) rfl #[.int .i64 38, .string hold] rfl (by (try simp only [List.map_toArray, List.map_cons, List.map_nil]); first | done | rfl | (simp only [List.length_drop, List.length_take]; rfl)) ?_; (with_reducible refine (impl_FieldFit.calls K 38 hold ff _ HH.out).mono ?_); rintro e w10 ⟨rfl, hb⟩; refine ⟨_, rfl, ?_⟩; have nI_ := Aside0.mk (HI.out.below hb); clear HI; have HI := nI_; clear nI_ hb) | (go_at_call 22; (with_reducible refine (put_calls w _ m (.slice A l.length c) mt g4 g8 g10 v XS (.slice (some ad) ns.length c36) ns 38 ff HI.out NBg4_g10.out NBg8_g10.out GEg10.out HSH.out).mono ?_); rintro e w11 ⟨rfl, v1, hI1⟩; have HI1 := Aside0.mk hI1; clear hI1))
              go_roundg k1
              case measure => exact Nat.lt_succ_self _
              case rel => exact ⟨wrap64 (x + 1), v1, XS ++ [(⟨38, ff⟩ : IF)], (by first | rfl | (simp; done) | (simp [*]; done)), ⟨by have := HX.out; have := HWX.out; omega⟩, ⟨HNX.out.symm⟩, HI1⟩
          · skip
            have c1b0 : (no == 38) = true := beq_iff_eq.mpr c1
            have c1b1 : (no != 38) = false := bne_eq_false_iff_eq.mpr c1
            have c2b0 : (code == 0) = false := beq_eq_false_iff_ne.mpr c2
            have c2b1 : (code != 0) = true := bne_iff_ne.mpr c2
            have HST := Aside0.mk (show rstep fo code hold told rs ff no = [] by unfold rstep; rw [if_pos c1, if_neg (fun h => c2 h.1)])
            rw [HST.out, List.append_nil] at HNX
            clear HST c1 c2
            go_wp2_with (first | ((with_reducible refine gate_callee (f := 23) rfl ?_); refine goesL_ (some 45) rfl rfl Try.func23 (by kernel_rfl) rfl #[.agg #[.string m, .slice A l.length c], .int .i64 no] rfl (by (try simp only [List.map_toArray, List.map_cons, List.map_nil]); first | done | rfl | (simp only [List.length_drop, List.length_take]; rfl)) ?_; (with_reducible refine (impl_FieldOf.calls K m A c l no s ok _ ?side1 ?side2 HFn.out).mono ?_); (case side1 => exact Kd.C_below HR0.out HI.out.bel); (case side2 => exact HC0.out); rintro e w9 ⟨rfl, hb⟩; refine ⟨_, rfl, ?_⟩; have nI_ := Aside0.mk (HI.out.below hb); clear HI; have HI := nI_; clear nI_ hb))
            go_roundg k1
            case measure => exact Nat.lt_succ_self _
            case rel => exact ⟨wrap64 (x + 1), v, XS, (by first | rfl | (simp; done) | (simp [*]; done)), ⟨by have := HX.out; have := HWX.out; omega⟩, ⟨HNX.out.symm⟩, HI⟩
        · by_cases c2 : no = 39
          · skip
            have c1b0 : (no == 38) = false := beq_eq_false_iff_ne.mpr c1
            have c1b1 : (no != 38) = true := bne_iff_ne.mpr c1
            have c2b0 : (no == 39) = true := beq_iff_eq.mpr c2
            have c2b1 : (no != 39) = false := bne_eq_false_iff_eq.mpr c2
            have HST := Aside0.mk (show rstep fo code hold told rs ff no = [(⟨39, rs⟩ : IF)] by unfold rstep; rw [if_neg c1, if_pos c2])
            rw [HST.out] at HNX
            clear HST c1 c2
            go_wp2_with (first | ((with_reducible refine gate_callee (f := 23) rfl ?_); refine goesL_ (some 45) rfl rfl Try.func23 (by kernel_rfl) rfl #[.agg #[.string m, .slice A l.length c], .int .i64 no] rfl (by (try simp only [List.map_toArray, List.map_cons, List.map_nil]); first | done | rfl | (simp only [List.length_drop, List.length_take]; rfl)) ?_; (with_reducible refine (impl_FieldOf.calls K m A c l no s ok _ ?side1 ?side2 HFn.out).mono ?_); (case side1 => exact Kd.C_below HR0.out HI.out.bel); (case side2 => exact HC0.out); rintro e w9 ⟨rfl, hb⟩; refine ⟨_, rfl, ?_⟩; have nI_ := Aside0.mk (HI.out.below hb); clear HI; have HI := nI_; clear nI_ hb) | ((with_reducible refine gate_callee (f := 21) rfl ?_); refine goesL_ (some 66) rfl rfl Try.func21 (by kernel_rfl) rfl #[.int .i64 code] rfl (by (try simp only [List.map_toArray, List.map_cons, List.map_nil]); first | done | rfl | (simp only [List.length_drop, List.length_take]; rfl)) ?_; (with_reducible refine (impl_RsText.calls code rs _ HS.out).mono ?_); rintro e w10 ⟨rfl, hb⟩; refine ⟨_, rfl, ?_⟩; have nI_ := Aside0.mk (HI.out.below hb); clear HI; have HI := nI_; clear nI_ hb) | (go_at_call 22; (with_reducible refine (put_calls w _ m (.slice A l.length c) mt g4 g8 g10 v XS (.slice (some ad) ns.length c36) ns 39 rs HI.out NBg4_g10.out NBg8_g10.out GEg10.out HSH.out).mono ?_); rintro e w11 ⟨rfl, v1, hI1⟩; have HI1 := Aside0.mk hI1; clear hI1))
            go_roundg k1
            case measure => exact Nat.lt_succ_self _
            case rel => exact ⟨wrap64 (x + 1), v1, XS ++ [(⟨39, rs⟩ : IF)], (by first | rfl | (simp; done) | (simp [*]; done)), ⟨by have := HX.out; have := HWX.out; omega⟩, ⟨HNX.out.symm⟩, HI1⟩
          · by_cases c3 : no = 54
            · by_cases c4 : told.toList = ([] : List UInt8)
              · skip
                have c1b0 : (no == 38) = false := beq_eq_false_iff_ne.mpr c1
                have c1b1 : (no != 38) = true := bne_iff_ne.mpr c1
                have c2b0 : (no == 39) = false := beq_eq_false_iff_ne.mpr c2
                have c2b1 : (no != 39) = true := bne_iff_ne.mpr c2
                have c3b0 : (no == 54) = true := beq_iff_eq.mpr c3
                have c3b1 : (no != 54) = false := bne_eq_false_iff_eq.mpr c3
                have c4b0 : (told.toList == ([] : List UInt8)) = true := beq_iff_eq.mpr c4
                have c4b1 : (told.toList != ([] : List UInt8)) = false := bne_eq_false_iff_eq.mpr c4
                have HST := Aside0.mk (show rstep fo code hold told rs ff no = [] by unfold rstep; rw [if_neg c1, if_neg c2, if_pos c3, if_neg (by simp [c4])])
                rw [HST.out, List.append_nil] at HNX
                clear HST c1 c2 c3 c4
                go_wp2_with (first | ((with_reducible refine gate_callee (f := 23) rfl ?_); refine goesL_ (some 45) rfl rfl Try.func23 (by kernel_rfl) rfl #[.agg #[.string m, .slice A l.length c], .int .i64 no] rfl (by (try simp only [List.map_toArray, List.map_cons, List.map_nil]); first | done | rfl | (simp only [List.length_drop, List.length_take]; rfl)) ?_; (with_reducible refine (impl_FieldOf.calls K m A c l no s ok _ ?side1 ?side2 HFn.out).mono ?_); (case side1 => exact Kd.C_below HR0.out HI.out.bel); (case side2 => exact HC0.out); rintro e w9 ⟨rfl, hb⟩; refine ⟨_, rfl, ?_⟩; have nI_ := Aside0.mk (HI.out.below hb); clear HI; have HI := nI_; clear nI_ hb))
                go_roundg k1
                case measure => exact Nat.lt_succ_self _
                case rel => exact ⟨wrap64 (x + 1), v, XS, (by first | rfl | (simp; done) | (simp [*]; done)), ⟨by have := HX.out; have := HWX.out; omega⟩, ⟨HNX.out.symm⟩, HI⟩
              · skip
                have c1b0 : (no == 38) = false := beq_eq_false_iff_ne.mpr c1
                have c1b1 : (no != 38) = true := bne_iff_ne.mpr c1
                have c2b0 : (no == 39) = false := beq_eq_false_iff_ne.mpr c2
                have c2b1 : (no != 39) = true := bne_iff_ne.mpr c2
                have c3b0 : (no == 54) = true := beq_iff_eq.mpr c3
                have c3b1 : (no != 54) = false := bne_eq_false_iff_eq.mpr c3
                have c4b0 : (told.toList == ([] : List UInt8)) = false := beq_eq_false_iff_ne.mpr c4
                have c4b1 : (told.toList != ([] : List UInt8)) = true := bne_iff_ne.mpr c4
                have HST := Aside0.mk (show rstep fo code hold told rs ff no = [(⟨54, told⟩ : IF)] by unfold rstep; rw [if_neg c1, if_neg c2, if_pos c3, if_pos (bne_iff_ne.mpr c4)])
                rw [HST.out] at HNX
                clear HST c1 c2 c3 c4
                go_wp2_with (first | ((with_reducible refine gate_callee (f := 23) rfl ?_); refine goesL_ (some 45) rfl rfl Try.func23 (by kernel_rfl) rfl #[.agg #[.string m, .slice A l.length c], .int .i64 no] rfl (by (try simp only [List.map_toArray, List.map_cons, List.map_nil]); first | done | rfl | (simp only [List.length_drop, List.length_take]; rfl)) ?_; (with_reducible refine (impl_FieldOf.calls K m A c l no s ok _ ?side1 ?side2 HFn.out).mono ?_); (case side1 => exact Kd.C_below HR0.out HI.out.bel); (case side2 => exact HC0.out); rintro e w9 ⟨rfl, hb⟩; refine ⟨_, rfl, ?_⟩; have nI_ := Aside0.mk (HI.out.below hb); clear HI; have HI := nI_; clear nI_ hb) | (go_at_call 22; (with_reducible refine (put_calls w _ m (.slice A l.length c) mt g4 g8 g10 v XS (.slice (some ad) ns.length c36) ns 54 told HI.out NBg4_g10.out NBg8_g10.out GEg10.out HSH.out).mono ?_); rintro e w11 ⟨rfl, v1, hI1⟩; have HI1 := Aside0.mk hI1; clear hI1))
                go_roundg k1
                case measure => exact Nat.lt_succ_self _
                case rel => exact ⟨wrap64 (x + 1), v1, XS ++ [(⟨54, told⟩ : IF)], (by first | rfl | (simp; done) | (simp [*]; done)), ⟨by have := HX.out; have := HWX.out; omega⟩, ⟨HNX.out.symm⟩, HI1⟩
            · cases ok with
              | true =>
                have c1b0 : (no == 38) = false := beq_eq_false_iff_ne.mpr c1
                have c1b1 : (no != 38) = true := bne_iff_ne.mpr c1
                have c2b0 : (no == 39) = false := beq_eq_false_iff_ne.mpr c2
                have c2b1 : (no != 39) = true := bne_iff_ne.mpr c2
                have c3b0 : (no == 54) = false := beq_eq_false_iff_ne.mpr c3
                have c3b1 : (no != 54) = true := bne_iff_ne.mpr c3
                have HST := Aside0.mk (show rstep fo code hold told rs ff no = [(⟨no, s⟩ : IF)] by unfold rstep; rw [if_neg c1, if_neg c2, if_neg c3, HFO.out, if_pos rfl])
                rw [HST.out] at HNX
                clear HST c1 c2 c3
                go_wp2_with (first | ((with_reducible refine gate_callee (f := 23) rfl ?_); refine goesL_ (some 45) rfl rfl Try.func23 (by kernel_rfl) rfl #[.agg #[.string m, .slice A l.length c], .int .i64 no] rfl (by (try simp only [List.map_toArray, List.map_cons, List.map_nil]); first | done | rfl | (simp only [List.length_drop, List.length_take]; rfl)) ?_; (with_reducible refine (impl_FieldOf.calls K m A c l no s true _ ?side1 ?side2 HFn.out).mono ?_); (case side1 => exact Kd.C_below HR0.out HI.out.bel); (case side2 => exact HC0.out); rintro e w9 ⟨rfl, hb⟩; refine ⟨_, rfl, ?_⟩; have nI_ := Aside0.mk (HI.out.below hb); clear HI; have HI := nI_; clear nI_ hb) | (go_at_call 22; (with_reducible refine (put_calls w _ m (.slice A l.length c) mt g4 g8 g10 v XS (.slice (some ad) ns.length c36) ns no s HI.out NBg4_g10.out NBg8_g10.out GEg10.out HSH.out).mono ?_); rintro e w11 ⟨rfl, v1, hI1⟩; have HI1 := Aside0.mk hI1; clear hI1))
                go_roundg k1
                case measure => exact Nat.lt_succ_self _
                case rel => exact ⟨wrap64 (x + 1), v1, XS ++ [(⟨no, s⟩ : IF)], (by first | rfl | (simp; done) | (simp [*]; done)), ⟨by have := HX.out; have := HWX.out; omega⟩, ⟨HNX.out.symm⟩, HI1⟩
              | false =>
                have c1b0 : (no == 38) = false := beq_eq_false_iff_ne.mpr c1
                have c1b1 : (no != 38) = true := bne_iff_ne.mpr c1
                have c2b0 : (no == 39) = false := beq_eq_false_iff_ne.mpr c2
                have c2b1 : (no != 39) = true := bne_iff_ne.mpr c2
                have c3b0 : (no == 54) = false := beq_eq_false_iff_ne.mpr c3
                have c3b1 : (no != 54) = true := bne_iff_ne.mpr c3
                have HST := Aside0.mk (show rstep fo code hold told rs ff no = [] by unfold rstep; rw [if_neg c1, if_neg c2, if_neg c3, HFO.out, if_neg (by simp)])
                rw [HST.out, List.append_nil] at HNX
                clear HST c1 c2 c3
                go_wp2_with (first | ((with_reducible refine gate_callee (f := 23) rfl ?_); refine goesL_ (some 45) rfl rfl Try.func23 (by kernel_rfl) rfl #[.agg #[.string m, .slice A l.length c], .int .i64 no] rfl (by (try simp only [List.map_toArray, List.map_cons, List.map_nil]); first | done | rfl | (simp only [List.length_drop, List.length_take]; rfl)) ?_; (with_reducible refine (impl_FieldOf.calls K m A c l no s false _ ?side1 ?side2 HFn.out).mono ?_); (case side1 => exact Kd.C_below HR0.out HI.out.bel); (case side2 => exact HC0.out); rintro e w9 ⟨rfl, hb⟩; refine ⟨_, rfl, ?_⟩; have nI_ := Aside0.mk (HI.out.below hb); clear HI; have HI := nI_; clear nI_ hb))
                go_roundg k1
                case measure => exact Nat.lt_succ_self _
                case rel => exact ⟨wrap64 (x + 1), v, XS, (by first | rfl | (simp; done) | (simp [*]; done)), ⟨by have := HX.out; have := HWX.out; omega⟩, ⟨HNX.out.symm⟩, HI⟩
    · have c44b0 : decide (x < (ns.length : Int)) = false := decide_eq_false c44
      have HXO : Aside0 (XS = out) := ⟨by
        have h1 := HX.out
        have h2 := HL.out
        have h3 : x.toNat = ns.length := by omega
        rw [HXS.out, h3, List.take_length, ← HOUT.out, HN.out]
        rfl⟩
      clear c44
      obtain ⟨Ao, co, eo⟩ := Kd.R_slice HI.out.hv
      subst eo
      have hcza_0 : wr.cell? ⟨g10, 0, none⟩ = some (.string mt) := (blk_cell HI.out.b10 0).trans rfl
      have hcza_1 : wr.cell? ⟨g10, 1, none⟩ = some (.slice Ao XS.length co) := (blk_cell HI.out.b10 1).trans rfl
      have hfza_0 := blk_frozen HI.out.b10 0
      have hfza_1 := blk_frozen HI.out.b10 1
      have HMX := Aside0.mk (show impl_MsgOk.f K mt XS = some b by rw [HXO.out]; exact HO.out)
      cases b with
      | true =>
        go_wp2_with (first | ((with_reducible refine gate_callee (f := 19) rfl ?_); refine goesL_ (some 84) rfl rfl Try.func19 (by kernel_rfl) rfl #[.agg #[.string mt, .slice Ao XS.length co]] rfl (by (try simp only [List.map_toArray, List.map_cons, List.map_nil]); first | done | rfl | (simp only [List.length_drop, List.length_take]; rfl)) ?_; (with_reducible refine (impl_MsgOk.calls K mt Ao co XS true _ ?side1 ?side2 HMX.out).mono ?_); (case side1 => exact (Kd.R_reads' HI.out.hv).2.2); (case side2 => exact (Kd.R_reads' HI.out.hv).2.1); rintro e w12 ⟨rfl, hb⟩; refine ⟨_, rfl, ?_⟩; have nI_ := Aside0.mk (HI.out.below hb); clear HI; have HI := nI_; clear nI_ hb; have hczb_0 : w12.cell? ⟨g10, 0, none⟩ = some (.string mt) := (blk_cell HI.out.b10 0).trans rfl; have hczb_1 : w12.cell? ⟨g10, 1, none⟩ = some (.slice Ao XS.length co) := (blk_cell HI.out.b10 1).trans rfl; have hfzb_0 := blk_frozen HI.out.b10 0; have hfzb_1 := blk_frozen HI.out.b10 1; have hczc_0 : w12.cell? ⟨g8, 0, none⟩ = some (.string (⟨#[]⟩ : ByteArray)) := (blk_cell HI.out.b8 0).trans rfl; have hczc_1 : w12.cell? ⟨g8, 1, none⟩ = some (.slice none 0 0) := (blk_cell HI.out.b8 1).trans rfl; have hfzc_0 := blk_frozen HI.out.b8 0; have hfzc_1 := blk_frozen HI.out.b8 1))
        refine bodyPost_ret (results_ct rfl _ _ g8 28 #[.string mt, .slice Ao XS.length co] (0, 0) _ rfl (by (with_reducible repeat (first | refine blk_drewN ?_ _ | refine blk_drew ?_ | refine blk_alloc ?_ _)); refine blk_put (cs := #[.string mt, .slice none 0 0]) ?_ 1 _ rfl; (with_reducible repeat (first | refine blk_drewN ?_ _ | refine blk_drew ?_ | refine blk_alloc ?_ _)); refine blk_put (cs := #[.string (⟨#[]⟩ : ByteArray), .slice none 0 0]) ?_ 0 _ rfl; (with_reducible repeat (first | refine blk_drewN ?_ _ | refine blk_drew ?_ | refine blk_alloc ?_ _)); exact HI.out.b8) Try.underlying28 rfl (by kernel_rfl)) rfl ?_
        refine ⟨.slice Ao XS.length co, by first | rfl | (simp; done), ?_, ?_⟩
        · rw [← HXO.out]
          exact Kd.R_mono (Kd.R_far (p := ⟨g8, 1, none⟩) (Kd.R_far (p := ⟨g8, 0, none⟩) (Kd.R_types HI.out.hv HI.out.b8 (by decide)) (fun _ hk => hk.2) (.string mt)) (fun _ hk => hk.2) (.slice Ao XS.length co)) (fun _ hk => trivial)
        · refine below_set ?_ GEg8.out
          refine below_set ?_ GEg8.out
          exact HI.out.bel
      | false =>
        go_wp2_with (first | ((with_reducible refine gate_callee (f := 19) rfl ?_); refine goesL_ (some 84) rfl rfl Try.func19 (by kernel_rfl) rfl #[.agg #[.string mt, .slice Ao XS.length co]] rfl (by (try simp only [List.map_toArray, List.map_cons, List.map_nil]); first | done | rfl | (simp only [List.length_drop, List.length_take]; rfl)) ?_; (with_reducible refine (impl_MsgOk.calls K mt Ao co XS false _ ?side1 ?side2 HMX.out).mono ?_); (case side1 => exact (Kd.R_reads' HI.out.hv).2.2); (case side2 => exact (Kd.R_reads' HI.out.hv).2.1); rintro e w12 ⟨rfl, hb⟩; refine ⟨_, rfl, ?_⟩; have nI_ := Aside0.mk (HI.out.below hb); clear HI; have HI := nI_; clear nI_ hb; have hczb_0 : w12.cell? ⟨g10, 0, none⟩ = some (.string mt) := (blk_cell HI.out.b10 0).trans rfl; have hczb_1 : w12.cell? ⟨g10, 1, none⟩ = some (.slice Ao XS.length co) := (blk_cell HI.out.b10 1).trans rfl; have hfzb_0 := blk_frozen HI.out.b10 0; have hfzb_1 := blk_frozen HI.out.b10 1; have hczc_0 : w12.cell? ⟨g8, 0, none⟩ = some (.string (⟨#[]⟩ : ByteArray)) := (blk_cell HI.out.b8 0).trans rfl; have hczc_1 : w12.cell? ⟨g8, 1, none⟩ = some (.slice none 0 0) := (blk_cell HI.out.b8 1).trans rfl; have hfzc_0 := blk_frozen HI.out.b8 0; have hfzc_1 := blk_frozen HI.out.b8 1))
        refine bodyPost_ret (results_ct rfl _ _ g8 28 #[.string (⟨#[]⟩ : ByteArray), .slice none 0 0] (0, 0) _ rfl (by (with_reducible repeat (first | refine blk_drewN ?_ _ | refine blk_drew ?_ | refine blk_alloc ?_ _)); refine blk_put (cs := #[.string (⟨#[]⟩ : ByteArray), .slice none 0 0]) ?_ 1 _ rfl; (with_reducible repeat (first | refine blk_drewN ?_ _ | refine blk_drew ?_ | refine blk_alloc ?_ _)); refine blk_put (cs := #[.string (⟨#[]⟩ : ByteArray), .slice none 0 0]) ?_ 0 _ rfl; (with_reducible repeat (first | refine blk_drewN ?_ _ | refine blk_drew ?_ | refine blk_alloc ?_ _)); exact HI.out.b8) Try.underlying28 rfl (by kernel_rfl)) rfl ?_
        refine ⟨.slice none 0 0, by first | rfl | (simp; done), Kd.R_nil _ _ _ _ _, ?_⟩
        refine below_set ?_ GEg8.out
        refine below_set ?_ GEg8.out
        exact HI.out.bel
set_option maxHeartbeats 16000000 in
set_option maxRecDepth 100000 in
theorem reply_no0 (K : Nat) (m : ByteArray) (A : Option Addr) (c : Nat) (l : List IF) (code : Int) (hold told : ByteArray) (mt rs : ByteArray) (w : World)
    (hr0 : Kd.C k45 w A l.length l) (hc0 : l.length ≤ c)
    (hM : impl_MsgOk.f K m l = some false) (hT : impl_ReplyMti.f K m = some mt) (hS : impl_RsText.f code = some rs) (hmt : True) (hrs : True) :
    Calls Try.prog 7 #[.agg #[.string m, .slice A l.length c], .int .i64 code, .string hold, .string told] w fun e w' => ∃ v : Value, e = .returned (.tuple #[.agg #[.string (⟨#[]⟩ : ByteArray), v], .bool false]) ∧ Kd.R k45 45 w' w.heap.size (fun _ => True) v [] ∧ Below w.heap.size w w' := by
  have hu28 := Try.underlying28
  have HR0 := Aside0.mk hr0
  have HC0 := Aside0.mk hc0
  have HMO := Aside0.mk hM
  have HT := Aside0.mk hT
  have HS := Aside0.mk hS
  have HB := Aside0.mk (Below.refl w.heap.size w)
  clear hr0 hc0 hM hT hS
  go_enter Try.func7, Try.ntmps7
  go_wp2_with (first | ((with_reducible refine gate_dst (N := 4) rfl ?_); refine box_event ?hg (N := 4) ?hd (cs := #[.string m, .slice A l.length c]) (t := 28) ?hr ?_; (case hd => rfl); (case hg => rfl); (case hr => first | (go_simp; done) | (go_simp; rfl)); intro g4 hg w1 hbox hb; have nG_ := Aside0.mk ((by rw [hg]; exact below_size HB.out) : w.heap.size ≤ g4); have nB_ := Aside0.mk (below_step HB.out hb); clear HB; have HB := nB_; clear nB_; have Bg4 := Aside0.mk hbox; have GEg4 := nG_; clear nG_; clear hb hbox hg) | ((with_reducible refine gate_dst (N := 8) rfl ?_); refine box_event ?hg (N := 8) ?hd (cs := #[.string (⟨#[]⟩ : ByteArray), .slice none 0 0]) (t := 28) ?hr ?_; (case hd => rfl); (case hg => rfl); (case hr => first | (go_simp; done) | (go_simp; rfl)); intro g8 hg w2 hbox hb; have nG_ := Aside0.mk ((by rw [hg]; exact below_size HB.out) : w.heap.size ≤ g8); have NBg4_g8 := Aside0.mk ((by rw [hg]; exact Nat.ne_of_lt (blk_lt Bg4.out)) : g4 ≠ g8); have ng4_ := Aside0.mk (blk_below Bg4.out hb); clear Bg4; have Bg4 := ng4_; clear ng4_; have nB_ := Aside0.mk (below_step HB.out hb); clear HB; have HB := nB_; clear nB_; have Bg8 := Aside0.mk hbox; have GEg8 := nG_; clear nG_; clear hb hbox hg; have hcza_0 : w2.cell? ⟨g4, 0, none⟩ = some (.string m) := (blk_cell Bg4.out 0).trans rfl; have hcza_1 : w2.cell? ⟨g4, 1, none⟩ = some (.slice A l.length c) := (blk_cell Bg4.out 1).trans rfl; have hfza_0 := blk_frozen Bg4.out 0; have hfza_1 := blk_frozen Bg4.out 1) | ((with_reducible refine gate_callee (f := 19) rfl ?_); refine goesL_ (some 17) rfl rfl Try.func19 (by kernel_rfl) rfl #[.agg #[.string m, .slice A l.length c]] rfl (by (try simp only [List.map_toArray, List.map_cons, List.map_nil]); first | done | rfl | (simp only [List.length_drop, List.length_take]; rfl)) ?_; (with_reducible refine (impl_MsgOk.calls K m A c l false _ ?side1 ?side2 HMO.out).mono ?_); (case side1 => exact Kd.C_below HR0.out HB.out); (case side2 => exact HC0.out); rintro e w3 ⟨rfl, hb⟩; refine ⟨_, rfl, ?_⟩; have ng4_ := Aside0.mk (blk_below Bg4.out hb); clear Bg4; have Bg4 := ng4_; clear ng4_; have ng8_ := Aside0.mk (blk_below Bg8.out hb); clear Bg8; have Bg8 := ng8_; clear ng8_; have nB_ := Aside0.mk (below_step HB.out hb); clear HB; have HB := nB_; clear nB_; clear hb; have hczb_0 : w3.cell? ⟨g4, 0, none⟩ = some (.string m) := (blk_cell Bg4.out 0).trans rfl; have hczb_1 : w3.cell? ⟨g4, 1, none⟩ = some (.slice A l.length c) := (blk_cell Bg4.out 1).trans rfl; have hfzb_0 := blk_frozen Bg4.out 0; have hfzb_1 := blk_frozen Bg4.out 1; have hcze_0 : w3.cell? ⟨g8, 0, none⟩ = some (.string (⟨#[]⟩ : ByteArray)) := (blk_cell Bg8.out 0).trans rfl; have hcze_1 : w3.cell? ⟨g8, 1, none⟩ = some (.slice none 0 0) := (blk_cell Bg8.out 1).trans rfl; have hfze_0 := blk_frozen Bg8.out 0; have hfze_1 := blk_frozen Bg8.out 1))
  refine bodyPost_ret (results_ct rfl _ _ g8 28 #[.string (⟨#[]⟩ : ByteArray), .slice none 0 0] (0, 0) _ rfl (by (with_reducible repeat (first | refine blk_drewN ?_ _ | refine blk_drew ?_ | refine blk_alloc ?_ _)); refine blk_put (cs := #[.string (⟨#[]⟩ : ByteArray), .slice none 0 0]) ?_ 1 _ rfl; (with_reducible repeat (first | refine blk_drewN ?_ _ | refine blk_drew ?_ | refine blk_alloc ?_ _)); refine blk_put (cs := #[.string (⟨#[]⟩ : ByteArray), .slice none 0 0]) ?_ 0 _ rfl; (with_reducible repeat (first | refine blk_drewN ?_ _ | refine blk_drew ?_ | refine blk_alloc ?_ _)); exact Bg8.out) Try.underlying28 rfl (by kernel_rfl)) rfl ?_
  refine ⟨.slice none 0 0, by first | rfl | (simp; done), Kd.R_nil _ _ _ _ _, ?_⟩
  refine below_set ?_ GEg8.out
  refine below_set ?_ GEg8.out
  exact HB.out
set_option maxHeartbeats 16000000 in
set_option maxRecDepth 100000 in
theorem reply_no1 (K : Nat) (m : ByteArray) (A : Option Addr) (c : Nat) (l : List IF) (code : Int) (hold told : ByteArray) (mt rs : ByteArray) (w : World)
    (hr0 : Kd.C k45 w A l.length l) (hc0 : l.length ≤ c)
    (hM : impl_MsgOk.f K m l = some true) (hT : impl_ReplyMti.f K m = some mt) (hS : impl_RsText.f code = some rs) (hmt : (mt.toList == ([] : List UInt8)) = true) (hrs : True) :
    Calls Try.prog 7 #[.agg #[.string m, .slice A l.length c], .int .i64 code, .string hold, .string told] w fun e w' => ∃ v : Value, e = .returned (.tuple #[.agg #[.string (⟨#[]⟩ : ByteArray), v], .bool false]) ∧ Kd.R k45 45 w' w.heap.size (fun _ => True) v [] ∧ Below w.heap.size w w' := by
  have hu28 := Try.underlying28
  have HR0 := Aside0.mk hr0
  have HC0 := Aside0.mk hc0
  have HMO := Aside0.mk hM
  have HT := Aside0.mk hT
  have HS := Aside0.mk hS
  have HB := Aside0.mk (Below.refl w.heap.size w)
  clear hr0 hc0 hM hT hS
  go_enter Try.func7, Try.ntmps7
  go_wp2_with (first | ((with_reducible refine gate_dst (N := 4) rfl ?_); refine box_event ?hg (N := 4) ?hd (cs := #[.string m, .slice A l.length c]) (t := 28) ?hr ?_; (case hd => rfl); (case hg => rfl); (case hr => first | (go_simp; done) | (go_simp; rfl)); intro g4 hg w1 hbox hb; have nG_ := Aside0.mk ((by rw [hg]; exact below_size HB.out) : w.heap.size ≤ g4); have nB_ := Aside0.mk (below_step HB.out hb); clear HB; have HB := nB_; clear nB_; have Bg4 := Aside0.mk hbox; have GEg4 := nG_; clear nG_; clear hb hbox hg) | ((with_reducible refine gate_dst (N := 8) rfl ?_); refine box_event ?hg (N := 8) ?hd (cs := #[.string (⟨#[]⟩ : ByteArray), .slice none 0 0]) (t := 28) ?hr ?_; (case hd => rfl); (case hg => rfl); (case hr => first | (go_simp; done) | (go_simp; rfl)); intro g8 hg w2 hbox hb; have nG_ := Aside0.mk ((by rw [hg]; exact below_size HB.out) : w.heap.size ≤ g8); have NBg4_g8 := Aside0.mk ((by rw [hg]; exact Nat.ne_of_lt (blk_lt Bg4.out)) : g4 ≠ g8); have ng4_ := Aside0.mk (blk_below Bg4.out hb); clear Bg4; have Bg4 := ng4_; clear ng4_; have nB_ := Aside0.mk (below_step HB.out hb); clear HB; have HB := nB_; clear nB_; have Bg8 := Aside0.mk hbox; have GEg8 := nG_; clear nG_; clear hb hbox hg; have hcza_0 : w2.cell? ⟨g4, 0, none⟩ = some (.string m) := (blk_cell Bg4.out 0).trans rfl; have hcza_1 : w2.cell? ⟨g4, 1, none⟩ = some (.slice A l.length c) := (blk_cell Bg4.out 1).trans rfl; have hfza_0 := blk_frozen Bg4.out 0; have hfza_1 := blk_frozen Bg4.out 1) | ((with_reducible refine gate_callee (f := 19) rfl ?_); refine goesL_ (some 17) rfl rfl Try.func19 (by kernel_rfl) rfl #[.agg #[.string m, .slice A l.length c]] rfl (by (try simp only [List.map_toArray, List.map_cons, List.map_nil]); first | done | rfl | (simp only [List.length_drop, List.length_take]; rfl)) ?_; (with_reducible refine (impl_MsgOk.calls K m A c l true _ ?side1 ?side2 HMO.out).mono ?_); (case side1 => exact Kd.C_below HR0.out HB.out); (case side2 => exact HC0.out); rintro e w3 ⟨rfl, hb⟩; refine ⟨_, rfl, ?_⟩; have ng4_ := Aside0.mk (blk_below Bg4.out hb); clear Bg4; have Bg4 := ng4_; clear ng4_; have ng8_ := Aside0.mk (blk_below Bg8.out hb); clear Bg8; have Bg8 := ng8_; clear ng8_; have nB_ := Aside0.mk (below_step HB.out hb); clear HB; have HB := nB_; clear nB_; clear hb; have hczb_0 : w3.cell? ⟨g4, 0, none⟩ = some (.string m) := (blk_cell Bg4.out 0).trans rfl; have hczb_1 : w3.cell? ⟨g4, 1, none⟩ = some (.slice A l.length c) := (blk_cell Bg4.out 1).trans rfl; have hfzb_0 := blk_frozen Bg4.out 0; have hfzb_1 := blk_frozen Bg4.out 1) | (go_at_call 20; (with_reducible refine (impl_ReplyMti.calls K m mt _ HT.out).mono ?_); rintro e w4 ⟨rfl, hd_⟩; have hb := hd_.below; have ng4_ := Aside0.mk (blk_below Bg4.out hb); clear Bg4; have Bg4 := ng4_; clear ng4_; have ng8_ := Aside0.mk (blk_below Bg8.out hb); clear Bg8; have Bg8 := ng8_; clear ng8_; have nB_ := Aside0.mk (below_step HB.out hb); clear HB; have HB := nB_; clear nB_; clear hb hd_; have hczc_0 : w4.cell? ⟨g4, 0, none⟩ = some (.string m) := (blk_cell Bg4.out 0).trans rfl; have hczc_1 : w4.cell? ⟨g4, 1, none⟩ = some (.slice A l.length c) := (blk_cell Bg4.out 1).trans rfl; have hfzc_0 := blk_frozen Bg4.out 0; have hfzc_1 := blk_frozen Bg4.out 1; have hcze_0 : w4.cell? ⟨g8, 0, none⟩ = some (.string (⟨#[]⟩ : ByteArray)) := (blk_cell Bg8.out 0).trans rfl; have hcze_1 : w4.cell? ⟨g8, 1, none⟩ = some (.slice none 0 0) := (blk_cell Bg8.out 1).trans rfl; have hfze_0 := blk_frozen Bg8.out 0; have hfze_1 := blk_frozen Bg8.out 1))
  refine bodyPost_ret (results_ct rfl _ _ g8 28 #[.string (⟨#[]⟩ : ByteArray), .slice none 0 0] (0, 0) _ rfl (by (with_reducible repeat (first | refine blk_drewN ?_ _ | refine blk_drew ?_ | refine blk_alloc ?_ _)); refine blk_put (cs := #[.string (⟨#[]⟩ : ByteArray), .slice none 0 0]) ?_ 1 _ rfl; (with_reducible repeat (first | refine blk_drewN ?_ _ | refine blk_drew ?_ | refine blk_alloc ?_ _)); refine blk_put (cs := #[.string (⟨#[]⟩ : ByteArray), .slice none 0 0]) ?_ 0 _ rfl; (with_reducible repeat (first | refine blk_drewN ?_ _ | refine blk_drew ?_ | refine blk_alloc ?_ _)); exact Bg8.out) Try.underlying28 rfl (by kernel_rfl)) rfl ?_
  refine ⟨.slice none 0 0, by first | rfl | (simp; done), Kd.R_nil _ _ _ _ _, ?_⟩
  refine below_set ?_ GEg8.out
  refine below_set ?_ GEg8.out
  exact HB.out
set_option maxHeartbeats 16000000 in
set_option maxRecDepth 100000 in
theorem reply_no2 (K : Nat) (m : ByteArray) (A : Option Addr) (c : Nat) (l : List IF) (code : Int) (hold told : ByteArray) (mt rs : ByteArray) (w : World)
    (hr0 : Kd.C k45 w A l.length l) (hc0 : l.length ≤ c)
    (hM : impl_MsgOk.f K m l = some true) (hT : impl_ReplyMti.f K m = some mt) (hS : impl_RsText.f code = some rs) (hmt : (mt.toList == ([] : List UInt8)) = false) (hrs : (rs.toList == ([] : List UInt8)) = true) :
    Calls Try.prog 7 #[.agg #[.string m, .slice A l.length c], .int .i64 code, .string hold, .string told] w fun e w' => ∃ v : Value, e = .returned (.tuple #[.agg #[.string (⟨#[]⟩ : ByteArray), v], .bool false]) ∧ Kd.R k45 45 w' w.heap.size (fun _ => True) v [] ∧ Below w.heap.size w w' := by
  have hu28 := Try.underlying28
  have HR0 := Aside0.mk hr0
  have HC0 := Aside0.mk hc0
  have HMO := Aside0.mk hM
  have HT := Aside0.mk hT
  have HS := Aside0.mk hS
  have HB := Aside0.mk (Below.refl w.heap.size w)
  clear hr0 hc0 hM hT hS
  go_enter Try.func7, Try.ntmps7
  go_wp2_with (first | ((with_reducible refine gate_dst (N := 4) rfl ?_); refine box_event ?hg (N := 4) ?hd (cs := #[.string m, .slice A l.length c]) (t := 28) ?hr ?_; (case hd => rfl); (case hg => rfl); (case hr => first | (go_simp; done) | (go_simp; rfl)); intro g4 hg w1 hbox hb; have nG_ := Aside0.mk ((by rw [hg]; exact below_size HB.out) : w.heap.size ≤ g4); have nB_ := Aside0.mk (below_step HB.out hb); clear HB; have HB := nB_; clear nB_; have Bg4 := Aside0.mk hbox; have GEg4 := nG_; clear nG_; clear hb hbox hg) | ((with_reducible refine gate_dst (N := 8) rfl ?_); refine box_event ?hg (N := 8) ?hd (cs := #[.string (⟨#[]⟩ : ByteArray), .slice none 0 0]) (t := 28) ?hr ?_; (case hd => rfl); (case hg => rfl); (case hr => first | (go_simp; done) | (go_simp; rfl)); intro g8 hg w2 hbox hb; have nG_ := Aside0.mk ((by rw [hg]; exact below_size HB.out) : w.heap.size ≤ g8); have NBg4_g8 := Aside0.mk ((by rw [hg]; exact Nat.ne_of_lt (blk_lt Bg4.out)) : g4 ≠ g8); have ng4_ := Aside0.mk (blk_below Bg4.out hb); clear Bg4; have Bg4 := ng4_; clear ng4_; have nB_ := Aside0.mk (below_step HB.out hb); clear HB; have HB := nB_; clear nB_; have Bg8 := Aside0.mk hbox; have GEg8 := nG_; clear nG_; clear hb hbox hg; have hcza_0 : w2.cell? ⟨g4, 0, none⟩ = some (.string m) := (blk_cell Bg4.out 0).trans rfl; have hcza_1 : w2.cell? ⟨g4, 1, none⟩ = some (.slice A l.length c) := (blk_cell Bg4.out 1).trans rfl; have hfza_0 := blk_frozen Bg4.out 0; have hfza_1 := blk_frozen Bg4.out 1) | ((with_reducible refine gate_callee (f := 19) rfl ?_); refine goesL_ (some 17) rfl rfl Try.func19 (by kernel_rfl) rfl #[.agg #[.string m, .slice A l.length c]] rfl (by (try simp only [List.map_toArray, List.map_cons, List.map_nil]); first | done | rfl | (simp only [List.length_drop, List.length_take]; rfl)) ?_; (with_reducible refine (impl_MsgOk.calls K m A c l true _ ?side1 ?side2 HMO.out).mono ?_); (case side1 => exact Kd.C_below HR0.out HB.out); (case side2 => exact HC0.out); rintro e w3 ⟨rfl, hb⟩; refine ⟨_, rfl, ?_⟩; have ng4_ := Aside0.mk (blk_below Bg4.out hb); clear Bg4; have Bg4 := ng4_; clear ng4_; have ng8_ := Aside0.mk (blk_below Bg8.out hb); clear Bg8; have Bg8 := ng8_; clear ng8_; have nB_ := Aside0.mk (below_step HB.out hb); clear HB; have HB := nB_; clear nB_; clear hb; have hczb_0 : w3.cell? ⟨g4, 0, none⟩ = some (.string m) := (blk_cell Bg4.out 0).trans rfl; have hczb_1 : w3.cell? ⟨g4, 1, none⟩ = some (.slice A l.length c) := (blk_cell Bg4.out 1).trans rfl; have hfzb_0 := blk_frozen Bg4.out 0; have hfzb_1 := blk_frozen Bg4.out 1) | (go_at_call 20; (with_reducible refine (impl_ReplyMti.calls K m mt _ HT.out).mono ?_); rintro e w4 ⟨rfl, hd_⟩; have hb := hd_.below; have ng4_ := Aside0.mk (blk_below Bg4.out hb); clear Bg4; have Bg4 := ng4_; clear ng4_; have ng8_ := Aside0.mk (blk_below Bg8.out hb); clear Bg8; have Bg8 := ng8_; clear ng8_; have nB_ := Aside0.mk (below_step HB.out hb); clear HB; have HB := nB_; clear nB_; clear hb hd_; have hczc_0 : w4.cell? ⟨g4, 0, none⟩ = some (.string m) := (blk_cell Bg4.out 0).trans rfl; have hczc_1 : w4.cell? ⟨g4, 1, none⟩ = some (.slice A l.length c) := (blk_cell Bg4.out 1).trans rfl; have hfzc_0 := blk_frozen Bg4.out 0; have hfzc_1 := blk_frozen Bg4.out 1) | (go_at_call 21; (with_reducible refine (impl_RsText.calls code rs _ HS.out).mono ?_); rintro e w5 ⟨rfl, hb⟩; have ng4_ := Aside0.mk (blk_below Bg4.out hb); clear Bg4; have Bg4 := ng4_; clear ng4_; have ng8_ := Aside0.mk (blk_below Bg8.out hb); clear Bg8; have Bg8 := ng8_; clear ng8_; have nB_ := Aside0.mk (below_step HB.out hb); clear HB; have HB := nB_; clear nB_; clear hb; have hczd_0 : w5.cell? ⟨g4, 0, none⟩ = some (.string m) := (blk_cell Bg4.out 0).trans rfl; have hczd_1 : w5.cell? ⟨g4, 1, none⟩ = some (.slice A l.length c) := (blk_cell Bg4.out 1).trans rfl; have hfzd_0 := blk_frozen Bg4.out 0; have hfzd_1 := blk_frozen Bg4.out 1; have hcze_0 : w5.cell? ⟨g8, 0, none⟩ = some (.string (⟨#[]⟩ : ByteArray)) := (blk_cell Bg8.out 0).trans rfl; have hcze_1 : w5.cell? ⟨g8, 1, none⟩ = some (.slice none 0 0) := (blk_cell Bg8.out 1).trans rfl; have hfze_0 := blk_frozen Bg8.out 0; have hfze_1 := blk_frozen Bg8.out 1))
  refine bodyPost_ret (results_ct rfl _ _ g8 28 #[.string (⟨#[]⟩ : ByteArray), .slice none 0 0] (0, 0) _ rfl (by (with_reducible repeat (first | refine blk_drewN ?_ _ | refine blk_drew ?_ | refine blk_alloc ?_ _)); refine blk_put (cs := #[.string (⟨#[]⟩ : ByteArray), .slice none 0 0]) ?_ 1 _ rfl; (with_reducible repeat (first | refine blk_drewN ?_ _ | refine blk_drew ?_ | refine blk_alloc ?_ _)); refine blk_put (cs := #[.string (⟨#[]⟩ : ByteArray), .slice none 0 0]) ?_ 0 _ rfl; (with_reducible repeat (first | refine blk_drewN ?_ _ | refine blk_drew ?_ | refine blk_alloc ?_ _)); exact Bg8.out) Try.underlying28 rfl (by kernel_rfl)) rfl ?_
  refine ⟨.slice none 0 0, by first | rfl | (simp; done), Kd.R_nil _ _ _ _ _, ?_⟩
  refine below_set ?_ GEg8.out
  refine below_set ?_ GEg8.out
  exact HB.out
end Go.Proofs.Ytnnnglbjipiclaa.Q
end
section
namespace Go.Proofs.Ytnnnglbjipiclaa.Q
open Go.RowKit Go.Proofs.YtnnnglbjipiclaaW.PrintWords Go.Proofs.YtnnnglbjipiclaaW.PrintLast Go.Proofs.YtnnnglbjipiclaaW.PrintMore
set_option linter.unusedVariables false
set_option linter.unusedSimpArgs false
def impl_Reply.f (a0_0 : ByteArray) (l0_1 : List S45) (a1 : Int) (a2 a3 : ByteArray) : Option (ByteArray × List S45 × Bool) :=
  if a0_0.size ≤ 10000000 ∧ l0_1.length ≤ 10000000 ∧ (∀ f ∈ l0_1, f.f1.size ≤ 10000000) ∧ a2.size ≤ 1050000 ∧ a3.size ≤ 10000000 then some (reply a0_0 l0_1 a1 a2 a3) else none
theorem impl_Reply.calls (a0_0 : ByteArray) (A0_1 : Option Addr) (c0_1 : Nat) (l0_1 : List S45) (a1 : Int) (a2 : ByteArray) (a3 : ByteArray) (r1 : ByteArray) (r2 : List S45) (r3 : Bool) (w : World) (hr0_1 : Kd.C k45 w A0_1 l0_1.length l0_1) (hc0_1 : l0_1.length ≤ c0_1) (h : impl_Reply.f a0_0 l0_1 a1 a2 a3 = some (r1, r2, r3)) :
    Calls Try.prog 7 #[.agg #[.string a0_0, .slice A0_1 l0_1.length c0_1], .int .i64 a1, .string a2, .string a3] w fun e w' => ∃ v1_ : Value, e = .returned (.tuple #[.agg #[.string r1, v1_], .bool r3]) ∧ Kd.R k45 45 w' w.heap.size (fun _ => True) v1_ r2 ∧ Below w.heap.size w w' := by
  unfold impl_Reply.f at h
  by_cases hb : a0_0.size ≤ 10000000 ∧ l0_1.length ≤ 10000000 ∧ (∀ f ∈ l0_1, f.f1.size ≤ 10000000) ∧ a2.size ≤ 1050000 ∧ a3.size ≤ 10000000
  · rw [if_pos hb] at h
    obtain ⟨b0, b1, b2, b3, b4⟩ := hb
    obtain ⟨K, hK⟩ : ∃ K : Nat, 100000000 ≤ K := ⟨_, Nat.le_refl _⟩
    have hM := impl_MsgOk_at a0_0 l0_1 b0 b1 10000000 (Nat.le_refl _) b2 K (by omega)
    have hT : impl_ReplyMti.f K a0_0 = some (mtOf a0_0) := impl_ReplyMti_at a0_0 b0 K (by omega)
    obtain ⟨_, hS, hS10⟩ := rsT_at a1
    have hF : ∀ no, impl_FieldOf.f K a0_0 l0_1 no = some (foOf l0_1 no) := fun no => impl_FieldOf_at a0_0 no l0_1 b1 K (by omega)
    have hH := impl_FieldFit_at 38 a2 (by omega) K (by omega)
    have hml := mtOf_size a0_0
    have hol := rout_len l0_1 a1 a2 a3
    have hO := impl_MsgOk_at (mtOf a0_0) (rout l0_1 a1 a2 a3) (by omega) (by omega) 10000000 (Nat.le_refl _) (rout_size l0_1 a1 a2 a3 b2 b3 b4) K (by omega)
    have h := Option.some.inj h
    unfold reply at h
    by_cases q1 : msgOk a0_0 l0_1 = true
    · rw [q1] at hM
      by_cases q2 : (mtOf a0_0).toList = ([] : List UInt8)
      · rw [if_neg (fun z => z.2.1 q2)] at h
        obtain ⟨rfl, rfl, rfl⟩ : (⟨#[]⟩ : ByteArray) = r1 ∧ [] = r2 ∧ false = r3 := by simpa using h
        exact reply_no1 K a0_0 A0_1 c0_1 l0_1 a1 a2 a3 _ _ w hr0_1 hc0_1 hM hT hS (beq_iff_eq.mpr q2) trivial
      · by_cases q3 : (rsT a1).toList = ([] : List UInt8)
        · rw [if_neg (fun z => z.2.2.1 q3)] at h
          obtain ⟨rfl, rfl, rfl⟩ : (⟨#[]⟩ : ByteArray) = r1 ∧ [] = r2 ∧ false = r3 := by simpa using h
          exact reply_no2 K a0_0 A0_1 c0_1 l0_1 a1 a2 a3 _ _ w hr0_1 hc0_1 hM hT hS (beq_eq_false_iff_ne.mpr q2) (beq_iff_eq.mpr q3)
        · have hgo := reply_go K a0_0 A0_1 c0_1 l0_1 a1 a2 a3 _ _ _ (foOf l0_1) _ _ w hr0_1 hc0_1 hM hT hS (beq_eq_false_iff_ne.mpr q2) (beq_eq_false_iff_ne.mpr q3) hF hH rfl hO
          by_cases q4 : msgOk (mtOf a0_0) (rout l0_1 a1 a2 a3) = true
          · rw [if_pos ⟨q1, q2, q3, q4⟩] at h
            obtain ⟨rfl, rfl, rfl⟩ : mtOf a0_0 = r1 ∧ rout l0_1 a1 a2 a3 = r2 ∧ true = r3 := by simpa using h
            simp only [q4, if_true] at hgo
            exact hgo
          · rw [if_neg (fun z => q4 z.2.2.2)] at h
            obtain ⟨rfl, rfl, rfl⟩ : (⟨#[]⟩ : ByteArray) = r1 ∧ [] = r2 ∧ false = r3 := by simpa using h
            rw [Bool.eq_false_iff.mpr q4] at hgo
            simp only [Bool.false_eq_true, if_false] at hgo
            exact hgo
    · rw [if_neg (fun z => q1 z.1)] at h
      obtain ⟨rfl, rfl, rfl⟩ : (⟨#[]⟩ : ByteArray) = r1 ∧ [] = r2 ∧ false = r3 := by simpa using h
      rw [Bool.eq_false_iff.mpr q1] at hM
      exact reply_no0 K a0_0 A0_1 c0_1 l0_1 a1 a2 a3 _ _ w hr0_1 hc0_1 hM hT hS trivial trivial
  · rw [if_neg hb] at h
    exact absurd h (by simp)
end Go.Proofs.Ytnnnglbjipiclaa.Q
end
section
namespace Go.Proofs.Ytnnnglbjipiclaa.Q
open Go.RowKit Go.Proofs.YtnnnglbjipiclaaW.PrintWords Go.Proofs.YtnnnglbjipiclaaW.PrintLast Go.Proofs.YtnnnglbjipiclaaW.PrintMore
attribute [local go_sem] max2_int min2_int max_two min_two max_three min_three max_four min_four
set_option linter.unusedVariables false
set_option linter.unusedSimpArgs false
mutual
def laws_FnExactReply.j0 : Nat → Int → ByteArray → ByteArray → Bool → Bool → Bool → ByteArray → List (S51) → ByteArray → List (S45) → ByteArray → List (S45) → ByteArray → List (S45) → Option (Bool)
 | 0, _, _, _, _, _, _, _, _, _, _, _, _, _, _ => none
 | k + 1, x1, x2, x3, x11, x14, x58, x272000, x272001, x283000, x283001, x288000, x288001, x294000, x294001 => if x58 = true then (some false) else ((laws_toMsg.f k x272000 x272001).bind fun bt295 => ((laws_eqMsg.f k x288000 x288001 bt295.1 bt295.2).bind fun t299 => (if t299 = true then ((laws_markMsg.f k x288000 x288001 1).bind fun bt300 => (if bt300.1 < 0 then (laws_FnExactReply.j1 k x1 x2 x3 x11 true x272000 x272001 x283000 x283001 x294000 x294001) else ((laws_eqMsg.f k x294000 x294001 x283000 x283001).bind fun t302 => (if t302 = true then (laws_FnExactReply.j1 k x1 x2 x3 x11 (x14 != x11) x272000 x272001 x283000 x283001 x294000 x294001) else (laws_FnExactReply.j1 k x1 x2 x3 x11 true x272000 x272001 x283000 x283001 x294000 x294001))))) else (some false))))
def laws_FnExactReply.j1 : Nat → Int → ByteArray → ByteArray → Bool → Bool → ByteArray → List (S51) → ByteArray → List (S45) → ByteArray → List (S45) → Option (Bool)
 | 0, _, _, _, _, _, _, _, _, _, _, _ => none
 | k + 1, x1, x2, x3, x11, x79, x272000, x272001, x283000, x283001, x294000, x294001 => if x79 = true then (some false) else ((laws_markMsg.f k x294000 x294001 1).bind fun bt303 => ((laws_heldMsg.f k x294000 bt303.2 1).bind fun t305 => (if t305 < 0 then (some false) else (if t305 = bt303.1 then ((laws_toMsg.f k x272000 x272001).bind fun bt306 => ((impl_Reply.f bt306.1 bt306.2 x1 x2 x3).bind fun bt310 => ((laws_eqMsg.f k bt310.1 bt310.2.1 x283000 x283001).bind fun t316 => (if t316 = true then (laws_FnExactReply.j2 k bt303.1 (bt310.2.2 != x11) x294000 bt303.2) else (laws_FnExactReply.j2 k bt303.1 true x294000 bt303.2))))) else (some false)))))
def laws_FnExactReply.j2 : Nat → Int → Bool → ByteArray → List (S45) → Option (Bool)
 | 0, _, _, _, _ => none
 | k + 1, x16, x108, x294000, x294001 => if x108 = true then (some false) else ((laws_heldMsg.f k x294000 x294001 1).bind fun t317 => (if t317 < 0 then (some false) else (if t317 = x16 then (some true) else (some false))))
end
def laws_FnExactReply.f (k : Nat) (a0_0 : ByteArray) (l0_1 : List (S51)) (a1 : Int) (a2 : ByteArray) (a3 : ByteArray) : Option (Bool) := if (a2.size : Int) > 1048576 then (some true) else (if (a3.size : Int) > 1048576 then (some true) else ((laws_szMsg.f k a0_0 l0_1 1048576).bind fun t272 => (if t272 < 0 then (some true) else ((laws_toMsg.f k a0_0 l0_1).bind fun bt273 => ((spec_Reply.f k bt273.1 bt273.2 a1 a2 a3).bind fun bt277 => ((laws_toMsg.f k a0_0 l0_1).bind fun bt283 => ((impl_Reply.f bt283.1 bt283.2 a1 a2 a3).bind fun bt288 => ((laws_eqMsg.f k bt288.1 bt288.2.1 bt277.1 bt277.2.1).bind fun t294 => (if t294 = true then (laws_FnExactReply.j0 k a1 a2 a3 bt277.2.2 bt288.2.2 (bt288.2.2 != bt277.2.2) a0_0 l0_1 bt277.1 bt277.2.1 bt283.1 bt283.2 bt288.1 bt288.2.1) else (laws_FnExactReply.j0 k a1 a2 a3 bt277.2.2 bt288.2.2 true a0_0 l0_1 bt277.1 bt277.2.1 bt283.1 bt283.2 bt288.1 bt288.2.1))))))))))
set_option maxHeartbeats 8000000 in
set_option maxRecDepth 100000 in
theorem laws_FnExactReply.calls (k : Nat) (a0_0 : ByteArray) (A0_1 : Option Addr) (c0_1 : Nat) (l0_1 : List (S51)) (a1 : Int) (a2 : ByteArray) (a3 : ByteArray) (r : Bool) (w : World) (hr0_1 : Kd.C k51 w A0_1 l0_1.length l0_1) (hc0_1 : l0_1.length ≤ c0_1) (hr_ : r = true) (h : laws_FnExactReply.f k a0_0 l0_1 a1 a2 a3 = some r) :
  Calls Try.prog 3 #[.agg #[.string a0_0, .slice A0_1 l0_1.length c0_1], .int .i64 a1, .string a2, .string a3] w fun e w' => e = .returned (.bool r) ∧ Below w.heap.size w w' := by
 have hu24 := Try.underlying24
 have hu28 := Try.underlying28
 have HR0_1 := Aside0.mk hr0_1
 have HC0_1 := Aside0.mk hc0_1
 clear hr0_1 hc0_1
 have HB := Aside0.mk (Below.refl w.heap.size w)
 have H : (if (a2.size : Int) > 1048576 then (some true) else (if (a3.size : Int) > 1048576 then (some true) else ((laws_szMsg.f k a0_0 l0_1 1048576).bind fun t272 => (if t272 < 0 then (some true) else ((laws_toMsg.f k a0_0 l0_1).bind fun bt273 => ((spec_Reply.f k bt273.1 bt273.2 a1 a2 a3).bind fun bt277 => ((laws_toMsg.f k a0_0 l0_1).bind fun bt283 => ((impl_Reply.f bt283.1 bt283.2 a1 a2 a3).bind fun bt288 => ((laws_eqMsg.f k bt288.1 bt288.2.1 bt277.1 bt277.2.1).bind fun t294 => (if t294 = true then (laws_FnExactReply.j0 k a1 a2 a3 bt277.2.2 bt288.2.2 (bt288.2.2 != bt277.2.2) a0_0 l0_1 bt277.1 bt277.2.1 bt283.1 bt283.2 bt288.1 bt288.2.1) else (laws_FnExactReply.j0 k a1 a2 a3 bt277.2.2 bt288.2.2 true a0_0 l0_1 bt277.1 bt277.2.1 bt283.1 bt283.2 bt288.1 bt288.2.1))))))))))) = some r := h
 clear h
 by_cases c5 : (a2.size : Int) > 1048576
 ·rw [if_pos c5] at H
  have c5b0 : decide (1048576 < (a2.size : Int)) = true := decide_eq_true c5
  have c5b1 : decide (1048576 < a2.size) = true := decide_eq_true (by omega)
  clear c5
  obtain rfl := Option.some.inj H
  go_enter Try.func3, Try.ntmps3
  go_wp2_with (first | ((with_reducible refine gate_dst (N := 4) rfl ?_); refine box_event ?hg (N := 4) ?hd (cs := #[.string a0_0, .slice A0_1 l0_1.length c0_1]) (t := 24) ?hr ?_; (case hd => rfl); (case hg => rfl); (case hr => first | (go_simp; done) | (go_simp; rfl)); intro gb271 hg w6 hbox hb; have n0_ := Aside0.mk (below_step bB hb); have n1_ := Aside0.mk (hbox); have n2_ := Aside0.mk ((by rw [hg]; exact (below_size bB) : w.heap.size ≤ gb271)); have n3_ := Aside0.mk ((by rw [hg]; exact (below_size bB) : w.heap.size ≤ gb271)); clear HB; have HB := n0_; have BK271 := n1_; have GW271 := n2_; have GE271 := n3_; clear n0_ n1_ n2_ n3_; clear hb hbox hg))
  go_ret
  exact ⟨by first | rfl | (simp [errW_none, errW_some] <;> rfl) | (simp [*, errW_none, errW_some] <;> rfl), bG⟩
 ·rw [if_neg c5] at H
  have c5b0 : decide (1048576 < (a2.size : Int)) = false := decide_eq_false c5
  have c5b1 : decide (1048576 < a2.size) = false := decide_eq_false (by omega)
  clear c5
  by_cases c7 : (a3.size : Int) > 1048576
  ·rw [if_pos c7] at H
   have c7b0 : decide (1048576 < (a3.size : Int)) = true := decide_eq_true c7
   have c7b1 : decide (1048576 < a3.size) = true := decide_eq_true (by omega)
   clear c7
   obtain rfl := Option.some.inj H
   go_enter Try.func3, Try.ntmps3
   go_wp2_with (first | ((with_reducible refine gate_dst (N := 4) rfl ?_); refine box_event ?hg (N := 4) ?hd (cs := #[.string a0_0, .slice A0_1 l0_1.length c0_1]) (t := 24) ?hr ?_; (case hd => rfl); (case hg => rfl); (case hr => first | (go_simp; done) | (go_simp; rfl)); intro gb271 hg w8 hbox hb; have n0_ := Aside0.mk (below_step bB hb); have n1_ := Aside0.mk (hbox); have n2_ := Aside0.mk ((by rw [hg]; exact (below_size bB) : w.heap.size ≤ gb271)); have n3_ := Aside0.mk ((by rw [hg]; exact (below_size bB) : w.heap.size ≤ gb271)); clear HB; have HB := n0_; have BK271 := n1_; have GW271 := n2_; have GE271 := n3_; clear n0_ n1_ n2_ n3_; clear hb hbox hg))
   go_ret
   exact ⟨by first | rfl | (simp [errW_none, errW_some] <;> rfl) | (simp [*, errW_none, errW_some] <;> rfl), bG⟩
  ·rw [if_neg c7] at H
   have c7b0 : decide (1048576 < (a3.size : Int)) = false := decide_eq_false c7
   have c7b1 : decide (1048576 < a3.size) = false := decide_eq_false (by omega)
   clear c7
   replace H := Option.bind_eq_some_iff.mp H
   obtain ⟨t272, A90, H⟩ := H
   replace H : (if t272 < 0 then (some true) else ((laws_toMsg.f k a0_0 l0_1).bind fun bt273 => ((spec_Reply.f k bt273.1 bt273.2 a1 a2 a3).bind fun bt277 => ((laws_toMsg.f k a0_0 l0_1).bind fun bt283 => ((impl_Reply.f bt283.1 bt283.2 a1 a2 a3).bind fun bt288 => ((laws_eqMsg.f k bt288.1 bt288.2.1 bt277.1 bt277.2.1).bind fun t294 => (if t294 = true then (laws_FnExactReply.j0 k a1 a2 a3 bt277.2.2 bt288.2.2 (bt288.2.2 != bt277.2.2) a0_0 l0_1 bt277.1 bt277.2.1 bt283.1 bt283.2 bt288.1 bt288.2.1) else (laws_FnExactReply.j0 k a1 a2 a3 bt277.2.2 bt288.2.2 true a0_0 l0_1 bt277.1 bt277.2.1 bt283.1 bt283.2 bt288.1 bt288.2.1)))))))) = some r := H
   have A9 := Aside0.mk A90
   clear A90
   by_cases c10 : t272 < 0
   ·rw [if_pos c10] at H
    have c10b0 : decide (t272 < 0) = true := decide_eq_true c10
    clear c10
    obtain rfl := Option.some.inj H
    go_enter Try.func3, Try.ntmps3
    go_wp2_with (first | ((with_reducible refine gate_dst (N := 4) rfl ?_); refine box_event ?hg (N := 4) ?hd (cs := #[.string a0_0, .slice A0_1 l0_1.length c0_1]) (t := 24) ?hr ?_; (case hd => rfl); (case hg => rfl); (case hr => first | (go_simp; done) | (go_simp; rfl)); intro gb271 hg w11 hbox hb; have n0_ := Aside0.mk (below_step bB hb); have n1_ := Aside0.mk (hbox); have n2_ := Aside0.mk ((by rw [hg]; exact (below_size bB) : w.heap.size ≤ gb271)); have n3_ := Aside0.mk ((by rw [hg]; exact (below_size bB) : w.heap.size ≤ gb271)); clear HB; have HB := n0_; have BK271 := n1_; have GW271 := n2_; have GE271 := n3_; clear n0_ n1_ n2_ n3_; clear hb hbox hg; have hcz12_0 : w11.cell? ⟨gb271, 0, none⟩ = some (.string a0_0) := (blk_cell BK271.out 0).trans rfl; have hcz12_1 : w11.cell? ⟨gb271, 1, none⟩ = some (.slice A0_1 l0_1.length c0_1) := (blk_cell BK271.out 1).trans rfl; have hfz12_0 := blk_frozen BK271.out 0; have hfz12_1 := blk_frozen BK271.out 1) | ((with_reducible refine gate_callee (f := 4) rfl ?_); refine goesM_ (some 28) rfl rfl Try.func4 (by kernel_rfl) rfl #[.agg #[.string a0_0, .slice A0_1 l0_1.length c0_1], .int .i64 1048576] rfl ?_; (with_reducible refine (laws_szMsg.calls k a0_0 _ _ l0_1 1048576 t272 _ ?side1 ?side2 A9.out).mono ?_); (case side1 => repeat (first | exact (Kd.C_below HR0_1.out HB.out) | (with_reducible refine Kd.C_alloc ?_ _) | (with_reducible refine Kd.C_drewN ?_ _) | (with_reducible refine Kd.C_drew ?_))); (case side2 => exact HC0_1.out); rintro e w13 ⟨rfl, hb⟩; refine ⟨_, rfl, ?_⟩; have n0_ := Aside0.mk (blk_below (g := gb271) (o := .cells #[.string a0_0, .slice A0_1 l0_1.length c0_1] 24 (0, 0)) (kA BK271.out) hb); have n1_ := Aside0.mk (below_step bG hb); clear BK271; clear HB; have BK271 := n0_; have HB := n1_; clear n0_ n1_; (try clear hb); (try clear hb2); (try clear hk); (try clear hi)))
    go_ret
    exact ⟨by first | rfl | (simp [errW_none, errW_some] <;> rfl) | (simp [*, errW_none, errW_some] <;> rfl), bG⟩
   ·rw [if_neg c10] at H
    have c10b0 : decide (t272 < 0) = false := decide_eq_false c10
    clear c10
    replace H := Option.bind_eq_some_iff.mp H
    obtain ⟨⟨t273, t274⟩, A140, H⟩ := H
    replace H : ((spec_Reply.f k t273 t274 a1 a2 a3).bind fun bt277 => ((laws_toMsg.f k a0_0 l0_1).bind fun bt283 => ((impl_Reply.f bt283.1 bt283.2 a1 a2 a3).bind fun bt288 => ((laws_eqMsg.f k bt288.1 bt288.2.1 bt277.1 bt277.2.1).bind fun t294 => (if t294 = true then (laws_FnExactReply.j0 k a1 a2 a3 bt277.2.2 bt288.2.2 (bt288.2.2 != bt277.2.2) a0_0 l0_1 bt277.1 bt277.2.1 bt283.1 bt283.2 bt288.1 bt288.2.1) else (laws_FnExactReply.j0 k a1 a2 a3 bt277.2.2 bt288.2.2 true a0_0 l0_1 bt277.1 bt277.2.1 bt283.1 bt283.2 bt288.1 bt288.2.1)))))) = some r := H
    have A14 := Aside0.mk A140
    clear A140
    replace H := Option.bind_eq_some_iff.mp H
    obtain ⟨⟨t277, t278, t281⟩, A150, H⟩ := H
    replace H : ((laws_toMsg.f k a0_0 l0_1).bind fun bt283 => ((impl_Reply.f bt283.1 bt283.2 a1 a2 a3).bind fun bt288 => ((laws_eqMsg.f k bt288.1 bt288.2.1 t277 t278).bind fun t294 => (if t294 = true then (laws_FnExactReply.j0 k a1 a2 a3 t281 bt288.2.2 (bt288.2.2 != t281) a0_0 l0_1 t277 t278 bt283.1 bt283.2 bt288.1 bt288.2.1) else (laws_FnExactReply.j0 k a1 a2 a3 t281 bt288.2.2 true a0_0 l0_1 t277 t278 bt283.1 bt283.2 bt288.1 bt288.2.1))))) = some r := H
    have A15 := Aside0.mk A150
    clear A150
    replace H := Option.bind_eq_some_iff.mp H
    obtain ⟨⟨t283, t284⟩, A160, H⟩ := H
    replace H : ((impl_Reply.f t283 t284 a1 a2 a3).bind fun bt288 => ((laws_eqMsg.f k bt288.1 bt288.2.1 t277 t278).bind fun t294 => (if t294 = true then (laws_FnExactReply.j0 k a1 a2 a3 t281 bt288.2.2 (bt288.2.2 != t281) a0_0 l0_1 t277 t278 t283 t284 bt288.1 bt288.2.1) else (laws_FnExactReply.j0 k a1 a2 a3 t281 bt288.2.2 true a0_0 l0_1 t277 t278 t283 t284 bt288.1 bt288.2.1)))) = some r := H
    have A16 := Aside0.mk A160
    clear A160
    replace H := Option.bind_eq_some_iff.mp H
    obtain ⟨⟨t288, t289, t292⟩, A170, H⟩ := H
    replace H : ((laws_eqMsg.f k t288 t289 t277 t278).bind fun t294 => (if t294 = true then (laws_FnExactReply.j0 k a1 a2 a3 t281 t292 (t292 != t281) a0_0 l0_1 t277 t278 t283 t284 t288 t289) else (laws_FnExactReply.j0 k a1 a2 a3 t281 t292 true a0_0 l0_1 t277 t278 t283 t284 t288 t289))) = some r := H
    have A17 := Aside0.mk A170
    clear A170
    have HC18 := Aside0.mk H
    clear H
    go_enter Try.func3, Try.ntmps3
    go_upto_region 12 with (first | ((with_reducible refine gate_dst (N := 4) rfl ?_); refine box_event ?hg (N := 4) ?hd (cs := #[.string a0_0, .slice A0_1 l0_1.length c0_1]) (t := 24) ?hr ?_; (case hd => rfl); (case hg => rfl); (case hr => first | (go_simp; done) | (go_simp; rfl)); intro gb271 hg w19 hbox hb; have n0_ := Aside0.mk (below_step bB hb); have n1_ := Aside0.mk (hbox); have n2_ := Aside0.mk ((by rw [hg]; exact (below_size bB) : w.heap.size ≤ gb271)); have n3_ := Aside0.mk ((by rw [hg]; exact (below_size bB) : w.heap.size ≤ gb271)); clear HB; have HB := n0_; have BK271 := n1_; have GW271 := n2_; have GE271 := n3_; clear n0_ n1_ n2_ n3_; clear hb hbox hg; have hcz20_0 : w19.cell? ⟨gb271, 0, none⟩ = some (.string a0_0) := (blk_cell BK271.out 0).trans rfl; have hcz20_1 : w19.cell? ⟨gb271, 1, none⟩ = some (.slice A0_1 l0_1.length c0_1) := (blk_cell BK271.out 1).trans rfl; have hfz20_0 := blk_frozen BK271.out 0; have hfz20_1 := blk_frozen BK271.out 1) | ((with_reducible refine gate_callee (f := 4) rfl ?_); refine goesM_ (some 28) rfl rfl Try.func4 (by kernel_rfl) rfl #[.agg #[.string a0_0, .slice A0_1 l0_1.length c0_1], .int .i64 1048576] rfl ?_; (with_reducible refine (laws_szMsg.calls k a0_0 _ _ l0_1 1048576 t272 _ ?side1 ?side2 A9.out).mono ?_); (case side1 => repeat (first | exact (Kd.C_below HR0_1.out HB.out) | (with_reducible refine Kd.C_alloc ?_ _) | (with_reducible refine Kd.C_drewN ?_ _) | (with_reducible refine Kd.C_drew ?_))); (case side2 => exact HC0_1.out); rintro e w21 ⟨rfl, hb⟩; refine ⟨_, rfl, ?_⟩; have n0_ := Aside0.mk (blk_below (g := gb271) (o := .cells #[.string a0_0, .slice A0_1 l0_1.length c0_1] 24 (0, 0)) (kA BK271.out) hb); have n1_ := Aside0.mk (below_step bG hb); clear BK271; clear HB; have BK271 := n0_; have HB := n1_; clear n0_ n1_; (try clear hb); (try clear hb2); (try clear hk); (try clear hi); have hcz22_0 : w21.cell? ⟨gb271, 0, none⟩ = some (.string a0_0) := (blk_cell BK271.out 0).trans rfl; have hcz22_1 : w21.cell? ⟨gb271, 1, none⟩ = some (.slice A0_1 l0_1.length c0_1) := (blk_cell BK271.out 1).trans rfl; have hfz22_0 := blk_frozen BK271.out 0; have hfz22_1 := blk_frozen BK271.out 1) | ((with_reducible refine gate_callee (f := 6) rfl ?_); refine goesM_ (some 33) rfl rfl Try.func6 (by kernel_rfl) rfl #[.agg #[.string a0_0, .slice A0_1 l0_1.length c0_1]] rfl ?_; (with_reducible refine (laws_toMsg.calls k a0_0 _ _ l0_1 t273 t274 _ ?side1 ?side2 A14.out).mono ?_); (case side1 => repeat (first | exact (Kd.C_below HR0_1.out HB.out) | (with_reducible refine Kd.C_alloc ?_ _) | (with_reducible refine Kd.C_drewN ?_ _) | (with_reducible refine Kd.C_drew ?_))); (case side2 => exact HC0_1.out); rintro e w23 ⟨v275, rfl, ho0, hb⟩; refine ⟨_, rfl, ?_⟩; have n0_ := Aside0.mk (Kd.R_lower ho0 (below_size bG)); have n1_ := Aside0.mk (blk_below (g := gb271) (o := .cells #[.string a0_0, .slice A0_1 l0_1.length c0_1] 24 (0, 0)) (kA BK271.out) hb); have n2_ := Aside0.mk (below_step bG hb); clear BK271; clear HB; have HO276 := n0_; have BK271 := n1_; have HB := n2_; clear n0_ n1_ n2_; (try clear hb); (try clear hb2); (try clear hk); (try clear hi); (try clear ho0); obtain ⟨Ao24, co24, eo24⟩ := Kd.R_slice HO276.out; subst eo24) | ((with_reducible refine gate_callee (f := 5) rfl ?_); refine goesM_ (some 37) rfl rfl Try.func5 (by kernel_rfl) rfl #[.agg #[.string t273, .slice Ao24 t274.length co24], .int .i64 a1, .string a2, .string a3] rfl ?_; (with_reducible refine (spec_Reply.calls k t273 _ _ t274 a1 a2 a3 t277 t278 t281 _ ?side1 ?side2 A15.out).mono ?_); (case side1 => repeat (first | exact (Kd.R_reads' HO276.out).2.2 | (with_reducible refine Kd.C_alloc ?_ _) | (with_reducible refine Kd.C_drewN ?_ _) | (with_reducible refine Kd.C_drew ?_))); (case side2 => exact (Kd.R_reads' HO276.out).2.1); rintro e w25 ⟨v279, rfl, ho0, hb⟩; refine ⟨_, rfl, ?_⟩; have n0_ := Aside0.mk (Kd.R_elder' (rA HO276.out) (Kd.R_base ho0) hb); have n1_ := Aside0.mk (Kd.R_lower (Kd.R_new' ho0 (Kd.R_lt (rA HO276.out))) (below_size bG)); have n2_ := Aside0.mk (blk_below (g := gb271) (o := .cells #[.string a0_0, .slice A0_1 l0_1.length c0_1] 24 (0, 0)) (kA BK271.out) hb); have n3_ := Aside0.mk (below_step bG hb); clear HO276; clear BK271; clear HB; have HO276 := n0_; have HO280 := n1_; have BK271 := n2_; have HB := n3_; clear n0_ n1_ n2_ n3_; (try clear hb); (try clear hb2); (try clear hk); (try clear hi); (try clear ho0)) | ((with_reducible refine gate_dst (N := 10) rfl ?_); refine box_event ?hg (N := 10) ?hd (cs := #[.string (⟨#[]⟩ : ByteArray), .slice none 0 0]) (t := 28) ?hr ?_; (case hd => rfl); (case hg => rfl); (case hr => first | (go_simp; done) | (go_simp; rfl)); intro gb282 hg w26 hbox hb; have n0_ := Aside0.mk (Kd.R_below (rA HO276.out) hb); have n1_ := Aside0.mk (Kd.R_below (rA HO280.out) hb); have n2_ := Aside0.mk (blk_below (g := gb271) (o := .cells #[.string a0_0, .slice A0_1 l0_1.length c0_1] 24 (0, 0)) (kA BK271.out) hb); have n3_ := Aside0.mk (below_step bG hb); have n4_ := Aside0.mk (hbox); have n5_ := Aside0.mk ((by rw [hg]; exact (below_size bG) : w.heap.size ≤ gb282)); have n6_ := Aside0.mk ((by rw [hg]; exact (below_size bG) : w.heap.size ≤ gb282)); have n7_ := Aside0.mk ((by rw [hg]; exact Nat.ne_of_lt (blk_lt (g := gb271) (o := .cells #[.string a0_0, .slice A0_1 l0_1.length c0_1] 24 (0, 0)) (kA BK271.out)) : gb271 ≠ gb282)); have n8_ := Aside0.mk ((by rw [hg]; exact Nat.ne_of_gt (blk_lt (g := gb271) (o := .cells #[.string a0_0, .slice A0_1 l0_1.length c0_1] 24 (0, 0)) (kA BK271.out)) : gb282 ≠ gb271)); clear HO276; clear HO280; clear BK271; clear HB; have HO276 := n0_; have HO280 := n1_; have BK271 := n2_; have HB := n3_; have BK282 := n4_; have GW282 := n5_; have GE282 := n6_; have NB271_282 := n7_; have NB282_271 := n8_; clear n0_ n1_ n2_ n3_ n4_ n5_ n6_ n7_ n8_; clear hb hbox hg; have hnb27 := NB282_271.out; have hnc27 := NB271_282.out; have hcz28_0 : w26.cell? ⟨gb282, 0, none⟩ = some (.string (⟨#[]⟩ : ByteArray)) := (blk_cell BK282.out 0).trans rfl; have hcz28_1 : w26.cell? ⟨gb282, 1, none⟩ = some (.slice none 0 0) := (blk_cell BK282.out 1).trans rfl; have hfz28_0 := blk_frozen BK282.out 0; have hfz28_1 := blk_frozen BK282.out 1; obtain ⟨Ao29, co29, eo29⟩ := Kd.R_slice HO280.out; subst eo29; have hcz30_0 : w26.cell? ⟨gb271, 0, none⟩ = some (.string a0_0) := (blk_cell BK271.out 0).trans rfl; have hcz30_1 : w26.cell? ⟨gb271, 1, none⟩ = some (.slice A0_1 l0_1.length c0_1) := (blk_cell BK271.out 1).trans rfl; have hfz30_0 := blk_frozen BK271.out 0; have hfz30_1 := blk_frozen BK271.out 1) | ((with_reducible refine gate_callee (f := 6) rfl ?_); refine goesM_ (some 41) rfl rfl Try.func6 (by kernel_rfl) rfl #[.agg #[.string a0_0, .slice A0_1 l0_1.length c0_1]] rfl ?_; (with_reducible refine (laws_toMsg.calls k a0_0 _ _ l0_1 t283 t284 _ ?side1 ?side2 A16.out).mono ?_); (case side1 => exact Kd.C_below HR0_1.out bG); (case side2 => exact HC0_1.out); rintro e w31 ⟨v285, rfl, ho0, hb⟩; refine ⟨_, rfl, ?_⟩; have n0_ := Aside0.mk (Kd.R_elder' (by (with_reducible repeat (first | apply Kd.R_alloc | apply Kd.R_drewN | apply Kd.R_drew)); exact (Kd.R_mono (Kd.R_far (p := ⟨gb282, 1, none⟩) (Kd.R_far (p := ⟨gb282, 0, none⟩) (Kd.R_types HO276.out BK282.out (by decide)) (fun _ hk => hk.2) (.string t277)) (fun _ hk => hk.2) (.slice Ao29 t278.length co29)) (fun _ h_ => h_.1))) (Kd.R_base ho0) hb); have n1_ := Aside0.mk (Kd.R_elder' (by (with_reducible repeat (first | apply Kd.R_alloc | apply Kd.R_drewN | apply Kd.R_drew)); exact (Kd.R_mono (Kd.R_far (p := ⟨gb282, 1, none⟩) (Kd.R_far (p := ⟨gb282, 0, none⟩) (Kd.R_types HO280.out BK282.out (by decide)) (fun _ hk => hk.2) (.string t277)) (fun _ hk => hk.2) (.slice Ao29 t278.length co29)) (fun _ h_ => h_.1))) (Kd.R_base ho0) hb); have n2_ := Aside0.mk (Kd.R_lower (Kd.R_new' (Kd.R_new' ho0 (Kd.R_lt (by (with_reducible repeat (first | apply Kd.R_alloc | apply Kd.R_drewN | apply Kd.R_drew)); exact (Kd.R_mono (Kd.R_far (p := ⟨gb282, 1, none⟩) (Kd.R_far (p := ⟨gb282, 0, none⟩) (Kd.R_types HO276.out BK282.out (by decide)) (fun _ hk => hk.2) (.string t277)) (fun _ hk => hk.2) (.slice Ao29 t278.length co29)) (fun _ h_ => h_.1))))) (Kd.R_lt (by (with_reducible repeat (first | apply Kd.R_alloc | apply Kd.R_drewN | apply Kd.R_drew)); exact (Kd.R_mono (Kd.R_far (p := ⟨gb282, 1, none⟩) (Kd.R_far (p := ⟨gb282, 0, none⟩) (Kd.R_types HO280.out BK282.out (by decide)) (fun _ hk => hk.2) (.string t277)) (fun _ hk => hk.2) (.slice Ao29 t278.length co29)) (fun _ h_ => h_.1))))) (below_size bG)); have n3_ := Aside0.mk (blk_below (g := gb271) (o := .cells #[.string a0_0, .slice A0_1 l0_1.length c0_1] 24 (0, 0)) (by (with_reducible repeat (first | refine blk_drewN ?_ _ | refine blk_drew ?_ | refine blk_alloc ?_ _)); refine blk_far ?_ NB271_282.out _; (with_reducible repeat (first | refine blk_drewN ?_ _ | refine blk_drew ?_ | refine blk_alloc ?_ _)); refine blk_far ?_ NB271_282.out _; (with_reducible repeat (first | refine blk_drewN ?_ _ | refine blk_drew ?_ | refine blk_alloc ?_ _)); exact BK271.out) hb); have n4_ := Aside0.mk (blk_below (g := gb282) (o := .cells #[.string t277, .slice Ao29 t278.length co29] 28 (0, 0)) (by (with_reducible repeat (first | refine blk_drewN ?_ _ | refine blk_drew ?_ | refine blk_alloc ?_ _)); refine blk_put (cs := #[.string t277, .slice none 0 0]) ?_ 1 _ rfl; (with_reducible repeat (first | refine blk_drewN ?_ _ | refine blk_drew ?_ | refine blk_alloc ?_ _)); refine blk_put (cs := #[.string (⟨#[]⟩ : ByteArray), .slice none 0 0]) ?_ 0 _ rfl; (with_reducible repeat (first | refine blk_drewN ?_ _ | refine blk_drew ?_ | refine blk_alloc ?_ _)); exact BK282.out) hb); have n5_ := Aside0.mk (below_step bG hb); clear HO276; clear HO280; clear BK271; clear BK282; clear HB; have HO276 := n0_; have HO280 := n1_; have HO286 := n2_; have BK271 := n3_; have BK282 := n4_; have HB := n5_; clear n0_ n1_ n2_ n3_ n4_ n5_; (try clear hb); (try clear hb2); (try clear hk); (try clear hi); (try clear ho0)) | ((with_reducible refine gate_dst (N := 12) rfl ?_); refine box_event ?hg (N := 12) ?hd (cs := #[.string (⟨#[]⟩ : ByteArray), .slice none 0 0]) (t := 28) ?hr ?_; (case hd => rfl); (case hg => rfl); (case hr => first | (go_simp; done) | (go_simp; rfl)); intro gb287 hg w32 hbox hb; have n0_ := Aside0.mk (Kd.R_below (rA HO276.out) hb); have n1_ := Aside0.mk (Kd.R_below (rA HO280.out) hb); have n2_ := Aside0.mk (Kd.R_below (rA HO286.out) hb); have n3_ := Aside0.mk (blk_below (g := gb271) (o := .cells #[.string a0_0, .slice A0_1 l0_1.length c0_1] 24 (0, 0)) (kA BK271.out) hb); have n4_ := Aside0.mk (blk_below (g := gb282) (o := .cells #[.string t277, .slice Ao29 t278.length co29] 28 (0, 0)) (kA BK282.out) hb); have n5_ := Aside0.mk (below_step bG hb); have n6_ := Aside0.mk (hbox); have n7_ := Aside0.mk ((by rw [hg]; exact (below_size bG) : w.heap.size ≤ gb287)); have n8_ := Aside0.mk ((by rw [hg]; exact (below_size bG) : w.heap.size ≤ gb287)); have n9_ := Aside0.mk ((by rw [hg]; exact Nat.ne_of_lt (blk_lt (g := gb271) (o := .cells #[.string a0_0, .slice A0_1 l0_1.length c0_1] 24 (0, 0)) (kA BK271.out)) : gb271 ≠ gb287)); have n10_ := Aside0.mk ((by rw [hg]; exact Nat.ne_of_gt (blk_lt (g := gb271) (o := .cells #[.string a0_0, .slice A0_1 l0_1.length c0_1] 24 (0, 0)) (kA BK271.out)) : gb287 ≠ gb271)); have n11_ := Aside0.mk ((by rw [hg]; exact Nat.ne_of_lt (blk_lt (g := gb282) (o := .cells #[.string t277, .slice Ao29 t278.length co29] 28 (0, 0)) (kA BK282.out)) : gb282 ≠ gb287)); have n12_ := Aside0.mk ((by rw [hg]; exact Nat.ne_of_gt (blk_lt (g := gb282) (o := .cells #[.string t277, .slice Ao29 t278.length co29] 28 (0, 0)) (kA BK282.out)) : gb287 ≠ gb282)); clear HO276; clear HO280; clear HO286; clear BK271; clear BK282; clear HB; have HO276 := n0_; have HO280 := n1_; have HO286 := n2_; have BK271 := n3_; have BK282 := n4_; have HB := n5_; have BK287 := n6_; have GW287 := n7_; have GE287 := n8_; have NB271_287 := n9_; have NB287_271 := n10_; have NB282_287 := n11_; have NB287_282 := n12_; clear n0_ n1_ n2_ n3_ n4_ n5_ n6_ n7_ n8_ n9_ n10_ n11_ n12_; clear hb hbox hg; have hnb33 := NB287_271.out; have hnc33 := NB271_287.out; have hnb34 := NB287_282.out; have hnc34 := NB282_287.out; have hcz35_0 : w32.cell? ⟨gb287, 0, none⟩ = some (.string (⟨#[]⟩ : ByteArray)) := (blk_cell BK287.out 0).trans rfl; have hcz35_1 : w32.cell? ⟨gb287, 1, none⟩ = some (.slice none 0 0) := (blk_cell BK287.out 1).trans rfl; have hfz35_0 := blk_frozen BK287.out 0; have hfz35_1 := blk_frozen BK287.out 1; obtain ⟨Ao36, co36, eo36⟩ := Kd.R_slice HO286.out; subst eo36) | ((with_reducible refine gate_callee (f := 7) rfl ?_); refine goesM_ (some 47) rfl rfl Try.func7 (by kernel_rfl) rfl #[.agg #[.string t283, .slice Ao36 t284.length co36], .int .i64 a1, .string a2, .string a3] rfl ?_; (with_reducible refine (impl_Reply.calls t283 _ _ t284 a1 a2 a3 t288 t289 t292 _ ?side1 ?side2 A17.out).mono ?_); (case side1 => refine (Kd.R_reads' (e := 45) (base := w.heap.size) (ok := fun k_ => ((True ∧ some k_ ≠ (.slice Ao24 t274.length co24 : Value).ownBlock) ∧ some k_ ≠ (.slice Ao29 t278.length co29 : Value).ownBlock)) (n := t284.length) (c := co36) ?_).2.2; exact (by (with_reducible repeat (first | apply Kd.R_alloc | apply Kd.R_drewN | apply Kd.R_drew)); exact (Kd.R_mono (Kd.R_far (p := ⟨gb287, 1, none⟩) (Kd.R_far (p := ⟨gb287, 0, none⟩) (Kd.R_types HO286.out BK287.out (by decide)) (fun _ hk => hk.2) (.string t283)) (fun _ hk => hk.2) (.slice Ao36 t284.length co36)) (fun _ h_ => h_.1)))); (case side2 => exact (Kd.R_reads' HO286.out).2.1); rintro e w37 ⟨v290, rfl, ho0, hb⟩; refine ⟨_, rfl, ?_⟩; have n0_ := Aside0.mk (Kd.R_elder' (by (with_reducible repeat (first | apply Kd.R_alloc | apply Kd.R_drewN | apply Kd.R_drew)); exact (Kd.R_mono (Kd.R_far (p := ⟨gb287, 1, none⟩) (Kd.R_far (p := ⟨gb287, 0, none⟩) (Kd.R_types HO276.out BK287.out (by decide)) (fun _ hk => hk.2) (.string t283)) (fun _ hk => hk.2) (.slice Ao36 t284.length co36)) (fun _ h_ => h_.1))) (Kd.R_base ho0) hb); have n1_ := Aside0.mk (Kd.R_elder' (by (with_reducible repeat (first | apply Kd.R_alloc | apply Kd.R_drewN | apply Kd.R_drew)); exact (Kd.R_mono (Kd.R_far (p := ⟨gb287, 1, none⟩) (Kd.R_far (p := ⟨gb287, 0, none⟩) (Kd.R_types HO280.out BK287.out (by decide)) (fun _ hk => hk.2) (.string t283)) (fun _ hk => hk.2) (.slice Ao36 t284.length co36)) (fun _ h_ => h_.1))) (Kd.R_base ho0) hb); have n2_ := Aside0.mk (Kd.R_elder' (by (with_reducible repeat (first | apply Kd.R_alloc | apply Kd.R_drewN | apply Kd.R_drew)); exact (Kd.R_mono (Kd.R_far (p := ⟨gb287, 1, none⟩) (Kd.R_far (p := ⟨gb287, 0, none⟩) (Kd.R_types HO286.out BK287.out (by decide)) (fun _ hk => hk.2) (.string t283)) (fun _ hk => hk.2) (.slice Ao36 t284.length co36)) (fun _ h_ => h_.1))) (Kd.R_base ho0) hb); have n3_ := Aside0.mk (Kd.R_lower (Kd.R_new' (Kd.R_new' (Kd.R_new' ho0 (Kd.R_lt (by (with_reducible repeat (first | apply Kd.R_alloc | apply Kd.R_drewN | apply Kd.R_drew)); exact (Kd.R_mono (Kd.R_far (p := ⟨gb287, 1, none⟩) (Kd.R_far (p := ⟨gb287, 0, none⟩) (Kd.R_types HO276.out BK287.out (by decide)) (fun _ hk => hk.2) (.string t283)) (fun _ hk => hk.2) (.slice Ao36 t284.length co36)) (fun _ h_ => h_.1))))) (Kd.R_lt (by (with_reducible repeat (first | apply Kd.R_alloc | apply Kd.R_drewN | apply Kd.R_drew)); exact (Kd.R_mono (Kd.R_far (p := ⟨gb287, 1, none⟩) (Kd.R_far (p := ⟨gb287, 0, none⟩) (Kd.R_types HO280.out BK287.out (by decide)) (fun _ hk => hk.2) (.string t283)) (fun _ hk => hk.2) (.slice Ao36 t284.length co36)) (fun _ h_ => h_.1))))) (Kd.R_lt (by (with_reducible repeat (first | apply Kd.R_alloc | apply Kd.R_drewN | apply Kd.R_drew)); exact (Kd.R_mono (Kd.R_far (p := ⟨gb287, 1, none⟩) (Kd.R_far (p := ⟨gb287, 0, none⟩) (Kd.R_types HO286.out BK287.out (by decide)) (fun _ hk => hk.2) (.string t283)) (fun _ hk => hk.2) (.slice Ao36 t284.length co36)) (fun _ h_ => h_.1))))) (below_size bG)); have n4_ := Aside0.mk (blk_below (g := gb271) (o := .cells #[.string a0_0, .slice A0_1 l0_1.length c0_1] 24 (0, 0)) (by (with_reducible repeat (first | refine blk_drewN ?_ _ | refine blk_drew ?_ | refine blk_alloc ?_ _)); refine blk_far ?_ NB271_287.out _; (with_reducible repeat (first | refine blk_drewN ?_ _ | refine blk_drew ?_ | refine blk_alloc ?_ _)); refine blk_far ?_ NB271_287.out _; (with_reducible repeat (first | refine blk_drewN ?_ _ | refine blk_drew ?_ | refine blk_alloc ?_ _)); exact BK271.out) hb); have n5_ := Aside0.mk (blk_below (g := gb282) (o := .cells #[.string t277, .slice Ao29 t278.length co29] 28 (0, 0)) (by (with_reducible repeat (first | refine blk_drewN ?_ _ | refine blk_drew ?_ | refine blk_alloc ?_ _)); refine blk_far ?_ NB282_287.out _; (with_reducible repeat (first | refine blk_drewN ?_ _ | refine blk_drew ?_ | refine blk_alloc ?_ _)); refine blk_far ?_ NB282_287.out _; (with_reducible repeat (first | refine blk_drewN ?_ _ | refine blk_drew ?_ | refine blk_alloc ?_ _)); exact BK282.out) hb); have n6_ := Aside0.mk (blk_below (g := gb287) (o := .cells #[.string t283, .slice Ao36 t284.length co36] 28 (0, 0)) (by (with_reducible repeat (first | refine blk_drewN ?_ _ | refine blk_drew ?_ | refine blk_alloc ?_ _)); refine blk_put (cs := #[.string t283, .slice none 0 0]) ?_ 1 _ rfl; (with_reducible repeat (first | refine blk_drewN ?_ _ | refine blk_drew ?_ | refine blk_alloc ?_ _)); refine blk_put (cs := #[.string (⟨#[]⟩ : ByteArray), .slice none 0 0]) ?_ 0 _ rfl; (with_reducible repeat (first | refine blk_drewN ?_ _ | refine blk_drew ?_ | refine blk_alloc ?_ _)); exact BK287.out) hb); have n7_ := Aside0.mk (below_step bG hb); clear HO276; clear HO280; clear HO286; clear BK271; clear BK282; clear BK287; clear HB; have HO276 := n0_; have HO280 := n1_; have HO286 := n2_; have HO291 := n3_; have BK271 := n4_; have BK282 := n5_; have BK287 := n6_; have HB := n7_; clear n0_ n1_ n2_ n3_ n4_ n5_ n6_ n7_; (try clear hb); (try clear hb2); (try clear hk); (try clear hi); (try clear ho0)) | ((with_reducible refine gate_dst (N := 13) rfl ?_); refine box_event ?hg (N := 13) ?hd (cs := #[.string (⟨#[]⟩ : ByteArray), .slice none 0 0]) (t := 28) ?hr ?_; (case hd => rfl); (case hg => rfl); (case hr => first | (go_simp; done) | (go_simp; rfl)); intro gb293 hg w38 hbox hb; have n0_ := Aside0.mk (Kd.R_below (rA HO276.out) hb); have n1_ := Aside0.mk (Kd.R_below (rA HO280.out) hb); have n2_ := Aside0.mk (Kd.R_below (rA HO286.out) hb); have n3_ := Aside0.mk (Kd.R_below (rA HO291.out) hb); have n4_ := Aside0.mk (blk_below (g := gb271) (o := .cells #[.string a0_0, .slice A0_1 l0_1.length c0_1] 24 (0, 0)) (kA BK271.out) hb); have n5_ := Aside0.mk (blk_below (g := gb282) (o := .cells #[.string t277, .slice Ao29 t278.length co29] 28 (0, 0)) (kA BK282.out) hb); have n6_ := Aside0.mk (blk_below (g := gb287) (o := .cells #[.string t283, .slice Ao36 t284.length co36] 28 (0, 0)) (kA BK287.out) hb); have n7_ := Aside0.mk (below_step bG hb); have n8_ := Aside0.mk (hbox); have n9_ := Aside0.mk ((by rw [hg]; exact (below_size bG) : w.heap.size ≤ gb293)); have n10_ := Aside0.mk ((by rw [hg]; exact (below_size bG) : w.heap.size ≤ gb293)); have n11_ := Aside0.mk ((by rw [hg]; exact Nat.ne_of_lt (blk_lt (g := gb271) (o := .cells #[.string a0_0, .slice A0_1 l0_1.length c0_1] 24 (0, 0)) (kA BK271.out)) : gb271 ≠ gb293)); have n12_ := Aside0.mk ((by rw [hg]; exact Nat.ne_of_gt (blk_lt (g := gb271) (o := .cells #[.string a0_0, .slice A0_1 l0_1.length c0_1] 24 (0, 0)) (kA BK271.out)) : gb293 ≠ gb271)); have n13_ := Aside0.mk ((by rw [hg]; exact Nat.ne_of_lt (blk_lt (g := gb282) (o := .cells #[.string t277, .slice Ao29 t278.length co29] 28 (0, 0)) (kA BK282.out)) : gb282 ≠ gb293)); have n14_ := Aside0.mk ((by rw [hg]; exact Nat.ne_of_gt (blk_lt (g := gb282) (o := .cells #[.string t277, .slice Ao29 t278.length co29] 28 (0, 0)) (kA BK282.out)) : gb293 ≠ gb282)); have n15_ := Aside0.mk ((by rw [hg]; exact Nat.ne_of_lt (blk_lt (g := gb287) (o := .cells #[.string t283, .slice Ao36 t284.length co36] 28 (0, 0)) (kA BK287.out)) : gb287 ≠ gb293)); have n16_ := Aside0.mk ((by rw [hg]; exact Nat.ne_of_gt (blk_lt (g := gb287) (o := .cells #[.string t283, .slice Ao36 t284.length co36] 28 (0, 0)) (kA BK287.out)) : gb293 ≠ gb287)); clear HO276; clear HO280; clear HO286; clear HO291; clear BK271; clear BK282; clear BK287; clear HB; have HO276 := n0_; have HO280 := n1_; have HO286 := n2_; have HO291 := n3_; have BK271 := n4_; have BK282 := n5_; have BK287 := n6_; have HB := n7_; have BK293 := n8_; have GW293 := n9_; have GE293 := n10_; have NB271_293 := n11_; have NB293_271 := n12_; have NB282_293 := n13_; have NB293_282 := n14_; have NB287_293 := n15_; have NB293_287 := n16_; clear n0_ n1_ n2_ n3_ n4_ n5_ n6_ n7_ n8_ n9_ n10_ n11_ n12_ n13_ n14_ n15_ n16_; clear hb hbox hg; have hnb39 := NB293_271.out; have hnc39 := NB271_293.out; have hnb40 := NB293_282.out; have hnc40 := NB282_293.out; have hnb41 := NB293_287.out; have hnc41 := NB287_293.out; have hcz42_0 : w38.cell? ⟨gb293, 0, none⟩ = some (.string (⟨#[]⟩ : ByteArray)) := (blk_cell BK293.out 0).trans rfl; have hcz42_1 : w38.cell? ⟨gb293, 1, none⟩ = some (.slice none 0 0) := (blk_cell BK293.out 1).trans rfl; have hfz42_0 := blk_frozen BK293.out 0; have hfz42_1 := blk_frozen BK293.out 1; obtain ⟨Ao43, co43, eo43⟩ := Kd.R_slice HO291.out; subst eo43))
    (try simp only [Act.put, List.setIfInBounds_toArray, List.set_cons_zero, List.set_cons_succ])
    go_cut [58] (fun v58 wc => ∃ (kq : Nat) (x58_17 : Bool), v58 = .bool x58_17 ∧ Aside0 (laws_FnExactReply.j0 kq a1 a2 a3 t281 t292 x58_17 a0_0 l0_1 t277 t278 t283 t284 t288 t289 = some r) ∧ Aside0 (kq ≤ k) ∧ Aside0 (Kd.R k45 45 wc w.heap.size (fun k_ => some k_ ≠ ((.slice Ao36 t284.length co36) : Value).ownBlock ∧ some k_ ≠ ((.slice Ao43 t289.length co43) : Value).ownBlock) (.slice Ao29 t278.length co29) t278) ∧ Aside0 (Kd.R k45 45 wc w.heap.size (fun k_ => some k_ ≠ ((.slice Ao29 t278.length co29) : Value).ownBlock ∧ some k_ ≠ ((.slice Ao43 t289.length co43) : Value).ownBlock) (.slice Ao36 t284.length co36) t284) ∧ Aside0 (Kd.R k45 45 wc w.heap.size (fun k_ => some k_ ≠ ((.slice Ao29 t278.length co29) : Value).ownBlock ∧ some k_ ≠ ((.slice Ao36 t284.length co36) : Value).ownBlock) (.slice Ao43 t289.length co43) t289) ∧ Aside0 (wc.heap[gb271]? = some (.cells #[.string a0_0, (.slice A0_1 l0_1.length c0_1)] 24 (0, 0))) ∧ Aside0 (wc.heap[gb282]? = some (.cells #[.string t277, (.slice Ao29 t278.length co29)] 28 (0, 0))) ∧ Aside0 (wc.heap[gb287]? = some (.cells #[.string t283, (.slice Ao36 t284.length co36)] 28 (0, 0))) ∧ Aside0 (wc.heap[gb293]? = some (.cells #[.string t288, (.slice Ao43 t289.length co43)] 28 (0, 0))) ∧ Aside0 (Below w.heap.size w wc))
    case first =>
     have H := HC18.out
     clear HC18
     replace H := Option.bind_eq_some_iff.mp H
     obtain ⟨t294, A440, H⟩ := H
     replace H : (if t294 = true then (laws_FnExactReply.j0 k a1 a2 a3 t281 t292 (t292 != t281) a0_0 l0_1 t277 t278 t283 t284 t288 t289) else (laws_FnExactReply.j0 k a1 a2 a3 t281 t292 true a0_0 l0_1 t277 t278 t283 t284 t288 t289)) = some r := H
     have A44 := Aside0.mk A440
     clear A440
     by_cases c45 : t294 = true
     ·subst c45
      have H1 : (laws_FnExactReply.j0 k a1 a2 a3 t281 t292 (t292 != t281) a0_0 l0_1 t277 t278 t283 t284 t288 t289) = some r := by rw [if_pos rfl] at H; exact H
      clear H
      have H := H1
      clear H1
      have H' := Aside0.mk H
      clear H
      have hnb46 := NB293_271.out
      have hnc46 := NB271_293.out
      have hnb47 := NB293_282.out
      have hnc47 := NB282_293.out
      have hnb48 := NB293_287.out
      have hnc48 := NB287_293.out
      have hcz49_0 : w38.cell? ⟨gb293, 0, none⟩ = some (.string (⟨#[]⟩ : ByteArray)) := (blk_cell BK293.out 0).trans rfl
      have hcz49_1 : w38.cell? ⟨gb293, 1, none⟩ = some (.slice none 0 0) := (blk_cell BK293.out 1).trans rfl
      have hfz49_0 := blk_frozen BK293.out 0
      have hfz49_1 := blk_frozen BK293.out 1
      have hnb50 := NB282_271.out
      have hnc50 := NB271_282.out
      have hnb51 := NB282_287.out
      have hnc51 := NB287_282.out
      have hcz52_0 : w38.cell? ⟨gb282, 0, none⟩ = some (.string t277) := (blk_cell BK282.out 0).trans rfl
      have hcz52_1 : w38.cell? ⟨gb282, 1, none⟩ = some (.slice Ao29 t278.length co29) := (blk_cell BK282.out 1).trans rfl
      have hfz52_0 := blk_frozen BK282.out 0
      have hfz52_1 := blk_frozen BK282.out 1
      go_wp2_with (first | ((with_reducible refine gate_callee (f := 8) rfl ?_); refine goesM_ (some 52) rfl rfl Try.func8 (by kernel_rfl) rfl #[.agg #[.string t288, .slice Ao43 t289.length co43], .agg #[.string t277, .slice Ao29 t278.length co29]] rfl ?_; (with_reducible refine (laws_eqMsg.calls k t288 _ _ t289 t277 _ _ t278 true _ ?side1 ?side2 ?side3 ?side4 A44.out).mono ?_); (case side1 => refine (Kd.R_reads' (e := 45) (base := w.heap.size) (ok := fun k_ => (((True ∧ some k_ ≠ (.slice Ao24 t274.length co24 : Value).ownBlock) ∧ some k_ ≠ (.slice Ao29 t278.length co29 : Value).ownBlock) ∧ some k_ ≠ (.slice Ao36 t284.length co36 : Value).ownBlock)) (n := t289.length) (c := co43) ?_).2.2; exact (by (with_reducible repeat (first | apply Kd.R_alloc | apply Kd.R_drewN | apply Kd.R_drew)); exact (Kd.R_mono (Kd.R_far (p := ⟨gb293, 1, none⟩) (Kd.R_far (p := ⟨gb293, 0, none⟩) (Kd.R_types HO291.out BK293.out (by decide)) (fun _ hk => hk.2) (.string t288)) (fun _ hk => hk.2) (.slice Ao43 t289.length co43)) (fun _ h_ => h_.1)))); (case side2 => exact (Kd.R_reads' HO291.out).2.1); (case side3 => refine (Kd.R_reads' (e := 45) (base := w.heap.size) (ok := fun k_ => (((True ∧ some k_ ≠ (.slice Ao24 t274.length co24 : Value).ownBlock) ∧ some k_ ≠ (.slice Ao36 t284.length co36 : Value).ownBlock) ∧ some k_ ≠ (.slice Ao43 t289.length co43 : Value).ownBlock)) (n := t278.length) (c := co29) ?_).2.2; exact (by (with_reducible repeat (first | apply Kd.R_alloc | apply Kd.R_drewN | apply Kd.R_drew)); exact (Kd.R_mono (Kd.R_far (p := ⟨gb293, 1, none⟩) (Kd.R_far (p := ⟨gb293, 0, none⟩) (Kd.R_types HO280.out BK293.out (by decide)) (fun _ hk => hk.2) (.string t288)) (fun _ hk => hk.2) (.slice Ao43 t289.length co43)) (fun _ h_ => h_.1)))); (case side4 => exact (Kd.R_reads' HO280.out).2.1); rintro e w53 ⟨rfl, hb⟩; refine ⟨_, rfl, ?_⟩; have n0_ := Aside0.mk (Kd.R_below (by (with_reducible repeat (first | apply Kd.R_alloc | apply Kd.R_drewN | apply Kd.R_drew)); exact (Kd.R_mono (Kd.R_far (p := ⟨gb293, 1, none⟩) (Kd.R_far (p := ⟨gb293, 0, none⟩) (Kd.R_types HO276.out BK293.out (by decide)) (fun _ hk => hk.2) (.string t288)) (fun _ hk => hk.2) (.slice Ao43 t289.length co43)) (fun _ h_ => h_.1))) hb); have n1_ := Aside0.mk (Kd.R_below (by (with_reducible repeat (first | apply Kd.R_alloc | apply Kd.R_drewN | apply Kd.R_drew)); exact (Kd.R_mono (Kd.R_far (p := ⟨gb293, 1, none⟩) (Kd.R_far (p := ⟨gb293, 0, none⟩) (Kd.R_types HO280.out BK293.out (by decide)) (fun _ hk => hk.2) (.string t288)) (fun _ hk => hk.2) (.slice Ao43 t289.length co43)) (fun _ h_ => h_.1))) hb); have n2_ := Aside0.mk (Kd.R_below (by (with_reducible repeat (first | apply Kd.R_alloc | apply Kd.R_drewN | apply Kd.R_drew)); exact (Kd.R_mono (Kd.R_far (p := ⟨gb293, 1, none⟩) (Kd.R_far (p := ⟨gb293, 0, none⟩) (Kd.R_types HO286.out BK293.out (by decide)) (fun _ hk => hk.2) (.string t288)) (fun _ hk => hk.2) (.slice Ao43 t289.length co43)) (fun _ h_ => h_.1))) hb); have n3_ := Aside0.mk (Kd.R_below (by (with_reducible repeat (first | apply Kd.R_alloc | apply Kd.R_drewN | apply Kd.R_drew)); exact (Kd.R_mono (Kd.R_far (p := ⟨gb293, 1, none⟩) (Kd.R_far (p := ⟨gb293, 0, none⟩) (Kd.R_types HO291.out BK293.out (by decide)) (fun _ hk => hk.2) (.string t288)) (fun _ hk => hk.2) (.slice Ao43 t289.length co43)) (fun _ h_ => h_.1))) hb); have n4_ := Aside0.mk (blk_below (g := gb271) (o := .cells #[.string a0_0, .slice A0_1 l0_1.length c0_1] 24 (0, 0)) (by (with_reducible repeat (first | refine blk_drewN ?_ _ | refine blk_drew ?_ | refine blk_alloc ?_ _)); refine blk_far ?_ NB271_293.out _; (with_reducible repeat (first | refine blk_drewN ?_ _ | refine blk_drew ?_ | refine blk_alloc ?_ _)); refine blk_far ?_ NB271_293.out _; (with_reducible repeat (first | refine blk_drewN ?_ _ | refine blk_drew ?_ | refine blk_alloc ?_ _)); exact BK271.out) hb); have n5_ := Aside0.mk (blk_below (g := gb282) (o := .cells #[.string t277, .slice Ao29 t278.length co29] 28 (0, 0)) (by (with_reducible repeat (first | refine blk_drewN ?_ _ | refine blk_drew ?_ | refine blk_alloc ?_ _)); refine blk_far ?_ NB282_293.out _; (with_reducible repeat (first | refine blk_drewN ?_ _ | refine blk_drew ?_ | refine blk_alloc ?_ _)); refine blk_far ?_ NB282_293.out _; (with_reducible repeat (first | refine blk_drewN ?_ _ | refine blk_drew ?_ | refine blk_alloc ?_ _)); exact BK282.out) hb); have n6_ := Aside0.mk (blk_below (g := gb287) (o := .cells #[.string t283, .slice Ao36 t284.length co36] 28 (0, 0)) (by (with_reducible repeat (first | refine blk_drewN ?_ _ | refine blk_drew ?_ | refine blk_alloc ?_ _)); refine blk_far ?_ NB287_293.out _; (with_reducible repeat (first | refine blk_drewN ?_ _ | refine blk_drew ?_ | refine blk_alloc ?_ _)); refine blk_far ?_ NB287_293.out _; (with_reducible repeat (first | refine blk_drewN ?_ _ | refine blk_drew ?_ | refine blk_alloc ?_ _)); exact BK287.out) hb); have n7_ := Aside0.mk (blk_below (g := gb293) (o := .cells #[.string t288, .slice Ao43 t289.length co43] 28 (0, 0)) (by (with_reducible repeat (first | refine blk_drewN ?_ _ | refine blk_drew ?_ | refine blk_alloc ?_ _)); refine blk_put (cs := #[.string t288, .slice none 0 0]) ?_ 1 _ rfl; (with_reducible repeat (first | refine blk_drewN ?_ _ | refine blk_drew ?_ | refine blk_alloc ?_ _)); refine blk_put (cs := #[.string (⟨#[]⟩ : ByteArray), .slice none 0 0]) ?_ 0 _ rfl; (with_reducible repeat (first | refine blk_drewN ?_ _ | refine blk_drew ?_ | refine blk_alloc ?_ _)); exact BK293.out) hb); have n8_ := Aside0.mk (below_step bG hb); clear HO276; clear HO280; clear HO286; clear HO291; clear BK271; clear BK282; clear BK287; clear BK293; clear HB; have HO276 := n0_; have HO280 := n1_; have HO286 := n2_; have HO291 := n3_; have BK271 := n4_; have BK282 := n5_; have BK287 := n6_; have BK293 := n7_; have HB := n8_; clear n0_ n1_ n2_ n3_ n4_ n5_ n6_ n7_ n8_; (try clear hb); (try clear hb2); (try clear hk); (try clear hi)))
      go_meet
      case rel => exact ⟨_, ((t292 != t281)), (by first | rfl | (simp; done) | (simp [*]; done) | (simp [i64_w, IntKind.wrap_u8, e256_]; done) | (simp; generalize ByteArray.toList _ = zz_; cases zz_ <;> rfl)), H', ⟨by first | omega | exact Nat.le_refl _⟩, ⟨by (with_reducible repeat (first | apply Kd.R_alloc | apply Kd.R_drewN | apply Kd.R_drew)); exact Kd.R_mono HO280.out (fun _ hk => ⟨hk.1.2, hk.2⟩)⟩, ⟨by (with_reducible repeat (first | apply Kd.R_alloc | apply Kd.R_drewN | apply Kd.R_drew)); exact Kd.R_mono HO286.out (fun _ hk => ⟨hk.1.2, hk.2⟩)⟩, ⟨by (with_reducible repeat (first | apply Kd.R_alloc | apply Kd.R_drewN | apply Kd.R_drew)); exact Kd.R_mono HO291.out (fun _ hk => ⟨hk.1.2, hk.2⟩)⟩, ⟨kA BK271.out⟩, ⟨kA BK282.out⟩, ⟨kA BK287.out⟩, ⟨kA BK293.out⟩, ⟨bG⟩⟩
     ·replace c45 := Bool.eq_false_iff.mpr c45
      subst c45
      have H1 : (laws_FnExactReply.j0 k a1 a2 a3 t281 t292 true a0_0 l0_1 t277 t278 t283 t284 t288 t289) = some r := by rw [if_neg (show ¬ (false = true) by decide)] at H; exact H
      clear H
      have H := H1
      clear H1
      have H' := Aside0.mk H
      clear H
      have hnb54 := NB293_271.out
      have hnc54 := NB271_293.out
      have hnb55 := NB293_282.out
      have hnc55 := NB282_293.out
      have hnb56 := NB293_287.out
      have hnc56 := NB287_293.out
      have hcz57_0 : w38.cell? ⟨gb293, 0, none⟩ = some (.string (⟨#[]⟩ : ByteArray)) := (blk_cell BK293.out 0).trans rfl
      have hcz57_1 : w38.cell? ⟨gb293, 1, none⟩ = some (.slice none 0 0) := (blk_cell BK293.out 1).trans rfl
      have hfz57_0 := blk_frozen BK293.out 0
      have hfz57_1 := blk_frozen BK293.out 1
      have hnb58 := NB282_271.out
      have hnc58 := NB271_282.out
      have hnb59 := NB282_287.out
      have hnc59 := NB287_282.out
      have hcz60_0 : w38.cell? ⟨gb282, 0, none⟩ = some (.string t277) := (blk_cell BK282.out 0).trans rfl
      have hcz60_1 : w38.cell? ⟨gb282, 1, none⟩ = some (.slice Ao29 t278.length co29) := (blk_cell BK282.out 1).trans rfl
      have hfz60_0 := blk_frozen BK282.out 0
      have hfz60_1 := blk_frozen BK282.out 1
      go_wp2_with (first | ((with_reducible refine gate_callee (f := 8) rfl ?_); refine goesM_ (some 52) rfl rfl Try.func8 (by kernel_rfl) rfl #[.agg #[.string t288, .slice Ao43 t289.length co43], .agg #[.string t277, .slice Ao29 t278.length co29]] rfl ?_; (with_reducible refine (laws_eqMsg.calls k t288 _ _ t289 t277 _ _ t278 false _ ?side1 ?side2 ?side3 ?side4 A44.out).mono ?_); (case side1 => refine (Kd.R_reads' (e := 45) (base := w.heap.size) (ok := fun k_ => (((True ∧ some k_ ≠ (.slice Ao24 t274.length co24 : Value).ownBlock) ∧ some k_ ≠ (.slice Ao29 t278.length co29 : Value).ownBlock) ∧ some k_ ≠ (.slice Ao36 t284.length co36 : Value).ownBlock)) (n := t289.length) (c := co43) ?_).2.2; exact (by (with_reducible repeat (first | apply Kd.R_alloc | apply Kd.R_drewN | apply Kd.R_drew)); exact (Kd.R_mono (Kd.R_far (p := ⟨gb293, 1, none⟩) (Kd.R_far (p := ⟨gb293, 0, none⟩) (Kd.R_types HO291.out BK293.out (by decide)) (fun _ hk => hk.2) (.string t288)) (fun _ hk => hk.2) (.slice Ao43 t289.length co43)) (fun _ h_ => h_.1)))); (case side2 => exact (Kd.R_reads' HO291.out).2.1); (case side3 => refine (Kd.R_reads' (e := 45) (base := w.heap.size) (ok := fun k_ => (((True ∧ some k_ ≠ (.slice Ao24 t274.length co24 : Value).ownBlock) ∧ some k_ ≠ (.slice Ao36 t284.length co36 : Value).ownBlock) ∧ some k_ ≠ (.slice Ao43 t289.length co43 : Value).ownBlock)) (n := t278.length) (c := co29) ?_).2.2; exact (by (with_reducible repeat (first | apply Kd.R_alloc | apply Kd.R_drewN | apply Kd.R_drew)); exact (Kd.R_mono (Kd.R_far (p := ⟨gb293, 1, none⟩) (Kd.R_far (p := ⟨gb293, 0, none⟩) (Kd.R_types HO280.out BK293.out (by decide)) (fun _ hk => hk.2) (.string t288)) (fun _ hk => hk.2) (.slice Ao43 t289.length co43)) (fun _ h_ => h_.1)))); (case side4 => exact (Kd.R_reads' HO280.out).2.1); rintro e w61 ⟨rfl, hb⟩; refine ⟨_, rfl, ?_⟩; have n0_ := Aside0.mk (Kd.R_below (by (with_reducible repeat (first | apply Kd.R_alloc | apply Kd.R_drewN | apply Kd.R_drew)); exact (Kd.R_mono (Kd.R_far (p := ⟨gb293, 1, none⟩) (Kd.R_far (p := ⟨gb293, 0, none⟩) (Kd.R_types HO276.out BK293.out (by decide)) (fun _ hk => hk.2) (.string t288)) (fun _ hk => hk.2) (.slice Ao43 t289.length co43)) (fun _ h_ => h_.1))) hb); have n1_ := Aside0.mk (Kd.R_below (by (with_reducible repeat (first | apply Kd.R_alloc | apply Kd.R_drewN | apply Kd.R_drew)); exact (Kd.R_mono (Kd.R_far (p := ⟨gb293, 1, none⟩) (Kd.R_far (p := ⟨gb293, 0, none⟩) (Kd.R_types HO280.out BK293.out (by decide)) (fun _ hk => hk.2) (.string t288)) (fun _ hk => hk.2) (.slice Ao43 t289.length co43)) (fun _ h_ => h_.1))) hb); have n2_ := Aside0.mk (Kd.R_below (by (with_reducible repeat (first | apply Kd.R_alloc | apply Kd.R_drewN | apply Kd.R_drew)); exact (Kd.R_mono (Kd.R_far (p := ⟨gb293, 1, none⟩) (Kd.R_far (p := ⟨gb293, 0, none⟩) (Kd.R_types HO286.out BK293.out (by decide)) (fun _ hk => hk.2) (.string t288)) (fun _ hk => hk.2) (.slice Ao43 t289.length co43)) (fun _ h_ => h_.1))) hb); have n3_ := Aside0.mk (Kd.R_below (by (with_reducible repeat (first | apply Kd.R_alloc | apply Kd.R_drewN | apply Kd.R_drew)); exact (Kd.R_mono (Kd.R_far (p := ⟨gb293, 1, none⟩) (Kd.R_far (p := ⟨gb293, 0, none⟩) (Kd.R_types HO291.out BK293.out (by decide)) (fun _ hk => hk.2) (.string t288)) (fun _ hk => hk.2) (.slice Ao43 t289.length co43)) (fun _ h_ => h_.1))) hb); have n4_ := Aside0.mk (blk_below (g := gb271) (o := .cells #[.string a0_0, .slice A0_1 l0_1.length c0_1] 24 (0, 0)) (by (with_reducible repeat (first | refine blk_drewN ?_ _ | refine blk_drew ?_ | refine blk_alloc ?_ _)); refine blk_far ?_ NB271_293.out _; (with_reducible repeat (first | refine blk_drewN ?_ _ | refine blk_drew ?_ | refine blk_alloc ?_ _)); refine blk_far ?_ NB271_293.out _; (with_reducible repeat (first | refine blk_drewN ?_ _ | refine blk_drew ?_ | refine blk_alloc ?_ _)); exact BK271.out) hb); have n5_ := Aside0.mk (blk_below (g := gb282) (o := .cells #[.string t277, .slice Ao29 t278.length co29] 28 (0, 0)) (by (with_reducible repeat (first | refine blk_drewN ?_ _ | refine blk_drew ?_ | refine blk_alloc ?_ _)); refine blk_far ?_ NB282_293.out _; (with_reducible repeat (first | refine blk_drewN ?_ _ | refine blk_drew ?_ | refine blk_alloc ?_ _)); refine blk_far ?_ NB282_293.out _; (with_reducible repeat (first | refine blk_drewN ?_ _ | refine blk_drew ?_ | refine blk_alloc ?_ _)); exact BK282.out) hb); have n6_ := Aside0.mk (blk_below (g := gb287) (o := .cells #[.string t283, .slice Ao36 t284.length co36] 28 (0, 0)) (by (with_reducible repeat (first | refine blk_drewN ?_ _ | refine blk_drew ?_ | refine blk_alloc ?_ _)); refine blk_far ?_ NB287_293.out _; (with_reducible repeat (first | refine blk_drewN ?_ _ | refine blk_drew ?_ | refine blk_alloc ?_ _)); refine blk_far ?_ NB287_293.out _; (with_reducible repeat (first | refine blk_drewN ?_ _ | refine blk_drew ?_ | refine blk_alloc ?_ _)); exact BK287.out) hb); have n7_ := Aside0.mk (blk_below (g := gb293) (o := .cells #[.string t288, .slice Ao43 t289.length co43] 28 (0, 0)) (by (with_reducible repeat (first | refine blk_drewN ?_ _ | refine blk_drew ?_ | refine blk_alloc ?_ _)); refine blk_put (cs := #[.string t288, .slice none 0 0]) ?_ 1 _ rfl; (with_reducible repeat (first | refine blk_drewN ?_ _ | refine blk_drew ?_ | refine blk_alloc ?_ _)); refine blk_put (cs := #[.string (⟨#[]⟩ : ByteArray), .slice none 0 0]) ?_ 0 _ rfl; (with_reducible repeat (first | refine blk_drewN ?_ _ | refine blk_drew ?_ | refine blk_alloc ?_ _)); exact BK293.out) hb); have n8_ := Aside0.mk (below_step bG hb); clear HO276; clear HO280; clear HO286; clear HO291; clear BK271; clear BK282; clear BK287; clear BK293; clear HB; have HO276 := n0_; have HO280 := n1_; have HO286 := n2_; have HO291 := n3_; have BK271 := n4_; have BK282 := n5_; have BK287 := n6_; have BK293 := n7_; have HB := n8_; clear n0_ n1_ n2_ n3_ n4_ n5_ n6_ n7_ n8_; (try clear hb); (try clear hb2); (try clear hk); (try clear hi)))
      go_meet
      case rel => exact ⟨_, (true), (by first | rfl | (simp; done) | (simp [*]; done) | (simp [i64_w, IntKind.wrap_u8, e256_]; done) | (simp; generalize ByteArray.toList _ = zz_; cases zz_ <;> rfl)), H', ⟨by first | omega | exact Nat.le_refl _⟩, ⟨by (with_reducible repeat (first | apply Kd.R_alloc | apply Kd.R_drewN | apply Kd.R_drew)); exact Kd.R_mono HO280.out (fun _ hk => ⟨hk.1.2, hk.2⟩)⟩, ⟨by (with_reducible repeat (first | apply Kd.R_alloc | apply Kd.R_drewN | apply Kd.R_drew)); exact Kd.R_mono HO286.out (fun _ hk => ⟨hk.1.2, hk.2⟩)⟩, ⟨by (with_reducible repeat (first | apply Kd.R_alloc | apply Kd.R_drewN | apply Kd.R_drew)); exact Kd.R_mono HO291.out (fun _ hk => ⟨hk.1.2, hk.2⟩)⟩, ⟨kA BK271.out⟩, ⟨kA BK282.out⟩, ⟨kA BK287.out⟩, ⟨kA BK293.out⟩, ⟨bG⟩⟩
    case rest =>
     clear HC18
     try clear c1
     try clear c2
     try clear p2
     try clear c3
     try clear c4
     try clear c5
     try clear c5b0
     try clear c5b1
     try clear c6
     try clear p6
     try clear c7
     try clear c7b0
     try clear c7b1
     try clear c8
     try clear c10
     try clear c10b0
     try clear c27
     try clear c33
     try clear c34
     try clear c39
     try clear c40
     try clear c41
     try clear c45
     try clear c46
     try clear c47
     try clear c48
     try clear c50
     try clear c51
     try clear c54
     try clear c55
     try clear c56
     try clear c58
     try clear c59
     try clear hcz12_0
     try clear hcz12_1
     try clear hcz20_0
     try clear hcz20_1
     try clear hcz22_0
     try clear hcz22_1
     try clear hcz28_0
     try clear hcz28_1
     try clear hcz30_0
     try clear hcz30_1
     try clear hcz35_0
     try clear hcz35_1
     try clear hcz42_0
     try clear hcz42_1
     try clear hcz49_0
     try clear hcz49_1
     try clear hcz52_0
     try clear hcz52_1
     try clear hcz57_0
     try clear hcz57_1
     try clear hcz60_0
     try clear hcz60_1
     try clear hfz12_0
     try clear hfz12_1
     try clear hfz20_0
     try clear hfz20_1
     try clear hfz22_0
     try clear hfz22_1
     try clear hfz28_0
     try clear hfz28_1
     try clear hfz30_0
     try clear hfz30_1
     try clear hfz35_0
     try clear hfz35_1
     try clear hfz42_0
     try clear hfz42_1
     try clear hfz49_0
     try clear hfz49_1
     try clear hfz52_0
     try clear hfz52_1
     try clear hfz57_0
     try clear hfz57_1
     try clear hfz60_0
     try clear hfz60_1
     obtain ⟨kq, x58_17, rfl, HA, HJ17, HO_283001, HO_288001, HO_294001, BK271, BK282, BK287, BK293, HB⟩ := hcut
     cases kq with
     | zero => exact absurd HA.out (by simp [laws_FnExactReply.j0])
     | succ kj17 =>
      have H := HA.out
      clear HA
      simp only [laws_FnExactReply.j0] at H
      by_cases c62 : x58_17 = true
      ·subst c62
       have H1 : (some false) = some r := by rw [if_pos rfl] at H; exact H
       clear H
       have H := H1
       clear H1
       obtain rfl := Option.some.inj H
       exact absurd hr_ (by simp)
      ·replace c62 := Bool.eq_false_iff.mpr c62
       subst c62
       have H1 : ((laws_toMsg.f kj17 a0_0 l0_1).bind fun bt295 => ((laws_eqMsg.f kj17 t283 t284 bt295.1 bt295.2).bind fun t299 => (if t299 = true then ((laws_markMsg.f kj17 t283 t284 1).bind fun bt300 => (if bt300.1 < 0 then (laws_FnExactReply.j1 kj17 a1 a2 a3 t281 true a0_0 l0_1 t277 t278 t288 t289) else ((laws_eqMsg.f kj17 t288 t289 t277 t278).bind fun t302 => (if t302 = true then (laws_FnExactReply.j1 kj17 a1 a2 a3 t281 (t292 != t281) a0_0 l0_1 t277 t278 t288 t289) else (laws_FnExactReply.j1 kj17 a1 a2 a3 t281 true a0_0 l0_1 t277 t278 t288 t289))))) else (some false)))) = some r := by rw [if_neg (show ¬ (false = true) by decide)] at H; exact H
       clear H
       have H := H1
       clear H1
       replace H := Option.bind_eq_some_iff.mp H
       obtain ⟨⟨t295, t296⟩, A630, H⟩ := H
       replace H : ((laws_eqMsg.f kj17 t283 t284 t295 t296).bind fun t299 => (if t299 = true then ((laws_markMsg.f kj17 t283 t284 1).bind fun bt300 => (if bt300.1 < 0 then (laws_FnExactReply.j1 kj17 a1 a2 a3 t281 true a0_0 l0_1 t277 t278 t288 t289) else ((laws_eqMsg.f kj17 t288 t289 t277 t278).bind fun t302 => (if t302 = true then (laws_FnExactReply.j1 kj17 a1 a2 a3 t281 (t292 != t281) a0_0 l0_1 t277 t278 t288 t289) else (laws_FnExactReply.j1 kj17 a1 a2 a3 t281 true a0_0 l0_1 t277 t278 t288 t289))))) else (some false))) = some r := H
       have A63 := Aside0.mk A630
       clear A630
       replace H := Option.bind_eq_some_iff.mp H
       obtain ⟨t299, A640, H⟩ := H
       replace H : (if t299 = true then ((laws_markMsg.f kj17 t283 t284 1).bind fun bt300 => (if bt300.1 < 0 then (laws_FnExactReply.j1 kj17 a1 a2 a3 t281 true a0_0 l0_1 t277 t278 t288 t289) else ((laws_eqMsg.f kj17 t288 t289 t277 t278).bind fun t302 => (if t302 = true then (laws_FnExactReply.j1 kj17 a1 a2 a3 t281 (t292 != t281) a0_0 l0_1 t277 t278 t288 t289) else (laws_FnExactReply.j1 kj17 a1 a2 a3 t281 true a0_0 l0_1 t277 t278 t288 t289))))) else (some false)) = some r := H
       have A64 := Aside0.mk A640
       clear A640
       by_cases c65 : t299 = true
       ·subst c65
        have H1 : ((laws_markMsg.f kj17 t283 t284 1).bind fun bt300 => (if bt300.1 < 0 then (laws_FnExactReply.j1 kj17 a1 a2 a3 t281 true a0_0 l0_1 t277 t278 t288 t289) else ((laws_eqMsg.f kj17 t288 t289 t277 t278).bind fun t302 => (if t302 = true then (laws_FnExactReply.j1 kj17 a1 a2 a3 t281 (t292 != t281) a0_0 l0_1 t277 t278 t288 t289) else (laws_FnExactReply.j1 kj17 a1 a2 a3 t281 true a0_0 l0_1 t277 t278 t288 t289))))) = some r := by rw [if_pos rfl] at H; exact H
        clear H
        have H := H1
        clear H1
        replace H := Option.bind_eq_some_iff.mp H
        obtain ⟨⟨t300, t301⟩, A660, H⟩ := H
        replace H : (if t300 < 0 then (laws_FnExactReply.j1 kj17 a1 a2 a3 t281 true a0_0 l0_1 t277 t278 t288 t289) else ((laws_eqMsg.f kj17 t288 t289 t277 t278).bind fun t302 => (if t302 = true then (laws_FnExactReply.j1 kj17 a1 a2 a3 t281 (t292 != t281) a0_0 l0_1 t277 t278 t288 t289) else (laws_FnExactReply.j1 kj17 a1 a2 a3 t281 true a0_0 l0_1 t277 t278 t288 t289)))) = some r := H
        have A66 := Aside0.mk A660
        clear A660
        have HC67 := Aside0.mk H
        clear H
        try go_wp2
        have n0_ := Aside0.mk (Kd.R_drew HO_283001.out)
        have n1_ := Aside0.mk (Kd.R_drew HO_288001.out)
        have n2_ := Aside0.mk (Kd.R_drew HO_294001.out)
        have n3_ := Aside0.mk (blk_drew BK271.out)
        have n4_ := Aside0.mk (blk_drew BK282.out)
        have n5_ := Aside0.mk (blk_drew BK287.out)
        have n6_ := Aside0.mk (blk_drew BK293.out)
        have n7_ := Aside0.mk (below_drew1 HB.out)
        clear HO_283001
        clear HO_288001
        clear HO_294001
        clear BK271
        clear BK282
        clear BK287
        clear BK293
        clear HB
        have HO_283001 := n0_
        have HO_288001 := n1_
        have HO_294001 := n2_
        have BK271 := n3_
        have BK282 := n4_
        have BK287 := n5_
        have BK293 := n6_
        have HB := n7_
        clear n0_ n1_ n2_ n3_ n4_ n5_ n6_ n7_
        refine start_ (n := 5) (S := fun w' => w'.cell? ⟨gb287, 0, none⟩ = some (.string t283) ∧ w'.cell? ⟨gb287, 1, none⟩ = some (.slice Ao36 t284.length co36) ∧ w'.cell? ⟨gb271, 0, none⟩ = some (.string a0_0) ∧ w'.cell? ⟨gb271, 1, none⟩ = some (.slice A0_1 l0_1.length c0_1)) (ds := []) #[false, false, false, false, false] (by kernel_rfl) rfl rfl ⟨(blk_cell BK287.out 0).trans rfl, (blk_cell BK287.out 1).trans rfl, (blk_cell BK271.out 0).trans rfl, (blk_cell BK271.out 1).trans rfl⟩ (fun hHeld => ?_)
        generalize wc.drew = w68 at HO_283001 HO_288001 HO_294001 BK271 BK282 BK287 BK293 HB hHeld ⊢
        refine take_ (i := 0) (N := some 59) (v := ?_) (a' := ?_) #[true, false, false, false, false] rfl rfl (by kernel_rfl) (fun _ _ _ h => h) (Or.inl ⟨by rfl, ?_⟩) hHeld ?_ ?_
        rotate_left
        ·rintro w' ⟨s0, s1, s2, s3⟩
         go_simp
         with_reducible rfl
        rotate_left
        ·simp only [Act.put, List.setIfInBounds_toArray, List.set_cons_zero, List.set_cons_succ, i64_w, i32_w]
         rfl
        refine take_ (i := 1) (N := some 60) (v := ?_) (a' := ?_) #[true, true, false, false, false] rfl rfl (by kernel_rfl) (fun _ _ _ h => h) (Or.inl ⟨by rfl, ?_⟩) hHeld ?_ ?_
        rotate_left
        ·rintro w' ⟨s0, s1, s2, s3⟩
         go_simp
         with_reducible rfl
        rotate_left
        ·simp only [Act.put, List.setIfInBounds_toArray, List.set_cons_zero, List.set_cons_succ, i64_w, i32_w]
         rfl
        refine one_ (i := 2) (N := some 61) #[true, true, true, false, false] rfl rfl (by kernel_rfl) (by decide) (fun K hK => ?_)
        refine goes_ Try.func6 (by kernel_rfl) rfl #[.agg #[.string a0_0, .slice A0_1 l0_1.length c0_1]] (by rfl) rfl rfl (by (try simp only [List.map_toArray, List.map_cons, List.map_nil]); first | done | rfl | (simp only [List.length_drop, List.length_take]; rfl)) ?_
        with_reducible refine (laws_toMsg.calls kj17 a0_0 _ _ l0_1 t295 t296 _ ?side1 ?side2 A63.out).mono ?_
        (case side1 => repeat (first | exact (Kd.C_below HR0_1.out HB.out) | (with_reducible refine Kd.C_alloc ?_ _) | (with_reducible refine Kd.C_drewN ?_ _) | (with_reducible refine Kd.C_drew ?_)))
        (case side2 => exact HC0_1.out)
        rintro e w69 ⟨v297, rfl, ho0, hb⟩
        refine ⟨_, rfl, ?_⟩
        have n0_ := Aside0.mk (Kd.R_elder' (rA HO_283001.out) (Kd.R_base ho0) hb)
        have n1_ := Aside0.mk (Kd.R_elder' (rA HO_288001.out) (Kd.R_base ho0) hb)
        have n2_ := Aside0.mk (Kd.R_elder' (rA HO_294001.out) (Kd.R_base ho0) hb)
        have n3_ := Aside0.mk (Kd.R_lower (Kd.R_new' (Kd.R_new' (Kd.R_new' ho0 (Kd.R_lt (rA HO_283001.out))) (Kd.R_lt (rA HO_288001.out))) (Kd.R_lt (rA HO_294001.out))) (below_size bG))
        have n4_ := Aside0.mk (blk_below (g := gb271) (o := .cells #[.string a0_0, .slice A0_1 l0_1.length c0_1] 24 (0, 0)) (kA BK271.out) hb)
        have n5_ := Aside0.mk (blk_below (g := gb282) (o := .cells #[.string t277, .slice Ao29 t278.length co29] 28 (0, 0)) (kA BK282.out) hb)
        have n6_ := Aside0.mk (blk_below (g := gb287) (o := .cells #[.string t283, .slice Ao36 t284.length co36] 28 (0, 0)) (kA BK287.out) hb)
        have n7_ := Aside0.mk (blk_below (g := gb293) (o := .cells #[.string t288, .slice Ao43 t289.length co43] 28 (0, 0)) (kA BK293.out) hb)
        have n8_ := Aside0.mk (below_step bG hb)
        clear HO_283001
        clear HO_288001
        clear HO_294001
        clear BK271
        clear BK282
        clear BK287
        clear BK293
        clear HB
        have HO_283001 := n0_
        have HO_288001 := n1_
        have HO_294001 := n2_
        have HO298 := n3_
        have BK271 := n4_
        have BK282 := n5_
        have BK287 := n6_
        have BK293 := n7_
        have HB := n8_
        clear n0_ n1_ n2_ n3_ n4_ n5_ n6_ n7_ n8_
        (try clear hb)
        (try clear hb2)
        (try clear hk)
        (try clear hi)
        (try clear ho0)
        obtain ⟨Ao70, co70, eo70⟩ := Kd.R_slice HO298.out
        (first | subst eo70 | (injection eo70 with f1_ f2_ f3_; have f4_ := f1_.symm; have f5_ := f3_.symm; clear f1_ f2_ f3_; subst f4_; subst f5_))
        refine hK.out _ _ ⟨(blk_cell BK287.out 0).trans rfl, (blk_cell BK287.out 1).trans rfl, (blk_cell BK271.out 0).trans rfl, (blk_cell BK271.out 1).trans rfl⟩ (fun hHeld => ?_)
        clear hK K
        refine norm_ (a' := ?_) ?_ ?_
        rotate_left
        ·show Act.put _ (some 61) _ = _
         simp only [Act.put, List.setIfInBounds_toArray, List.set_cons_zero, List.set_cons_succ, i64_w, i32_w]
         rfl
        refine one_ (i := 3) (N := some 62) #[true, true, true, true, false] rfl rfl (by kernel_rfl) (by decide) (fun K hK => ?_)
        refine goes_ Try.func8 (by kernel_rfl) rfl #[.agg #[.string t283, .slice Ao36 t284.length co36], .agg #[.string t295, .slice Ao70 t296.length co70]] (by rfl) rfl rfl (by (try simp only [List.map_toArray, List.map_cons, List.map_nil]); first | done | rfl | (simp only [List.length_drop, List.length_take]; rfl)) ?_
        with_reducible refine (laws_eqMsg.calls kj17 t283 _ _ t284 t295 _ _ t296 true _ ?side1 ?side2 ?side3 ?side4 A64.out).mono ?_
        (case side1 => repeat (first | exact (Kd.R_reads' HO_288001.out).2.2 | (with_reducible refine Kd.C_alloc ?_ _) | (with_reducible refine Kd.C_drewN ?_ _) | (with_reducible refine Kd.C_drew ?_)))
        (case side2 => exact (Kd.R_reads' HO_288001.out).2.1)
        (case side3 => repeat (first | exact (Kd.R_reads' HO298.out).2.2 | (with_reducible refine Kd.C_alloc ?_ _) | (with_reducible refine Kd.C_drewN ?_ _) | (with_reducible refine Kd.C_drew ?_)))
        (case side4 => exact (Kd.R_reads' HO298.out).2.1)
        rintro e w71 ⟨rfl, hb⟩
        refine ⟨_, rfl, ?_⟩
        have n0_ := Aside0.mk (Kd.R_below (rA HO_283001.out) hb)
        have n1_ := Aside0.mk (Kd.R_below (rA HO_288001.out) hb)
        have n2_ := Aside0.mk (Kd.R_below (rA HO_294001.out) hb)
        have n3_ := Aside0.mk (Kd.R_below (rA HO298.out) hb)
        have n4_ := Aside0.mk (blk_below (g := gb271) (o := .cells #[.string a0_0, .slice A0_1 l0_1.length c0_1] 24 (0, 0)) (kA BK271.out) hb)
        have n5_ := Aside0.mk (blk_below (g := gb282) (o := .cells #[.string t277, .slice Ao29 t278.length co29] 28 (0, 0)) (kA BK282.out) hb)
        have n6_ := Aside0.mk (blk_below (g := gb287) (o := .cells #[.string t283, .slice Ao36 t284.length co36] 28 (0, 0)) (kA BK287.out) hb)
        have n7_ := Aside0.mk (blk_below (g := gb293) (o := .cells #[.string t288, .slice Ao43 t289.length co43] 28 (0, 0)) (kA BK293.out) hb)
        have n8_ := Aside0.mk (below_step bG hb)
        clear HO_283001
        clear HO_288001
        clear HO_294001
        clear HO298
        clear BK271
        clear BK282
        clear BK287
        clear BK293
        clear HB
        have HO_283001 := n0_
        have HO_288001 := n1_
        have HO_294001 := n2_
        have HO298 := n3_
        have BK271 := n4_
        have BK282 := n5_
        have BK287 := n6_
        have BK293 := n7_
        have HB := n8_
        clear n0_ n1_ n2_ n3_ n4_ n5_ n6_ n7_ n8_
        (try clear hb)
        (try clear hb2)
        (try clear hk)
        (try clear hi)
        refine hK.out _ _ ⟨(blk_cell BK287.out 0).trans rfl, (blk_cell BK287.out 1).trans rfl, (blk_cell BK271.out 0).trans rfl, (blk_cell BK271.out 1).trans rfl⟩ (fun hHeld => ?_)
        clear hK K
        refine norm_ (a' := ?_) ?_ ?_
        rotate_left
        ·show Act.put _ (some 62) _ = _
         simp only [Act.put, List.setIfInBounds_toArray, List.set_cons_zero, List.set_cons_succ, i64_w, i32_w]
         rfl
        refine pure_ (i := 4) (N := some 63) (v := ?_) (a' := ?_) #[true, true, true, true, true] rfl rfl (by kernel_rfl) (fun _ _ _ h => h) (Or.inl ⟨by rfl, ?_⟩) ?_ ?_
        rotate_left
        ·intro w'
         go_simp
         with_reducible rfl
        rotate_left
        ·simp only [Act.put, List.setIfInBounds_toArray, List.set_cons_zero, List.set_cons_succ, i64_w, i32_w]
         rfl
        refine done_ (by kernel_rfl) ?_
        have hnb72 := NB287_271.out
        have hnc72 := NB271_287.out
        have hnb73 := NB287_282.out
        have hnc73 := NB282_287.out
        have hnb74 := NB287_293.out
        have hnc74 := NB293_287.out
        have hcz75_0 : w71.cell? ⟨gb287, 0, none⟩ = some (.string t283) := (blk_cell BK287.out 0).trans rfl
        have hcz75_1 : w71.cell? ⟨gb287, 1, none⟩ = some (.slice Ao36 t284.length co36) := (blk_cell BK287.out 1).trans rfl
        have hfz75_0 := blk_frozen BK287.out 0
        have hfz75_1 := blk_frozen BK287.out 1
        go_upto_region 18 with (first | ((with_reducible refine gate_callee (f := 9) rfl ?_); refine goesM_ (some 66) rfl rfl Try.func9 (by kernel_rfl) rfl #[.agg #[.string t283, .slice Ao36 t284.length co36], .int .i64 1] rfl ?_; (with_reducible refine (laws_markMsg.calls kj17 t283 (fun k_ => some k_ = (.slice Ao36 t284.length co36 : Value).ownBlock) (.slice Ao36 t284.length co36) t284 1 t300 t301 w _ ?side1 ?side2 A66.out).mono ?_); (case side1 => repeat (first | (with_reducible first | exact HB.out | apply below_alloc | apply pw_below_drewN | apply below_drew1 | refine below_set ?_ GE271.out | refine below_set ?_ GE282.out | refine below_set ?_ GE287.out | refine below_set ?_ GE293.out) | exact HB.out)); (case side2 => exact Kd.R_tight rfl HO_288001.out); rintro e w76 ⟨rfl, hy0, hb, hkp⟩; refine ⟨_, rfl, ?_⟩; have n0_ := Aside0.mk (Kd.R_mono (ok' := fun k_ => some k_ ≠ (.slice Ao36 t284.length co36 : Value).ownBlock ∧ some k_ ≠ (.slice Ao43 t289.length co43 : Value).ownBlock ∧ some k_ ≠ (.slice Ao70 t296.length co70 : Value).ownBlock) (Kd.R_keptB (HO_283001.out) hkp (fun k_ hk_ hs_ => (hk_.1.1) hs_)) (fun k_ hk_ => ⟨hk_.1.1.1, hk_.1.1.2, hk_.1.2⟩)); have n1_ := Aside0.mk (Kd.R_reok rfl hy0 (fun k_ e_ => HO_288001.out.1 k_ e_)); have n2_ := Aside0.mk (Kd.R_mono (ok' := fun k_ => some k_ ≠ (.slice Ao29 t278.length co29 : Value).ownBlock ∧ some k_ ≠ (.slice Ao36 t284.length co36 : Value).ownBlock ∧ some k_ ≠ (.slice Ao70 t296.length co70 : Value).ownBlock) (Kd.R_keptB (HO_294001.out) hkp (fun k_ hk_ hs_ => (hk_.1.2) hs_)) (fun k_ hk_ => ⟨hk_.1.1.1, hk_.1.1.2, hk_.1.2⟩)); have n3_ := Aside0.mk (blk_kept (kA BK271.out) hkp (fun hs_ => (fun e_ => (Kd.R_ne HO_288001.out BK271.out (by decide)) e_) hs_)); have n4_ := Aside0.mk (blk_kept (kA BK282.out) hkp (fun hs_ => (fun e_ => (Kd.R_ne HO_288001.out BK282.out (by decide)) e_) hs_)); have n5_ := Aside0.mk (blk_kept (kA BK287.out) hkp (fun hs_ => (fun e_ => (Kd.R_ne HO_288001.out BK287.out (by decide)) e_) hs_)); have n6_ := Aside0.mk (blk_kept (kA BK293.out) hkp (fun hs_ => (fun e_ => (Kd.R_ne HO_288001.out BK293.out (by decide)) e_) hs_)); have n7_ := Aside0.mk (Kd.R_mono (ok' := fun k_ => some k_ ≠ (.slice Ao29 t278.length co29 : Value).ownBlock ∧ some k_ ≠ (.slice Ao36 t284.length co36 : Value).ownBlock ∧ some k_ ≠ (.slice Ao43 t289.length co43 : Value).ownBlock) (Kd.R_keptB (HO298.out) hkp (fun k_ hk_ hs_ => (hk_.1.2) hs_)) (fun k_ hk_ => ⟨hk_.1.1.1.2, hk_.1.1.2, hk_.1.2⟩)); have n8_ := Aside0.mk (hb); clear HO_283001; clear HO_288001; clear HO_294001; clear BK271; clear BK282; clear BK287; clear BK293; clear HO298; clear HB; have HO_283001 := n0_; have HO_288001 := n1_; have HO_294001 := n2_; have BK271 := n3_; have BK282 := n4_; have BK287 := n5_; have BK293 := n6_; have HO298 := n7_; have HB := n8_; clear n0_ n1_ n2_ n3_ n4_ n5_ n6_ n7_ n8_; (try clear hb); (try clear hkp); (try clear hy0)))
        (try simp only [Act.put, List.setIfInBounds_toArray, List.set_cons_zero, List.set_cons_succ])
        go_cut [79] (fun v79 wc => ∃ (kq : Nat) (x79_66 : Bool), v79 = .bool x79_66 ∧ Aside0 (laws_FnExactReply.j1 kq a1 a2 a3 t281 x79_66 a0_0 l0_1 t277 t278 t288 t289 = some r) ∧ Aside0 (kq ≤ kj17) ∧ Aside0 (Kd.R k45 45 wc w.heap.size (fun k_ => some k_ ≠ ((.slice Ao36 t284.length co36) : Value).ownBlock ∧ some k_ ≠ ((.slice Ao43 t289.length co43) : Value).ownBlock) (.slice Ao29 t278.length co29) t278) ∧ Aside0 (Kd.R k45 45 wc w.heap.size (fun k_ => some k_ ≠ ((.slice Ao29 t278.length co29) : Value).ownBlock ∧ some k_ ≠ ((.slice Ao43 t289.length co43) : Value).ownBlock) (.slice Ao36 t284.length co36) t301) ∧ Aside0 (Kd.R k45 45 wc w.heap.size (fun k_ => some k_ ≠ ((.slice Ao29 t278.length co29) : Value).ownBlock ∧ some k_ ≠ ((.slice Ao36 t284.length co36) : Value).ownBlock) (.slice Ao43 t289.length co43) t289) ∧ Aside0 (wc.heap[gb271]? = some (.cells #[.string a0_0, (.slice A0_1 l0_1.length c0_1)] 24 (0, 0))) ∧ Aside0 (wc.heap[gb282]? = some (.cells #[.string t277, (.slice Ao29 t278.length co29)] 28 (0, 0))) ∧ Aside0 (wc.heap[gb287]? = some (.cells #[.string t283, (.slice Ao36 t284.length co36)] 28 (0, 0))) ∧ Aside0 (wc.heap[gb293]? = some (.cells #[.string t288, (.slice Ao43 t289.length co43)] 28 (0, 0))) ∧ Aside0 (Below w.heap.size w wc))
        case first =>
         have H := HC67.out
         clear HC67
         by_cases c77 : t300 < 0
         ·rw [if_pos c77] at H
          have c77b0 : decide (t300 < 0) = true := decide_eq_true c77
          clear c77
          (first | rw [c77b0] | (simp only [i64_w, i32_w]; rw [c77b0]) | rw [c77b1] | (simp only [c77b1]) | skip)
          have H' := Aside0.mk H
          clear H
          go_wp2
          go_meet
          case rel => exact ⟨_, (true), (by first | rfl | (simp; done) | (simp [*]; done) | (simp [i64_w, IntKind.wrap_u8, e256_]; done) | (simp; generalize ByteArray.toList _ = zz_; cases zz_ <;> rfl)), H', ⟨by have := HJ17.out; first | omega | exact Nat.le_refl _⟩, ⟨by (with_reducible repeat (first | apply Kd.R_alloc | apply Kd.R_drewN | apply Kd.R_drew)); exact Kd.R_mono HO_283001.out (fun _ hk => ⟨hk.1, hk.2.1⟩)⟩, ⟨by (with_reducible repeat (first | apply Kd.R_alloc | apply Kd.R_drewN | apply Kd.R_drew)); exact Kd.R_mono HO_288001.out (fun _ hk => ⟨hk.1.1, hk.1.2⟩)⟩, ⟨by (with_reducible repeat (first | apply Kd.R_alloc | apply Kd.R_drewN | apply Kd.R_drew)); exact Kd.R_mono HO_294001.out (fun _ hk => ⟨hk.1, hk.2.1⟩)⟩, ⟨kA BK271.out⟩, ⟨kA BK282.out⟩, ⟨kA BK287.out⟩, ⟨kA BK293.out⟩, ⟨bG⟩⟩
         ·rw [if_neg c77] at H
          have c77b0 : decide (t300 < 0) = false := decide_eq_false c77
          clear c77
          (first | rw [c77b0] | (simp only [i64_w, i32_w]; rw [c77b0]) | rw [c77b1] | (simp only [c77b1]) | skip)
          replace H := Option.bind_eq_some_iff.mp H
          obtain ⟨t302, A780, H⟩ := H
          replace H : (if t302 = true then (laws_FnExactReply.j1 kj17 a1 a2 a3 t281 (t292 != t281) a0_0 l0_1 t277 t278 t288 t289) else (laws_FnExactReply.j1 kj17 a1 a2 a3 t281 true a0_0 l0_1 t277 t278 t288 t289)) = some r := H
          have A78 := Aside0.mk A780
          clear A780
          by_cases c79 : t302 = true
          ·subst c79
           have H1 : (laws_FnExactReply.j1 kj17 a1 a2 a3 t281 (t292 != t281) a0_0 l0_1 t277 t278 t288 t289) = some r := by rw [if_pos rfl] at H; exact H
           clear H
           have H := H1
           clear H1
           have H' := Aside0.mk H
           clear H
           have hnb80 := NB293_271.out
           have hnc80 := NB271_293.out
           have hnb81 := NB293_282.out
           have hnc81 := NB282_293.out
           have hnb82 := NB293_287.out
           have hnc82 := NB287_293.out
           have hcz83_0 : w76.cell? ⟨gb293, 0, none⟩ = some (.string t288) := (blk_cell BK293.out 0).trans rfl
           have hcz83_1 : w76.cell? ⟨gb293, 1, none⟩ = some (.slice Ao43 t289.length co43) := (blk_cell BK293.out 1).trans rfl
           have hfz83_0 := blk_frozen BK293.out 0
           have hfz83_1 := blk_frozen BK293.out 1
           have hnb84 := NB282_271.out
           have hnc84 := NB271_282.out
           have hnb85 := NB282_287.out
           have hnc85 := NB287_282.out
           have hcz86_0 : w76.cell? ⟨gb282, 0, none⟩ = some (.string t277) := (blk_cell BK282.out 0).trans rfl
           have hcz86_1 : w76.cell? ⟨gb282, 1, none⟩ = some (.slice Ao29 t278.length co29) := (blk_cell BK282.out 1).trans rfl
           have hfz86_0 := blk_frozen BK282.out 0
           have hfz86_1 := blk_frozen BK282.out 1
           go_wp2_with (first | (go_at_call 8; (with_reducible refine (laws_eqMsg.calls kj17 t288 _ _ t289 t277 _ _ t278 true _ ?side1 ?side2 ?side3 ?side4 A78.out).mono ?_); (case side1 => repeat (first | exact (Kd.R_reads' HO_294001.out).2.2 | (with_reducible refine Kd.C_alloc ?_ _) | (with_reducible refine Kd.C_drewN ?_ _) | (with_reducible refine Kd.C_drew ?_))); (case side2 => exact (Kd.R_reads' HO_294001.out).2.1); (case side3 => repeat (first | exact (Kd.R_reads' HO_283001.out).2.2 | (with_reducible refine Kd.C_alloc ?_ _) | (with_reducible refine Kd.C_drewN ?_ _) | (with_reducible refine Kd.C_drew ?_))); (case side4 => exact (Kd.R_reads' HO_283001.out).2.1); rintro e w87 ⟨rfl, hb⟩; have n0_ := Aside0.mk (Kd.R_below (rA HO_283001.out) hb); have n1_ := Aside0.mk (Kd.R_below (rA HO_288001.out) hb); have n2_ := Aside0.mk (Kd.R_below (rA HO_294001.out) hb); have n3_ := Aside0.mk (Kd.R_below (rA HO298.out) hb); have n4_ := Aside0.mk (blk_below (g := gb271) (o := .cells #[.string a0_0, .slice A0_1 l0_1.length c0_1] 24 (0, 0)) (kA BK271.out) hb); have n5_ := Aside0.mk (blk_below (g := gb282) (o := .cells #[.string t277, .slice Ao29 t278.length co29] 28 (0, 0)) (kA BK282.out) hb); have n6_ := Aside0.mk (blk_below (g := gb287) (o := .cells #[.string t283, .slice Ao36 t284.length co36] 28 (0, 0)) (kA BK287.out) hb); have n7_ := Aside0.mk (blk_below (g := gb293) (o := .cells #[.string t288, .slice Ao43 t289.length co43] 28 (0, 0)) (kA BK293.out) hb); have n8_ := Aside0.mk (below_step bG hb); clear HO_283001; clear HO_288001; clear HO_294001; clear HO298; clear BK271; clear BK282; clear BK287; clear BK293; clear HB; have HO_283001 := n0_; have HO_288001 := n1_; have HO_294001 := n2_; have HO298 := n3_; have BK271 := n4_; have BK282 := n5_; have BK287 := n6_; have BK293 := n7_; have HB := n8_; clear n0_ n1_ n2_ n3_ n4_ n5_ n6_ n7_ n8_; (try clear hb); (try clear hb2); (try clear hk); (try clear hi)))
           go_meet
           case rel => exact ⟨_, ((t292 != t281)), (by first | rfl | (simp; done) | (simp [*]; done) | (simp [i64_w, IntKind.wrap_u8, e256_]; done) | (simp; generalize ByteArray.toList _ = zz_; cases zz_ <;> rfl)), H', ⟨by have := HJ17.out; first | omega | exact Nat.le_refl _⟩, ⟨by (with_reducible repeat (first | apply Kd.R_alloc | apply Kd.R_drewN | apply Kd.R_drew)); exact Kd.R_mono HO_283001.out (fun _ hk => ⟨hk.1, hk.2.1⟩)⟩, ⟨by (with_reducible repeat (first | apply Kd.R_alloc | apply Kd.R_drewN | apply Kd.R_drew)); exact Kd.R_mono HO_288001.out (fun _ hk => ⟨hk.1.1, hk.1.2⟩)⟩, ⟨by (with_reducible repeat (first | apply Kd.R_alloc | apply Kd.R_drewN | apply Kd.R_drew)); exact Kd.R_mono HO_294001.out (fun _ hk => ⟨hk.1, hk.2.1⟩)⟩, ⟨kA BK271.out⟩, ⟨kA BK282.out⟩, ⟨kA BK287.out⟩, ⟨kA BK293.out⟩, ⟨bG⟩⟩
          ·replace c79 := Bool.eq_false_iff.mpr c79
           subst c79
           have H1 : (laws_FnExactReply.j1 kj17 a1 a2 a3 t281 true a0_0 l0_1 t277 t278 t288 t289) = some r := by rw [if_neg (show ¬ (false = true) by decide)] at H; exact H
           clear H
           have H := H1
           clear H1
           have H' := Aside0.mk H
           clear H
           have hnb88 := NB293_271.out
           have hnc88 := NB271_293.out
           have hnb89 := NB293_282.out
           have hnc89 := NB282_293.out
           have hnb90 := NB293_287.out
           have hnc90 := NB287_293.out
           have hcz91_0 : w76.cell? ⟨gb293, 0, none⟩ = some (.string t288) := (blk_cell BK293.out 0).trans rfl
           have hcz91_1 : w76.cell? ⟨gb293, 1, none⟩ = some (.slice Ao43 t289.length co43) := (blk_cell BK293.out 1).trans rfl
           have hfz91_0 := blk_frozen BK293.out 0
           have hfz91_1 := blk_frozen BK293.out 1
           have hnb92 := NB282_271.out
           have hnc92 := NB271_282.out
           have hnb93 := NB282_287.out
           have hnc93 := NB287_282.out
           have hcz94_0 : w76.cell? ⟨gb282, 0, none⟩ = some (.string t277) := (blk_cell BK282.out 0).trans rfl
           have hcz94_1 : w76.cell? ⟨gb282, 1, none⟩ = some (.slice Ao29 t278.length co29) := (blk_cell BK282.out 1).trans rfl
           have hfz94_0 := blk_frozen BK282.out 0
           have hfz94_1 := blk_frozen BK282.out 1
           go_wp2_with (first | (go_at_call 8; (with_reducible refine (laws_eqMsg.calls kj17 t288 _ _ t289 t277 _ _ t278 false _ ?side1 ?side2 ?side3 ?side4 A78.out).mono ?_); (case side1 => repeat (first | exact (Kd.R_reads' HO_294001.out).2.2 | (with_reducible refine Kd.C_alloc ?_ _) | (with_reducible refine Kd.C_drewN ?_ _) | (with_reducible refine Kd.C_drew ?_))); (case side2 => exact (Kd.R_reads' HO_294001.out).2.1); (case side3 => repeat (first | exact (Kd.R_reads' HO_283001.out).2.2 | (with_reducible refine Kd.C_alloc ?_ _) | (with_reducible refine Kd.C_drewN ?_ _) | (with_reducible refine Kd.C_drew ?_))); (case side4 => exact (Kd.R_reads' HO_283001.out).2.1); rintro e w95 ⟨rfl, hb⟩; have n0_ := Aside0.mk (Kd.R_below (rA HO_283001.out) hb); have n1_ := Aside0.mk (Kd.R_below (rA HO_288001.out) hb); have n2_ := Aside0.mk (Kd.R_below (rA HO_294001.out) hb); have n3_ := Aside0.mk (Kd.R_below (rA HO298.out) hb); have n4_ := Aside0.mk (blk_below (g := gb271) (o := .cells #[.string a0_0, .slice A0_1 l0_1.length c0_1] 24 (0, 0)) (kA BK271.out) hb); have n5_ := Aside0.mk (blk_below (g := gb282) (o := .cells #[.string t277, .slice Ao29 t278.length co29] 28 (0, 0)) (kA BK282.out) hb); have n6_ := Aside0.mk (blk_below (g := gb287) (o := .cells #[.string t283, .slice Ao36 t284.length co36] 28 (0, 0)) (kA BK287.out) hb); have n7_ := Aside0.mk (blk_below (g := gb293) (o := .cells #[.string t288, .slice Ao43 t289.length co43] 28 (0, 0)) (kA BK293.out) hb); have n8_ := Aside0.mk (below_step bG hb); clear HO_283001; clear HO_288001; clear HO_294001; clear HO298; clear BK271; clear BK282; clear BK287; clear BK293; clear HB; have HO_283001 := n0_; have HO_288001 := n1_; have HO_294001 := n2_; have HO298 := n3_; have BK271 := n4_; have BK282 := n5_; have BK287 := n6_; have BK293 := n7_; have HB := n8_; clear n0_ n1_ n2_ n3_ n4_ n5_ n6_ n7_ n8_; (try clear hb); (try clear hb2); (try clear hk); (try clear hi)))
           go_meet
           case rel => exact ⟨_, (true), (by first | rfl | (simp; done) | (simp [*]; done) | (simp [i64_w, IntKind.wrap_u8, e256_]; done) | (simp; generalize ByteArray.toList _ = zz_; cases zz_ <;> rfl)), H', ⟨by have := HJ17.out; first | omega | exact Nat.le_refl _⟩, ⟨by (with_reducible repeat (first | apply Kd.R_alloc | apply Kd.R_drewN | apply Kd.R_drew)); exact Kd.R_mono HO_283001.out (fun _ hk => ⟨hk.1, hk.2.1⟩)⟩, ⟨by (with_reducible repeat (first | apply Kd.R_alloc | apply Kd.R_drewN | apply Kd.R_drew)); exact Kd.R_mono HO_288001.out (fun _ hk => ⟨hk.1.1, hk.1.2⟩)⟩, ⟨by (with_reducible repeat (first | apply Kd.R_alloc | apply Kd.R_drewN | apply Kd.R_drew)); exact Kd.R_mono HO_294001.out (fun _ hk => ⟨hk.1, hk.2.1⟩)⟩, ⟨kA BK271.out⟩, ⟨kA BK282.out⟩, ⟨kA BK287.out⟩, ⟨kA BK293.out⟩, ⟨bG⟩⟩
        case rest =>
         clear HC67
         try clear c1
         try clear c2
         try clear p2
         try clear c3
         try clear c4
         try clear c5
         try clear c5b0
         try clear c5b1
         try clear c6
         try clear p6
         try clear c7
         try clear c7b0
         try clear c7b1
         try clear c8
         try clear c9
         try clear c10
         try clear c10b0
         try clear c27
         try clear c33
         try clear c34
         try clear c39
         try clear c40
         try clear c41
         try clear c45
         try clear c46
         try clear c47
         try clear c48
         try clear c50
         try clear c51
         try clear c54
         try clear c55
         try clear c56
         try clear c58
         try clear c59
         try clear c62
         try clear p64
         try clear c65
         try clear c72
         try clear c73
         try clear c74
         try clear c77
         try clear c77b0
         try clear c77b1
         try clear c79
         try clear c80
         try clear c81
         try clear c82
         try clear c84
         try clear c85
         try clear c88
         try clear c89
         try clear c90
         try clear c92
         try clear c93
         try clear hcz12_0
         try clear hcz12_1
         try clear hcz20_0
         try clear hcz20_1
         try clear hcz22_0
         try clear hcz22_1
         try clear hcz28_0
         try clear hcz28_1
         try clear hcz30_0
         try clear hcz30_1
         try clear hcz35_0
         try clear hcz35_1
         try clear hcz42_0
         try clear hcz42_1
         try clear hcz49_0
         try clear hcz49_1
         try clear hcz52_0
         try clear hcz52_1
         try clear hcz57_0
         try clear hcz57_1
         try clear hcz60_0
         try clear hcz60_1
         try clear hcz75_0
         try clear hcz75_1
         try clear hcz83_0
         try clear hcz83_1
         try clear hcz86_0
         try clear hcz86_1
         try clear hcz91_0
         try clear hcz91_1
         try clear hcz94_0
         try clear hcz94_1
         try clear hfz12_0
         try clear hfz12_1
         try clear hfz20_0
         try clear hfz20_1
         try clear hfz22_0
         try clear hfz22_1
         try clear hfz28_0
         try clear hfz28_1
         try clear hfz30_0
         try clear hfz30_1
         try clear hfz35_0
         try clear hfz35_1
         try clear hfz42_0
         try clear hfz42_1
         try clear hfz49_0
         try clear hfz49_1
         try clear hfz52_0
         try clear hfz52_1
         try clear hfz57_0
         try clear hfz57_1
         try clear hfz60_0
         try clear hfz60_1
         try clear hfz75_0
         try clear hfz75_1
         try clear hfz83_0
         try clear hfz83_1
         try clear hfz86_0
         try clear hfz86_1
         try clear hfz91_0
         try clear hfz91_1
         try clear hfz94_0
         try clear hfz94_1
         try clear p2
         try clear p6
         obtain ⟨kq, x79_66, rfl, HA, HJ66, HO_283001, HO_288001, HO_294001, BK271, BK282, BK287, BK293, HB⟩ := hcut
         have hl288001_66 := (Kd.R_reads' HO_288001.out).1
         rw [hl288001_66] at HO_288001
         (try simp only [hl288001_66])
         (try simp only [hl288001_66] at BK271)
         (try simp only [hl288001_66] at BK282)
         (try simp only [hl288001_66] at BK287)
         (try simp only [hl288001_66] at BK293)
         (try simp only [hl288001_66] at HO_283001)
         (try simp only [hl288001_66] at HO_294001)
         cases kq with
         | zero => exact absurd HA.out (by simp [laws_FnExactReply.j1])
         | succ kj66 =>
          have H := HA.out
          clear HA
          simp only [laws_FnExactReply.j1] at H
          by_cases c96 : x79_66 = true
          ·subst c96
           have H1 : (some false) = some r := by rw [if_pos rfl] at H; exact H
           clear H
           have H := H1
           clear H1
           obtain rfl := Option.some.inj H
           exact absurd hr_ (by simp)
          ·replace c96 := Bool.eq_false_iff.mpr c96
           subst c96
           have H1 : ((laws_markMsg.f kj66 t288 t289 1).bind fun bt303 => ((laws_heldMsg.f kj66 t288 bt303.2 1).bind fun t305 => (if t305 < 0 then (some false) else (if t305 = bt303.1 then ((laws_toMsg.f kj66 a0_0 l0_1).bind fun bt306 => ((impl_Reply.f bt306.1 bt306.2 a1 a2 a3).bind fun bt310 => ((laws_eqMsg.f kj66 bt310.1 bt310.2.1 t277 t278).bind fun t316 => (if t316 = true then (laws_FnExactReply.j2 kj66 bt303.1 (bt310.2.2 != t281) t288 bt303.2) else (laws_FnExactReply.j2 kj66 bt303.1 true t288 bt303.2))))) else (some false))))) = some r := by rw [if_neg (show ¬ (false = true) by decide)] at H; exact H
           clear H
           have H := H1
           clear H1
           replace H := Option.bind_eq_some_iff.mp H
           obtain ⟨⟨t303, t304⟩, A970, H⟩ := H
           replace H : ((laws_heldMsg.f kj66 t288 t304 1).bind fun t305 => (if t305 < 0 then (some false) else (if t305 = t303 then ((laws_toMsg.f kj66 a0_0 l0_1).bind fun bt306 => ((impl_Reply.f bt306.1 bt306.2 a1 a2 a3).bind fun bt310 => ((laws_eqMsg.f kj66 bt310.1 bt310.2.1 t277 t278).bind fun t316 => (if t316 = true then (laws_FnExactReply.j2 kj66 t303 (bt310.2.2 != t281) t288 t304) else (laws_FnExactReply.j2 kj66 t303 true t288 t304))))) else (some false)))) = some r := H
           have A97 := Aside0.mk A970
           clear A970
           replace H := Option.bind_eq_some_iff.mp H
           obtain ⟨t305, A980, H⟩ := H
           replace H : (if t305 < 0 then (some false) else (if t305 = t303 then ((laws_toMsg.f kj66 a0_0 l0_1).bind fun bt306 => ((impl_Reply.f bt306.1 bt306.2 a1 a2 a3).bind fun bt310 => ((laws_eqMsg.f kj66 bt310.1 bt310.2.1 t277 t278).bind fun t316 => (if t316 = true then (laws_FnExactReply.j2 kj66 t303 (bt310.2.2 != t281) t288 t304) else (laws_FnExactReply.j2 kj66 t303 true t288 t304))))) else (some false))) = some r := H
           have A98 := Aside0.mk A980
           clear A980
           by_cases c99 : t305 < 0
           ·rw [if_pos c99] at H
            have c99b0 : decide (t305 < 0) = true := decide_eq_true c99
            clear c99
            obtain rfl := Option.some.inj H
            exact absurd hr_ (by simp)
           ·rw [if_neg c99] at H
            have c99b0 : decide (t305 < 0) = false := decide_eq_false c99
            clear c99
            by_cases c100 : t305 = t303
            ·rw [if_pos c100] at H
             have c100b0 : (t305 == t303) = true := beq_iff_eq.mpr c100
             have c100b1 : (t305 != t303) = false := bne_eq_false_iff_eq.mpr c100
             clear c100
             replace H := Option.bind_eq_some_iff.mp H
             obtain ⟨⟨t306, t307⟩, A1010, H⟩ := H
             replace H : ((impl_Reply.f t306 t307 a1 a2 a3).bind fun bt310 => ((laws_eqMsg.f kj66 bt310.1 bt310.2.1 t277 t278).bind fun t316 => (if t316 = true then (laws_FnExactReply.j2 kj66 t303 (bt310.2.2 != t281) t288 t304) else (laws_FnExactReply.j2 kj66 t303 true t288 t304)))) = some r := H
             have A101 := Aside0.mk A1010
             clear A1010
             replace H := Option.bind_eq_some_iff.mp H
             obtain ⟨⟨t310, t311, t314⟩, A1020, H⟩ := H
             replace H : ((laws_eqMsg.f kj66 t310 t311 t277 t278).bind fun t316 => (if t316 = true then (laws_FnExactReply.j2 kj66 t303 (t314 != t281) t288 t304) else (laws_FnExactReply.j2 kj66 t303 true t288 t304))) = some r := H
             have A102 := Aside0.mk A1020
             clear A1020
             have HC103 := Aside0.mk H
             clear H
             have hnb104 := NB293_271.out
             have hnc104 := NB271_293.out
             have hnb105 := NB293_282.out
             have hnc105 := NB282_293.out
             have hnb106 := NB293_287.out
             have hnc106 := NB287_293.out
             have hcz107_0 : wc.cell? ⟨gb293, 0, none⟩ = some (.string t288) := (blk_cell BK293.out 0).trans rfl
             have hcz107_1 : wc.cell? ⟨gb293, 1, none⟩ = some (.slice Ao43 t289.length co43) := (blk_cell BK293.out 1).trans rfl
             have hfz107_0 := blk_frozen BK293.out 0
             have hfz107_1 := blk_frozen BK293.out 1
             go_upto_region 29 with (first | ((with_reducible refine gate_callee (f := 9) rfl ?_); refine goesM_ (some 82) rfl rfl Try.func9 (by kernel_rfl) rfl #[.agg #[.string t288, .slice Ao43 t289.length co43], .int .i64 1] rfl ?_; (with_reducible refine (laws_markMsg.calls kj66 t288 (fun k_ => some k_ = (.slice Ao43 t289.length co43 : Value).ownBlock) (.slice Ao43 t289.length co43) t289 1 t303 t304 w _ ?side1 ?side2 A97.out).mono ?_); (case side1 => repeat (first | (with_reducible first | exact HB.out | apply below_alloc | apply pw_below_drewN | apply below_drew1 | refine below_set ?_ GE271.out | refine below_set ?_ GE282.out | refine below_set ?_ GE287.out | refine below_set ?_ GE293.out) | exact HB.out)); (case side2 => exact Kd.R_tight rfl HO_294001.out); rintro e w108 ⟨rfl, hy0, hb, hkp⟩; refine ⟨_, rfl, ?_⟩; have n0_ := Aside0.mk (Kd.R_mono (ok' := fun k_ => some k_ ≠ (.slice Ao36 t301.length co36 : Value).ownBlock ∧ some k_ ≠ (.slice Ao43 t289.length co43 : Value).ownBlock) (Kd.R_keptB (HO_283001.out) hkp (fun k_ hk_ hs_ => (hk_.2) hs_)) (fun k_ hk_ => ⟨hk_.1.1, hk_.1.2⟩)); have n1_ := Aside0.mk (Kd.R_mono (ok' := fun k_ => some k_ ≠ (.slice Ao29 t278.length co29 : Value).ownBlock ∧ some k_ ≠ (.slice Ao43 t289.length co43 : Value).ownBlock) (Kd.R_keptB (HO_288001.out) hkp (fun k_ hk_ hs_ => (hk_.2) hs_)) (fun k_ hk_ => ⟨hk_.1.1, hk_.1.2⟩)); have n2_ := Aside0.mk (Kd.R_reok rfl hy0 (fun k_ e_ => HO_294001.out.1 k_ e_)); have n3_ := Aside0.mk (blk_kept (kA BK271.out) hkp (fun hs_ => (fun e_ => (Kd.R_ne HO_294001.out BK271.out (by decide)) e_) hs_)); have n4_ := Aside0.mk (blk_kept (kA BK282.out) hkp (fun hs_ => (fun e_ => (Kd.R_ne HO_294001.out BK282.out (by decide)) e_) hs_)); have n5_ := Aside0.mk (blk_kept (kA BK287.out) hkp (fun hs_ => (fun e_ => (Kd.R_ne HO_294001.out BK287.out (by decide)) e_) hs_)); have n6_ := Aside0.mk (blk_kept (kA BK293.out) hkp (fun hs_ => (fun e_ => (Kd.R_ne HO_294001.out BK293.out (by decide)) e_) hs_)); have n7_ := Aside0.mk (hb); clear HO_283001; clear HO_288001; clear HO_294001; clear BK271; clear BK282; clear BK287; clear BK293; clear HB; have HO_283001 := n0_; have HO_288001 := n1_; have HO_294001 := n2_; have BK271 := n3_; have BK282 := n4_; have BK287 := n5_; have BK293 := n6_; have HB := n7_; clear n0_ n1_ n2_ n3_ n4_ n5_ n6_ n7_; (try clear hb); (try clear hkp); (try clear hy0); have hcz109_0 : w108.cell? ⟨gb293, 0, none⟩ = some (.string t288) := (blk_cell BK293.out 0).trans rfl; have hcz109_1 : w108.cell? ⟨gb293, 1, none⟩ = some (.slice Ao43 t289.length co43) := (blk_cell BK293.out 1).trans rfl; have hfz109_0 := blk_frozen BK293.out 0; have hfz109_1 := blk_frozen BK293.out 1) | ((with_reducible refine gate_callee (f := 10) rfl ?_); refine goesL_ (some 85) rfl rfl Try.func10 (by kernel_rfl) rfl #[.agg #[.string t288, .slice Ao43 t304.length co43], .int .i64 1] rfl (by (try simp only [List.map_toArray, List.map_cons, List.map_nil]); first | done | (rw [show t304.length = t289.length from (Kd.R_reads' HO_294001.out).1.symm] <;> rfl) | rfl | (simp only [List.length_drop, List.length_take]; rfl)) ?_; (with_reducible refine (laws_heldMsg.calls kj66 t288 _ _ t304 1 t305 _ ?side1 ?side2 A98.out).mono ?_); (case side1 => repeat (first | exact (Kd.R_reads' HO_294001.out).2.2 | (with_reducible refine Kd.C_alloc ?_ _) | (with_reducible refine Kd.C_drewN ?_ _) | (with_reducible refine Kd.C_drew ?_))); (case side2 => rw [show t304.length = t289.length from (Kd.R_reads' HO_294001.out).1.symm]; exact (Kd.R_reads' HO_294001.out).2.1); rintro e w110 ⟨rfl, hb⟩; refine ⟨_, rfl, ?_⟩; have n0_ := Aside0.mk (Kd.R_below (rA HO_283001.out) hb); have n1_ := Aside0.mk (Kd.R_below (rA HO_288001.out) hb); have n2_ := Aside0.mk (Kd.R_below (rA HO_294001.out) hb); have n3_ := Aside0.mk (blk_below (g := gb271) (o := .cells #[.string a0_0, .slice A0_1 l0_1.length c0_1] 24 (0, 0)) (kA BK271.out) hb); have n4_ := Aside0.mk (blk_below (g := gb282) (o := .cells #[.string t277, .slice Ao29 t278.length co29] 28 (0, 0)) (kA BK282.out) hb); have n5_ := Aside0.mk (blk_below (g := gb287) (o := .cells #[.string t283, .slice Ao36 t301.length co36] 28 (0, 0)) (kA BK287.out) hb); have n6_ := Aside0.mk (blk_below (g := gb293) (o := .cells #[.string t288, .slice Ao43 t289.length co43] 28 (0, 0)) (kA BK293.out) hb); have n7_ := Aside0.mk (below_step bG hb); clear HO_283001; clear HO_288001; clear HO_294001; clear BK271; clear BK282; clear BK287; clear BK293; clear HB; have HO_283001 := n0_; have HO_288001 := n1_; have HO_294001 := n2_; have BK271 := n3_; have BK282 := n4_; have BK287 := n5_; have BK293 := n6_; have HB := n7_; clear n0_ n1_ n2_ n3_ n4_ n5_ n6_ n7_; (try clear hb); (try clear hb2); (try clear hk); (try clear hi); have hnb111 := NB271_282.out; have hnc111 := NB282_271.out; have hnb112 := NB271_287.out; have hnc112 := NB287_271.out; have hcz113_0 : w110.cell? ⟨gb271, 0, none⟩ = some (.string a0_0) := (blk_cell BK271.out 0).trans rfl; have hcz113_1 : w110.cell? ⟨gb271, 1, none⟩ = some (.slice A0_1 l0_1.length c0_1) := (blk_cell BK271.out 1).trans rfl; have hfz113_0 := blk_frozen BK271.out 0; have hfz113_1 := blk_frozen BK271.out 1) | ((with_reducible refine gate_callee (f := 6) rfl ?_); refine goesM_ (some 93) rfl rfl Try.func6 (by kernel_rfl) rfl #[.agg #[.string a0_0, .slice A0_1 l0_1.length c0_1]] rfl ?_; (with_reducible refine (laws_toMsg.calls kj66 a0_0 _ _ l0_1 t306 t307 _ ?side1 ?side2 A101.out).mono ?_); (case side1 => repeat (first | exact (Kd.C_below HR0_1.out HB.out) | (with_reducible refine Kd.C_alloc ?_ _) | (with_reducible refine Kd.C_drewN ?_ _) | (with_reducible refine Kd.C_drew ?_))); (case side2 => exact HC0_1.out); rintro e w114 ⟨v308, rfl, ho0, hb⟩; refine ⟨_, rfl, ?_⟩; have n0_ := Aside0.mk (Kd.R_elder' (rA HO_283001.out) (Kd.R_base ho0) hb); have n1_ := Aside0.mk (Kd.R_elder' (rA HO_288001.out) (Kd.R_base ho0) hb); have n2_ := Aside0.mk (Kd.R_elder' (rA HO_294001.out) (Kd.R_base ho0) hb); have n3_ := Aside0.mk (Kd.R_lower (Kd.R_new' (Kd.R_new' (Kd.R_new' ho0 (Kd.R_lt (rA HO_283001.out))) (Kd.R_lt (rA HO_288001.out))) (Kd.R_lt (rA HO_294001.out))) (below_size bG)); have n4_ := Aside0.mk (blk_below (g := gb271) (o := .cells #[.string a0_0, .slice A0_1 l0_1.length c0_1] 24 (0, 0)) (kA BK271.out) hb); have n5_ := Aside0.mk (blk_below (g := gb282) (o := .cells #[.string t277, .slice Ao29 t278.length co29] 28 (0, 0)) (kA BK282.out) hb); have n6_ := Aside0.mk (blk_below (g := gb287) (o := .cells #[.string t283, .slice Ao36 t301.length co36] 28 (0, 0)) (kA BK287.out) hb); have n7_ := Aside0.mk (blk_below (g := gb293) (o := .cells #[.string t288, .slice Ao43 t289.length co43] 28 (0, 0)) (kA BK293.out) hb); have n8_ := Aside0.mk (below_step bG hb); clear HO_283001; clear HO_288001; clear HO_294001; clear BK271; clear BK282; clear BK287; clear BK293; clear HB; have HO_283001 := n0_; have HO_288001 := n1_; have HO_294001 := n2_; have HO309 := n3_; have BK271 := n4_; have BK282 := n5_; have BK287 := n6_; have BK293 := n7_; have HB := n8_; clear n0_ n1_ n2_ n3_ n4_ n5_ n6_ n7_ n8_; (try clear hb); (try clear hb2); (try clear hk); (try clear hi); (try clear ho0); obtain ⟨Ao115, co115, eo115⟩ := Kd.R_slice HO309.out; subst eo115) | ((with_reducible refine gate_callee (f := 7) rfl ?_); refine goesM_ (some 97) rfl rfl Try.func7 (by kernel_rfl) rfl #[.agg #[.string t306, .slice Ao115 t307.length co115], .int .i64 a1, .string a2, .string a3] rfl ?_; (with_reducible refine (impl_Reply.calls t306 _ _ t307 a1 a2 a3 t310 t311 t314 _ ?side1 ?side2 A102.out).mono ?_); (case side1 => repeat (first | exact (Kd.R_reads' HO309.out).2.2 | (with_reducible refine Kd.C_alloc ?_ _) | (with_reducible refine Kd.C_drewN ?_ _) | (with_reducible refine Kd.C_drew ?_))); (case side2 => exact (Kd.R_reads' HO309.out).2.1); rintro e w116 ⟨v312, rfl, ho0, hb⟩; refine ⟨_, rfl, ?_⟩; have n0_ := Aside0.mk (Kd.R_elder' (rA HO_283001.out) (Kd.R_base ho0) hb); have n1_ := Aside0.mk (Kd.R_elder' (rA HO_288001.out) (Kd.R_base ho0) hb); have n2_ := Aside0.mk (Kd.R_elder' (rA HO_294001.out) (Kd.R_base ho0) hb); have n3_ := Aside0.mk (Kd.R_elder' (rA HO309.out) (Kd.R_base ho0) hb); have n4_ := Aside0.mk (Kd.R_lower (Kd.R_new' (Kd.R_new' (Kd.R_new' (Kd.R_new' ho0 (Kd.R_lt (rA HO_283001.out))) (Kd.R_lt (rA HO_288001.out))) (Kd.R_lt (rA HO_294001.out))) (Kd.R_lt (rA HO309.out))) (below_size bG)); have n5_ := Aside0.mk (blk_below (g := gb271) (o := .cells #[.string a0_0, .slice A0_1 l0_1.length c0_1] 24 (0, 0)) (kA BK271.out) hb); have n6_ := Aside0.mk (blk_below (g := gb282) (o := .cells #[.string t277, .slice Ao29 t278.length co29] 28 (0, 0)) (kA BK282.out) hb); have n7_ := Aside0.mk (blk_below (g := gb287) (o := .cells #[.string t283, .slice Ao36 t301.length co36] 28 (0, 0)) (kA BK287.out) hb); have n8_ := Aside0.mk (blk_below (g := gb293) (o := .cells #[.string t288, .slice Ao43 t289.length co43] 28 (0, 0)) (kA BK293.out) hb); have n9_ := Aside0.mk (below_step bG hb); clear HO_283001; clear HO_288001; clear HO_294001; clear HO309; clear BK271; clear BK282; clear BK287; clear BK293; clear HB; have HO_283001 := n0_; have HO_288001 := n1_; have HO_294001 := n2_; have HO309 := n3_; have HO313 := n4_; have BK271 := n5_; have BK282 := n6_; have BK287 := n7_; have BK293 := n8_; have HB := n9_; clear n0_ n1_ n2_ n3_ n4_ n5_ n6_ n7_ n8_ n9_; (try clear hb); (try clear hb2); (try clear hk); (try clear hi); (try clear ho0)) | ((with_reducible refine gate_dst (N := 18) rfl ?_); refine box_event ?hg (N := 18) ?hd (cs := #[.string (⟨#[]⟩ : ByteArray), .slice none 0 0]) (t := 28) ?hr ?_; (case hd => rfl); (case hg => rfl); (case hr => first | (go_simp; done) | (go_simp; rfl)); intro gb315 hg w117 hbox hb; have n0_ := Aside0.mk (Kd.R_below (rA HO_283001.out) hb); have n1_ := Aside0.mk (Kd.R_below (rA HO_288001.out) hb); have n2_ := Aside0.mk (Kd.R_below (rA HO_294001.out) hb); have n3_ := Aside0.mk (Kd.R_below (rA HO309.out) hb); have n4_ := Aside0.mk (Kd.R_below (rA HO313.out) hb); have n5_ := Aside0.mk (blk_below (g := gb271) (o := .cells #[.string a0_0, .slice A0_1 l0_1.length c0_1] 24 (0, 0)) (kA BK271.out) hb); have n6_ := Aside0.mk (blk_below (g := gb282) (o := .cells #[.string t277, .slice Ao29 t278.length co29] 28 (0, 0)) (kA BK282.out) hb); have n7_ := Aside0.mk (blk_below (g := gb287) (o := .cells #[.string t283, .slice Ao36 t301.length co36] 28 (0, 0)) (kA BK287.out) hb); have n8_ := Aside0.mk (blk_below (g := gb293) (o := .cells #[.string t288, .slice Ao43 t289.length co43] 28 (0, 0)) (kA BK293.out) hb); have n9_ := Aside0.mk (below_step bG hb); have n10_ := Aside0.mk (hbox); have n11_ := Aside0.mk ((by rw [hg]; exact (below_size bG) : w.heap.size ≤ gb315)); have n12_ := Aside0.mk ((by rw [hg]; exact (below_size bG) : w.heap.size ≤ gb315)); have n13_ := Aside0.mk ((by rw [hg]; exact Nat.ne_of_lt (blk_lt (g := gb271) (o := .cells #[.string a0_0, .slice A0_1 l0_1.length c0_1] 24 (0, 0)) (kA BK271.out)) : gb271 ≠ gb315)); have n14_ := Aside0.mk ((by rw [hg]; exact Nat.ne_of_gt (blk_lt (g := gb271) (o := .cells #[.string a0_0, .slice A0_1 l0_1.length c0_1] 24 (0, 0)) (kA BK271.out)) : gb315 ≠ gb271)); have n15_ := Aside0.mk ((by rw [hg]; exact Nat.ne_of_lt (blk_lt (g := gb282) (o := .cells #[.string t277, .slice Ao29 t278.length co29] 28 (0, 0)) (kA BK282.out)) : gb282 ≠ gb315)); have n16_ := Aside0.mk ((by rw [hg]; exact Nat.ne_of_gt (blk_lt (g := gb282) (o := .cells #[.string t277, .slice Ao29 t278.length co29] 28 (0, 0)) (kA BK282.out)) : gb315 ≠ gb282)); have n17_ := Aside0.mk ((by rw [hg]; exact Nat.ne_of_lt (blk_lt (g := gb287) (o := .cells #[.string t283, .slice Ao36 t301.length co36] 28 (0, 0)) (kA BK287.out)) : gb287 ≠ gb315)); have n18_ := Aside0.mk ((by rw [hg]; exact Nat.ne_of_gt (blk_lt (g := gb287) (o := .cells #[.string t283, .slice Ao36 t301.length co36] 28 (0, 0)) (kA BK287.out)) : gb315 ≠ gb287)); have n19_ := Aside0.mk ((by rw [hg]; exact Nat.ne_of_lt (blk_lt (g := gb293) (o := .cells #[.string t288, .slice Ao43 t289.length co43] 28 (0, 0)) (kA BK293.out)) : gb293 ≠ gb315)); have n20_ := Aside0.mk ((by rw [hg]; exact Nat.ne_of_gt (blk_lt (g := gb293) (o := .cells #[.string t288, .slice Ao43 t289.length co43] 28 (0, 0)) (kA BK293.out)) : gb315 ≠ gb293)); clear HO_283001; clear HO_288001; clear HO_294001; clear HO309; clear HO313; clear BK271; clear BK282; clear BK287; clear BK293; clear HB; have HO_283001 := n0_; have HO_288001 := n1_; have HO_294001 := n2_; have HO309 := n3_; have HO313 := n4_; have BK271 := n5_; have BK282 := n6_; have BK287 := n7_; have BK293 := n8_; have HB := n9_; have BK315 := n10_; have GW315 := n11_; have GE315 := n12_; have NB271_315 := n13_; have NB315_271 := n14_; have NB282_315 := n15_; have NB315_282 := n16_; have NB287_315 := n17_; have NB315_287 := n18_; have NB293_315 := n19_; have NB315_293 := n20_; clear n0_ n1_ n2_ n3_ n4_ n5_ n6_ n7_ n8_ n9_ n10_ n11_ n12_ n13_ n14_ n15_ n16_ n17_ n18_ n19_ n20_; clear hb hbox hg; have hnb118 := NB315_271.out; have hnc118 := NB271_315.out; have hnb119 := NB315_282.out; have hnc119 := NB282_315.out; have hnb120 := NB315_287.out; have hnc120 := NB287_315.out; have hnb121 := NB315_293.out; have hnc121 := NB293_315.out; have hcz122_0 : w117.cell? ⟨gb315, 0, none⟩ = some (.string (⟨#[]⟩ : ByteArray)) := (blk_cell BK315.out 0).trans rfl; have hcz122_1 : w117.cell? ⟨gb315, 1, none⟩ = some (.slice none 0 0) := (blk_cell BK315.out 1).trans rfl; have hfz122_0 := blk_frozen BK315.out 0; have hfz122_1 := blk_frozen BK315.out 1; obtain ⟨Ao123, co123, eo123⟩ := Kd.R_slice HO313.out; subst eo123))
             (try simp only [Act.put, List.setIfInBounds_toArray, List.set_cons_zero, List.set_cons_succ])
             go_cut [108] (fun v108 wc => ∃ (kq : Nat) (x108_102 : Bool), v108 = .bool x108_102 ∧ Aside0 (laws_FnExactReply.j2 kq t303 x108_102 t288 t304 = some r) ∧ Aside0 (kq ≤ kj66) ∧ Aside0 (Kd.R k45 45 wc w.heap.size (fun k_ => some k_ ≠ ((.slice Ao36 t301.length co36) : Value).ownBlock ∧ some k_ ≠ ((.slice Ao43 t289.length co43) : Value).ownBlock ∧ some k_ ≠ ((.slice Ao123 t311.length co123) : Value).ownBlock) (.slice Ao29 t278.length co29) t278) ∧ Aside0 (Kd.R k45 45 wc w.heap.size (fun k_ => some k_ ≠ ((.slice Ao29 t278.length co29) : Value).ownBlock ∧ some k_ ≠ ((.slice Ao43 t289.length co43) : Value).ownBlock ∧ some k_ ≠ ((.slice Ao123 t311.length co123) : Value).ownBlock) (.slice Ao36 t301.length co36) t301) ∧ Aside0 (Kd.R k45 45 wc w.heap.size (fun k_ => some k_ ≠ ((.slice Ao29 t278.length co29) : Value).ownBlock ∧ some k_ ≠ ((.slice Ao36 t301.length co36) : Value).ownBlock ∧ some k_ ≠ ((.slice Ao123 t311.length co123) : Value).ownBlock) (.slice Ao43 t289.length co43) t304) ∧ Aside0 (Kd.R k45 45 wc w.heap.size (fun k_ => some k_ ≠ ((.slice Ao29 t278.length co29) : Value).ownBlock ∧ some k_ ≠ ((.slice Ao36 t301.length co36) : Value).ownBlock ∧ some k_ ≠ ((.slice Ao43 t289.length co43) : Value).ownBlock) (.slice Ao123 t311.length co123) t311) ∧ Aside0 (wc.heap[gb271]? = some (.cells #[.string a0_0, (.slice A0_1 l0_1.length c0_1)] 24 (0, 0))) ∧ Aside0 (wc.heap[gb282]? = some (.cells #[.string t277, (.slice Ao29 t278.length co29)] 28 (0, 0))) ∧ Aside0 (wc.heap[gb287]? = some (.cells #[.string t283, (.slice Ao36 t301.length co36)] 28 (0, 0))) ∧ Aside0 (wc.heap[gb293]? = some (.cells #[.string t288, (.slice Ao43 t289.length co43)] 28 (0, 0))) ∧ Aside0 (wc.heap[gb315]? = some (.cells #[.string t310, (.slice Ao123 t311.length co123)] 28 (0, 0))) ∧ Aside0 (Below w.heap.size w wc))
             case first =>
              have H := HC103.out
              clear HC103
              replace H := Option.bind_eq_some_iff.mp H
              obtain ⟨t316, A1240, H⟩ := H
              replace H : (if t316 = true then (laws_FnExactReply.j2 kj66 t303 (t314 != t281) t288 t304) else (laws_FnExactReply.j2 kj66 t303 true t288 t304)) = some r := H
              have A124 := Aside0.mk A1240
              clear A1240
              by_cases c125 : t316 = true
              ·subst c125
               have H1 : (laws_FnExactReply.j2 kj66 t303 (t314 != t281) t288 t304) = some r := by rw [if_pos rfl] at H; exact H
               clear H
               have H := H1
               clear H1
               have H' := Aside0.mk H
               clear H
               have hnb126 := NB315_271.out
               have hnc126 := NB271_315.out
               have hnb127 := NB315_282.out
               have hnc127 := NB282_315.out
               have hnb128 := NB315_287.out
               have hnc128 := NB287_315.out
               have hnb129 := NB315_293.out
               have hnc129 := NB293_315.out
               have hcz130_0 : w117.cell? ⟨gb315, 0, none⟩ = some (.string (⟨#[]⟩ : ByteArray)) := (blk_cell BK315.out 0).trans rfl
               have hcz130_1 : w117.cell? ⟨gb315, 1, none⟩ = some (.slice none 0 0) := (blk_cell BK315.out 1).trans rfl
               have hfz130_0 := blk_frozen BK315.out 0
               have hfz130_1 := blk_frozen BK315.out 1
               have hnb131 := NB282_271.out
               have hnc131 := NB271_282.out
               have hnb132 := NB282_287.out
               have hnc132 := NB287_282.out
               have hnb133 := NB282_293.out
               have hnc133 := NB293_282.out
               have hcz134_0 : w117.cell? ⟨gb282, 0, none⟩ = some (.string t277) := (blk_cell BK282.out 0).trans rfl
               have hcz134_1 : w117.cell? ⟨gb282, 1, none⟩ = some (.slice Ao29 t278.length co29) := (blk_cell BK282.out 1).trans rfl
               have hfz134_0 := blk_frozen BK282.out 0
               have hfz134_1 := blk_frozen BK282.out 1
               go_wp2_with (first | ((with_reducible refine gate_callee (f := 8) rfl ?_); refine goesM_ (some 102) rfl rfl Try.func8 (by kernel_rfl) rfl #[.agg #[.string t310, .slice Ao123 t311.length co123], .agg #[.string t277, .slice Ao29 t278.length co29]] rfl ?_; (with_reducible refine (laws_eqMsg.calls kj66 t310 _ _ t311 t277 _ _ t278 true _ ?side1 ?side2 ?side3 ?side4 A124.out).mono ?_); (case side1 => refine (Kd.R_reads' (e := 45) (base := w.heap.size) (ok := fun k_ => ((((True ∧ some k_ ≠ (.slice Ao29 t278.length co29 : Value).ownBlock) ∧ some k_ ≠ (.slice Ao36 t301.length co36 : Value).ownBlock) ∧ some k_ ≠ (.slice Ao43 t289.length co43 : Value).ownBlock) ∧ some k_ ≠ (.slice Ao115 t307.length co115 : Value).ownBlock)) (n := t311.length) (c := co123) ?_).2.2; exact (by (with_reducible repeat (first | apply Kd.R_alloc | apply Kd.R_drewN | apply Kd.R_drew)); exact (Kd.R_mono (Kd.R_far (p := ⟨gb315, 1, none⟩) (Kd.R_far (p := ⟨gb315, 0, none⟩) (Kd.R_types HO313.out BK315.out (by decide)) (fun _ hk => hk.2) (.string t310)) (fun _ hk => hk.2) (.slice Ao123 t311.length co123)) (fun _ h_ => h_.1)))); (case side2 => exact (Kd.R_reads' HO313.out).2.1); (case side3 => refine (Kd.R_reads' (e := 45) (base := w.heap.size) (ok := fun k_ => (((some k_ ≠ (.slice Ao36 t301.length co36 : Value).ownBlock ∧ some k_ ≠ (.slice Ao43 t289.length co43 : Value).ownBlock) ∧ some k_ ≠ (.slice Ao115 t307.length co115 : Value).ownBlock) ∧ some k_ ≠ (.slice Ao123 t311.length co123 : Value).ownBlock)) (n := t278.length) (c := co29) ?_).2.2; exact (by (with_reducible repeat (first | apply Kd.R_alloc | apply Kd.R_drewN | apply Kd.R_drew)); exact (Kd.R_mono (Kd.R_far (p := ⟨gb315, 1, none⟩) (Kd.R_far (p := ⟨gb315, 0, none⟩) (Kd.R_types HO_283001.out BK315.out (by decide)) (fun _ hk => hk.2) (.string t310)) (fun _ hk => hk.2) (.slice Ao123 t311.length co123)) (fun _ h_ => h_.1)))); (case side4 => exact (Kd.R_reads' HO_283001.out).2.1); rintro e w135 ⟨rfl, hb⟩; refine ⟨_, rfl, ?_⟩; have n0_ := Aside0.mk (Kd.R_below (by (with_reducible repeat (first | apply Kd.R_alloc | apply Kd.R_drewN | apply Kd.R_drew)); exact (Kd.R_mono (Kd.R_far (p := ⟨gb315, 1, none⟩) (Kd.R_far (p := ⟨gb315, 0, none⟩) (Kd.R_types HO_283001.out BK315.out (by decide)) (fun _ hk => hk.2) (.string t310)) (fun _ hk => hk.2) (.slice Ao123 t311.length co123)) (fun _ h_ => h_.1))) hb); have n1_ := Aside0.mk (Kd.R_below (by (with_reducible repeat (first | apply Kd.R_alloc | apply Kd.R_drewN | apply Kd.R_drew)); exact (Kd.R_mono (Kd.R_far (p := ⟨gb315, 1, none⟩) (Kd.R_far (p := ⟨gb315, 0, none⟩) (Kd.R_types HO_288001.out BK315.out (by decide)) (fun _ hk => hk.2) (.string t310)) (fun _ hk => hk.2) (.slice Ao123 t311.length co123)) (fun _ h_ => h_.1))) hb); have n2_ := Aside0.mk (Kd.R_below (by (with_reducible repeat (first | apply Kd.R_alloc | apply Kd.R_drewN | apply Kd.R_drew)); exact (Kd.R_mono (Kd.R_far (p := ⟨gb315, 1, none⟩) (Kd.R_far (p := ⟨gb315, 0, none⟩) (Kd.R_types HO_294001.out BK315.out (by decide)) (fun _ hk => hk.2) (.string t310)) (fun _ hk => hk.2) (.slice Ao123 t311.length co123)) (fun _ h_ => h_.1))) hb); have n3_ := Aside0.mk (Kd.R_below (by (with_reducible repeat (first | apply Kd.R_alloc | apply Kd.R_drewN | apply Kd.R_drew)); exact (Kd.R_mono (Kd.R_far (p := ⟨gb315, 1, none⟩) (Kd.R_far (p := ⟨gb315, 0, none⟩) (Kd.R_types HO309.out BK315.out (by decide)) (fun _ hk => hk.2) (.string t310)) (fun _ hk => hk.2) (.slice Ao123 t311.length co123)) (fun _ h_ => h_.1))) hb); have n4_ := Aside0.mk (Kd.R_below (by (with_reducible repeat (first | apply Kd.R_alloc | apply Kd.R_drewN | apply Kd.R_drew)); exact (Kd.R_mono (Kd.R_far (p := ⟨gb315, 1, none⟩) (Kd.R_far (p := ⟨gb315, 0, none⟩) (Kd.R_types HO313.out BK315.out (by decide)) (fun _ hk => hk.2) (.string t310)) (fun _ hk => hk.2) (.slice Ao123 t311.length co123)) (fun _ h_ => h_.1))) hb); have n5_ := Aside0.mk (blk_below (g := gb271) (o := .cells #[.string a0_0, .slice A0_1 l0_1.length c0_1] 24 (0, 0)) (by (with_reducible repeat (first | refine blk_drewN ?_ _ | refine blk_drew ?_ | refine blk_alloc ?_ _)); refine blk_far ?_ NB271_315.out _; (with_reducible repeat (first | refine blk_drewN ?_ _ | refine blk_drew ?_ | refine blk_alloc ?_ _)); refine blk_far ?_ NB271_315.out _; (with_reducible repeat (first | refine blk_drewN ?_ _ | refine blk_drew ?_ | refine blk_alloc ?_ _)); exact BK271.out) hb); have n6_ := Aside0.mk (blk_below (g := gb282) (o := .cells #[.string t277, .slice Ao29 t278.length co29] 28 (0, 0)) (by (with_reducible repeat (first | refine blk_drewN ?_ _ | refine blk_drew ?_ | refine blk_alloc ?_ _)); refine blk_far ?_ NB282_315.out _; (with_reducible repeat (first | refine blk_drewN ?_ _ | refine blk_drew ?_ | refine blk_alloc ?_ _)); refine blk_far ?_ NB282_315.out _; (with_reducible repeat (first | refine blk_drewN ?_ _ | refine blk_drew ?_ | refine blk_alloc ?_ _)); exact BK282.out) hb); have n7_ := Aside0.mk (blk_below (g := gb287) (o := .cells #[.string t283, .slice Ao36 t301.length co36] 28 (0, 0)) (by (with_reducible repeat (first | refine blk_drewN ?_ _ | refine blk_drew ?_ | refine blk_alloc ?_ _)); refine blk_far ?_ NB287_315.out _; (with_reducible repeat (first | refine blk_drewN ?_ _ | refine blk_drew ?_ | refine blk_alloc ?_ _)); refine blk_far ?_ NB287_315.out _; (with_reducible repeat (first | refine blk_drewN ?_ _ | refine blk_drew ?_ | refine blk_alloc ?_ _)); exact BK287.out) hb); have n8_ := Aside0.mk (blk_below (g := gb293) (o := .cells #[.string t288, .slice Ao43 t289.length co43] 28 (0, 0)) (by (with_reducible repeat (first | refine blk_drewN ?_ _ | refine blk_drew ?_ | refine blk_alloc ?_ _)); refine blk_far ?_ NB293_315.out _; (with_reducible repeat (first | refine blk_drewN ?_ _ | refine blk_drew ?_ | refine blk_alloc ?_ _)); refine blk_far ?_ NB293_315.out _; (with_reducible repeat (first | refine blk_drewN ?_ _ | refine blk_drew ?_ | refine blk_alloc ?_ _)); exact BK293.out) hb); have n9_ := Aside0.mk (blk_below (g := gb315) (o := .cells #[.string t310, .slice Ao123 t311.length co123] 28 (0, 0)) (by (with_reducible repeat (first | refine blk_drewN ?_ _ | refine blk_drew ?_ | refine blk_alloc ?_ _)); refine blk_put (cs := #[.string t310, .slice none 0 0]) ?_ 1 _ rfl; (with_reducible repeat (first | refine blk_drewN ?_ _ | refine blk_drew ?_ | refine blk_alloc ?_ _)); refine blk_put (cs := #[.string (⟨#[]⟩ : ByteArray), .slice none 0 0]) ?_ 0 _ rfl; (with_reducible repeat (first | refine blk_drewN ?_ _ | refine blk_drew ?_ | refine blk_alloc ?_ _)); exact BK315.out) hb); have n10_ := Aside0.mk (below_step bG hb); clear HO_283001; clear HO_288001; clear HO_294001; clear HO309; clear HO313; clear BK271; clear BK282; clear BK287; clear BK293; clear BK315; clear HB; have HO_283001 := n0_; have HO_288001 := n1_; have HO_294001 := n2_; have HO309 := n3_; have HO313 := n4_; have BK271 := n5_; have BK282 := n6_; have BK287 := n7_; have BK293 := n8_; have BK315 := n9_; have HB := n10_; clear n0_ n1_ n2_ n3_ n4_ n5_ n6_ n7_ n8_ n9_ n10_; (try clear hb); (try clear hb2); (try clear hk); (try clear hi)))
               go_meet
               case rel => exact ⟨_, ((t314 != t281)), (by first | rfl | (simp; done) | (simp [*]; done) | (simp [i64_w, IntKind.wrap_u8, e256_]; done) | (simp; generalize ByteArray.toList _ = zz_; cases zz_ <;> rfl)), H', ⟨by have := HJ17.out; have := HJ66.out; first | omega | exact Nat.le_refl _⟩, ⟨by (try simp only [hl288001_66]); (with_reducible repeat (first | apply Kd.R_alloc | apply Kd.R_drewN | apply Kd.R_drew)); exact Kd.R_mono HO_283001.out (fun _ hk => ⟨hk.1.1.1, ⟨hk.1.1.2, hk.2⟩⟩)⟩, ⟨by (try simp only [hl288001_66]); (with_reducible repeat (first | apply Kd.R_alloc | apply Kd.R_drewN | apply Kd.R_drew)); exact Kd.R_mono HO_288001.out (fun _ hk => ⟨hk.1.1.1, ⟨hk.1.1.2, hk.2⟩⟩)⟩, ⟨by (try simp only [hl288001_66]); (with_reducible repeat (first | apply Kd.R_alloc | apply Kd.R_drewN | apply Kd.R_drew)); exact Kd.R_mono HO_294001.out (fun _ hk => ⟨hk.1.1.1, ⟨hk.1.1.2, hk.2⟩⟩)⟩, ⟨by (try simp only [hl288001_66]); (with_reducible repeat (first | apply Kd.R_alloc | apply Kd.R_drewN | apply Kd.R_drew)); exact Kd.R_mono HO313.out (fun _ hk => ⟨hk.1.1.1.2, ⟨hk.1.1.2, hk.1.2⟩⟩)⟩, ⟨by (try simp only [hl288001_66]); (with_reducible repeat (first | refine blk_drewN ?_ _ | refine blk_drew ?_ | refine blk_alloc ?_ _)); exact BK271.out⟩, ⟨by (try simp only [hl288001_66]); (with_reducible repeat (first | refine blk_drewN ?_ _ | refine blk_drew ?_ | refine blk_alloc ?_ _)); exact BK282.out⟩, ⟨by (try simp only [hl288001_66]); (with_reducible repeat (first | refine blk_drewN ?_ _ | refine blk_drew ?_ | refine blk_alloc ?_ _)); exact BK287.out⟩, ⟨by (try simp only [hl288001_66]); (with_reducible repeat (first | refine blk_drewN ?_ _ | refine blk_drew ?_ | refine blk_alloc ?_ _)); exact BK293.out⟩, ⟨by (try simp only [hl288001_66]); (with_reducible repeat (first | refine blk_drewN ?_ _ | refine blk_drew ?_ | refine blk_alloc ?_ _)); exact BK315.out⟩, ⟨bG⟩⟩
              ·replace c125 := Bool.eq_false_iff.mpr c125
               subst c125
               have H1 : (laws_FnExactReply.j2 kj66 t303 true t288 t304) = some r := by rw [if_neg (show ¬ (false = true) by decide)] at H; exact H
               clear H
               have H := H1
               clear H1
               have H' := Aside0.mk H
               clear H
               have hnb136 := NB315_271.out
               have hnc136 := NB271_315.out
               have hnb137 := NB315_282.out
               have hnc137 := NB282_315.out
               have hnb138 := NB315_287.out
               have hnc138 := NB287_315.out
               have hnb139 := NB315_293.out
               have hnc139 := NB293_315.out
               have hcz140_0 : w117.cell? ⟨gb315, 0, none⟩ = some (.string (⟨#[]⟩ : ByteArray)) := (blk_cell BK315.out 0).trans rfl
               have hcz140_1 : w117.cell? ⟨gb315, 1, none⟩ = some (.slice none 0 0) := (blk_cell BK315.out 1).trans rfl
               have hfz140_0 := blk_frozen BK315.out 0
               have hfz140_1 := blk_frozen BK315.out 1
               have hnb141 := NB282_271.out
               have hnc141 := NB271_282.out
               have hnb142 := NB282_287.out
               have hnc142 := NB287_282.out
               have hnb143 := NB282_293.out
               have hnc143 := NB293_282.out
               have hcz144_0 : w117.cell? ⟨gb282, 0, none⟩ = some (.string t277) := (blk_cell BK282.out 0).trans rfl
               have hcz144_1 : w117.cell? ⟨gb282, 1, none⟩ = some (.slice Ao29 t278.length co29) := (blk_cell BK282.out 1).trans rfl
               have hfz144_0 := blk_frozen BK282.out 0
               have hfz144_1 := blk_frozen BK282.out 1
               go_wp2_with (first | ((with_reducible refine gate_callee (f := 8) rfl ?_); refine goesM_ (some 102) rfl rfl Try.func8 (by kernel_rfl) rfl #[.agg #[.string t310, .slice Ao123 t311.length co123], .agg #[.string t277, .slice Ao29 t278.length co29]] rfl ?_; (with_reducible refine (laws_eqMsg.calls kj66 t310 _ _ t311 t277 _ _ t278 false _ ?side1 ?side2 ?side3 ?side4 A124.out).mono ?_); (case side1 => refine (Kd.R_reads' (e := 45) (base := w.heap.size) (ok := fun k_ => ((((True ∧ some k_ ≠ (.slice Ao29 t278.length co29 : Value).ownBlock) ∧ some k_ ≠ (.slice Ao36 t301.length co36 : Value).ownBlock) ∧ some k_ ≠ (.slice Ao43 t289.length co43 : Value).ownBlock) ∧ some k_ ≠ (.slice Ao115 t307.length co115 : Value).ownBlock)) (n := t311.length) (c := co123) ?_).2.2; exact (by (with_reducible repeat (first | apply Kd.R_alloc | apply Kd.R_drewN | apply Kd.R_drew)); exact (Kd.R_mono (Kd.R_far (p := ⟨gb315, 1, none⟩) (Kd.R_far (p := ⟨gb315, 0, none⟩) (Kd.R_types HO313.out BK315.out (by decide)) (fun _ hk => hk.2) (.string t310)) (fun _ hk => hk.2) (.slice Ao123 t311.length co123)) (fun _ h_ => h_.1)))); (case side2 => exact (Kd.R_reads' HO313.out).2.1); (case side3 => refine (Kd.R_reads' (e := 45) (base := w.heap.size) (ok := fun k_ => (((some k_ ≠ (.slice Ao36 t301.length co36 : Value).ownBlock ∧ some k_ ≠ (.slice Ao43 t289.length co43 : Value).ownBlock) ∧ some k_ ≠ (.slice Ao115 t307.length co115 : Value).ownBlock) ∧ some k_ ≠ (.slice Ao123 t311.length co123 : Value).ownBlock)) (n := t278.length) (c := co29) ?_).2.2; exact (by (with_reducible repeat (first | apply Kd.R_alloc | apply Kd.R_drewN | apply Kd.R_drew)); exact (Kd.R_mono (Kd.R_far (p := ⟨gb315, 1, none⟩) (Kd.R_far (p := ⟨gb315, 0, none⟩) (Kd.R_types HO_283001.out BK315.out (by decide)) (fun _ hk => hk.2) (.string t310)) (fun _ hk => hk.2) (.slice Ao123 t311.length co123)) (fun _ h_ => h_.1)))); (case side4 => exact (Kd.R_reads' HO_283001.out).2.1); rintro e w145 ⟨rfl, hb⟩; refine ⟨_, rfl, ?_⟩; have n0_ := Aside0.mk (Kd.R_below (by (with_reducible repeat (first | apply Kd.R_alloc | apply Kd.R_drewN | apply Kd.R_drew)); exact (Kd.R_mono (Kd.R_far (p := ⟨gb315, 1, none⟩) (Kd.R_far (p := ⟨gb315, 0, none⟩) (Kd.R_types HO_283001.out BK315.out (by decide)) (fun _ hk => hk.2) (.string t310)) (fun _ hk => hk.2) (.slice Ao123 t311.length co123)) (fun _ h_ => h_.1))) hb); have n1_ := Aside0.mk (Kd.R_below (by (with_reducible repeat (first | apply Kd.R_alloc | apply Kd.R_drewN | apply Kd.R_drew)); exact (Kd.R_mono (Kd.R_far (p := ⟨gb315, 1, none⟩) (Kd.R_far (p := ⟨gb315, 0, none⟩) (Kd.R_types HO_288001.out BK315.out (by decide)) (fun _ hk => hk.2) (.string t310)) (fun _ hk => hk.2) (.slice Ao123 t311.length co123)) (fun _ h_ => h_.1))) hb); have n2_ := Aside0.mk (Kd.R_below (by (with_reducible repeat (first | apply Kd.R_alloc | apply Kd.R_drewN | apply Kd.R_drew)); exact (Kd.R_mono (Kd.R_far (p := ⟨gb315, 1, none⟩) (Kd.R_far (p := ⟨gb315, 0, none⟩) (Kd.R_types HO_294001.out BK315.out (by decide)) (fun _ hk => hk.2) (.string t310)) (fun _ hk => hk.2) (.slice Ao123 t311.length co123)) (fun _ h_ => h_.1))) hb); have n3_ := Aside0.mk (Kd.R_below (by (with_reducible repeat (first | apply Kd.R_alloc | apply Kd.R_drewN | apply Kd.R_drew)); exact (Kd.R_mono (Kd.R_far (p := ⟨gb315, 1, none⟩) (Kd.R_far (p := ⟨gb315, 0, none⟩) (Kd.R_types HO309.out BK315.out (by decide)) (fun _ hk => hk.2) (.string t310)) (fun _ hk => hk.2) (.slice Ao123 t311.length co123)) (fun _ h_ => h_.1))) hb); have n4_ := Aside0.mk (Kd.R_below (by (with_reducible repeat (first | apply Kd.R_alloc | apply Kd.R_drewN | apply Kd.R_drew)); exact (Kd.R_mono (Kd.R_far (p := ⟨gb315, 1, none⟩) (Kd.R_far (p := ⟨gb315, 0, none⟩) (Kd.R_types HO313.out BK315.out (by decide)) (fun _ hk => hk.2) (.string t310)) (fun _ hk => hk.2) (.slice Ao123 t311.length co123)) (fun _ h_ => h_.1))) hb); have n5_ := Aside0.mk (blk_below (g := gb271) (o := .cells #[.string a0_0, .slice A0_1 l0_1.length c0_1] 24 (0, 0)) (by (with_reducible repeat (first | refine blk_drewN ?_ _ | refine blk_drew ?_ | refine blk_alloc ?_ _)); refine blk_far ?_ NB271_315.out _; (with_reducible repeat (first | refine blk_drewN ?_ _ | refine blk_drew ?_ | refine blk_alloc ?_ _)); refine blk_far ?_ NB271_315.out _; (with_reducible repeat (first | refine blk_drewN ?_ _ | refine blk_drew ?_ | refine blk_alloc ?_ _)); exact BK271.out) hb); have n6_ := Aside0.mk (blk_below (g := gb282) (o := .cells #[.string t277, .slice Ao29 t278.length co29] 28 (0, 0)) (by (with_reducible repeat (first | refine blk_drewN ?_ _ | refine blk_drew ?_ | refine blk_alloc ?_ _)); refine blk_far ?_ NB282_315.out _; (with_reducible repeat (first | refine blk_drewN ?_ _ | refine blk_drew ?_ | refine blk_alloc ?_ _)); refine blk_far ?_ NB282_315.out _; (with_reducible repeat (first | refine blk_drewN ?_ _ | refine blk_drew ?_ | refine blk_alloc ?_ _)); exact BK282.out) hb); have n7_ := Aside0.mk (blk_below (g := gb287) (o := .cells #[.string t283, .slice Ao36 t301.length co36] 28 (0, 0)) (by (with_reducible repeat (first | refine blk_drewN ?_ _ | refine blk_drew ?_ | refine blk_alloc ?_ _)); refine blk_far ?_ NB287_315.out _; (with_reducible repeat (first | refine blk_drewN ?_ _ | refine blk_drew ?_ | refine blk_alloc ?_ _)); refine blk_far ?_ NB287_315.out _; (with_reducible repeat (first | refine blk_drewN ?_ _ | refine blk_drew ?_ | refine blk_alloc ?_ _)); exact BK287.out) hb); have n8_ := Aside0.mk (blk_below (g := gb293) (o := .cells #[.string t288, .slice Ao43 t289.length co43] 28 (0, 0)) (by (with_reducible repeat (first | refine blk_drewN ?_ _ | refine blk_drew ?_ | refine blk_alloc ?_ _)); refine blk_far ?_ NB293_315.out _; (with_reducible repeat (first | refine blk_drewN ?_ _ | refine blk_drew ?_ | refine blk_alloc ?_ _)); refine blk_far ?_ NB293_315.out _; (with_reducible repeat (first | refine blk_drewN ?_ _ | refine blk_drew ?_ | refine blk_alloc ?_ _)); exact BK293.out) hb); have n9_ := Aside0.mk (blk_below (g := gb315) (o := .cells #[.string t310, .slice Ao123 t311.length co123] 28 (0, 0)) (by (with_reducible repeat (first | refine blk_drewN ?_ _ | refine blk_drew ?_ | refine blk_alloc ?_ _)); refine blk_put (cs := #[.string t310, .slice none 0 0]) ?_ 1 _ rfl; (with_reducible repeat (first | refine blk_drewN ?_ _ | refine blk_drew ?_ | refine blk_alloc ?_ _)); refine blk_put (cs := #[.string (⟨#[]⟩ : ByteArray), .slice none 0 0]) ?_ 0 _ rfl; (with_reducible repeat (first | refine blk_drewN ?_ _ | refine blk_drew ?_ | refine blk_alloc ?_ _)); exact BK315.out) hb); have n10_ := Aside0.mk (below_step bG hb); clear HO_283001; clear HO_288001; clear HO_294001; clear HO309; clear HO313; clear BK271; clear BK282; clear BK287; clear BK293; clear BK315; clear HB; have HO_283001 := n0_; have HO_288001 := n1_; have HO_294001 := n2_; have HO309 := n3_; have HO313 := n4_; have BK271 := n5_; have BK282 := n6_; have BK287 := n7_; have BK293 := n8_; have BK315 := n9_; have HB := n10_; clear n0_ n1_ n2_ n3_ n4_ n5_ n6_ n7_ n8_ n9_ n10_; (try clear hb); (try clear hb2); (try clear hk); (try clear hi)))
               go_meet
               case rel => exact ⟨_, (true), (by first | rfl | (simp; done) | (simp [*]; done) | (simp [i64_w, IntKind.wrap_u8, e256_]; done) | (simp; generalize ByteArray.toList _ = zz_; cases zz_ <;> rfl)), H', ⟨by have := HJ17.out; have := HJ66.out; first | omega | exact Nat.le_refl _⟩, ⟨by (try simp only [hl288001_66]); (with_reducible repeat (first | apply Kd.R_alloc | apply Kd.R_drewN | apply Kd.R_drew)); exact Kd.R_mono HO_283001.out (fun _ hk => ⟨hk.1.1.1, ⟨hk.1.1.2, hk.2⟩⟩)⟩, ⟨by (try simp only [hl288001_66]); (with_reducible repeat (first | apply Kd.R_alloc | apply Kd.R_drewN | apply Kd.R_drew)); exact Kd.R_mono HO_288001.out (fun _ hk => ⟨hk.1.1.1, ⟨hk.1.1.2, hk.2⟩⟩)⟩, ⟨by (try simp only [hl288001_66]); (with_reducible repeat (first | apply Kd.R_alloc | apply Kd.R_drewN | apply Kd.R_drew)); exact Kd.R_mono HO_294001.out (fun _ hk => ⟨hk.1.1.1, ⟨hk.1.1.2, hk.2⟩⟩)⟩, ⟨by (try simp only [hl288001_66]); (with_reducible repeat (first | apply Kd.R_alloc | apply Kd.R_drewN | apply Kd.R_drew)); exact Kd.R_mono HO313.out (fun _ hk => ⟨hk.1.1.1.2, ⟨hk.1.1.2, hk.1.2⟩⟩)⟩, ⟨by (try simp only [hl288001_66]); (with_reducible repeat (first | refine blk_drewN ?_ _ | refine blk_drew ?_ | refine blk_alloc ?_ _)); exact BK271.out⟩, ⟨by (try simp only [hl288001_66]); (with_reducible repeat (first | refine blk_drewN ?_ _ | refine blk_drew ?_ | refine blk_alloc ?_ _)); exact BK282.out⟩, ⟨by (try simp only [hl288001_66]); (with_reducible repeat (first | refine blk_drewN ?_ _ | refine blk_drew ?_ | refine blk_alloc ?_ _)); exact BK287.out⟩, ⟨by (try simp only [hl288001_66]); (with_reducible repeat (first | refine blk_drewN ?_ _ | refine blk_drew ?_ | refine blk_alloc ?_ _)); exact BK293.out⟩, ⟨by (try simp only [hl288001_66]); (with_reducible repeat (first | refine blk_drewN ?_ _ | refine blk_drew ?_ | refine blk_alloc ?_ _)); exact BK315.out⟩, ⟨bG⟩⟩
             case rest =>
              clear HC103
              try clear c1
              try clear c2
              try clear p2
              try clear c3
              try clear c4
              try clear c5
              try clear c5b0
              try clear c5b1
              try clear c6
              try clear p6
              try clear c7
              try clear c7b0
              try clear c7b1
              try clear c8
              try clear c9
              try clear c10
              try clear c10b0
              try clear c11
              try clear c12
              try clear c13
              try clear c14
              try clear c27
              try clear c33
              try clear c34
              try clear c39
              try clear c40
              try clear c41
              try clear c45
              try clear c46
              try clear c47
              try clear c48
              try clear c50
              try clear c51
              try clear c54
              try clear c55
              try clear c56
              try clear c58
              try clear c59
              try clear c62
              try clear p64
              try clear c65
              try clear c72
              try clear c73
              try clear c74
              try clear c77
              try clear c77b0
              try clear c77b1
              try clear c79
              try clear c80
              try clear c81
              try clear c82
              try clear c84
              try clear c85
              try clear c88
              try clear c89
              try clear c90
              try clear c92
              try clear c93
              try clear c96
              try clear c99
              try clear c99b0
              try clear c100
              try clear c100b0
              try clear c100b1
              try clear c104
              try clear c105
              try clear c106
              try clear c111
              try clear c112
              try clear c118
              try clear c119
              try clear c120
              try clear c121
              try clear c125
              try clear c126
              try clear c127
              try clear c128
              try clear c129
              try clear c131
              try clear c132
              try clear c133
              try clear c136
              try clear c137
              try clear c138
              try clear c139
              try clear c141
              try clear c142
              try clear c143
              try clear hcz107_0
              try clear hcz107_1
              try clear hcz109_0
              try clear hcz109_1
              try clear hcz113_0
              try clear hcz113_1
              try clear hcz122_0
              try clear hcz122_1
              try clear hcz12_0
              try clear hcz12_1
              try clear hcz130_0
              try clear hcz130_1
              try clear hcz134_0
              try clear hcz134_1
              try clear hcz140_0
              try clear hcz140_1
              try clear hcz144_0
              try clear hcz144_1
              try clear hcz20_0
              try clear hcz20_1
              try clear hcz22_0
              try clear hcz22_1
              try clear hcz28_0
              try clear hcz28_1
              try clear hcz30_0
              try clear hcz30_1
              try clear hcz35_0
              try clear hcz35_1
              try clear hcz42_0
              try clear hcz42_1
              try clear hcz49_0
              try clear hcz49_1
              try clear hcz52_0
              try clear hcz52_1
              try clear hcz57_0
              try clear hcz57_1
              try clear hcz60_0
              try clear hcz60_1
              try clear hcz75_0
              try clear hcz75_1
              try clear hcz83_0
              try clear hcz83_1
              try clear hcz86_0
              try clear hcz86_1
              try clear hcz91_0
              try clear hcz91_1
              try clear hcz94_0
              try clear hcz94_1
              try clear hfz107_0
              try clear hfz107_1
              try clear hfz109_0
              try clear hfz109_1
              try clear hfz113_0
              try clear hfz113_1
              try clear hfz122_0
              try clear hfz122_1
              try clear hfz12_0
              try clear hfz12_1
              try clear hfz130_0
              try clear hfz130_1
              try clear hfz134_0
              try clear hfz134_1
              try clear hfz140_0
              try clear hfz140_1
              try clear hfz144_0
              try clear hfz144_1
              try clear hfz20_0
              try clear hfz20_1
              try clear hfz22_0
              try clear hfz22_1
              try clear hfz28_0
              try clear hfz28_1
              try clear hfz30_0
              try clear hfz30_1
              try clear hfz35_0
              try clear hfz35_1
              try clear hfz42_0
              try clear hfz42_1
              try clear hfz49_0
              try clear hfz49_1
              try clear hfz52_0
              try clear hfz52_1
              try clear hfz57_0
              try clear hfz57_1
              try clear hfz60_0
              try clear hfz60_1
              try clear hfz75_0
              try clear hfz75_1
              try clear hfz83_0
              try clear hfz83_1
              try clear hfz86_0
              try clear hfz86_1
              try clear hfz91_0
              try clear hfz91_1
              try clear hfz94_0
              try clear hfz94_1
              try clear p2
              try clear p6
              try clear p64
              obtain ⟨kq, x108_102, rfl, HA, HJ102, HO_283001, HO_288001, HO_294001, HO_316001, BK271, BK282, BK287, BK293, BK315, HB⟩ := hcut
              have hl294001_102 := (Kd.R_reads' HO_294001.out).1
              rw [hl294001_102] at HO_294001
              (try simp only [hl294001_102])
              (try simp only [hl294001_102] at BK271)
              (try simp only [hl294001_102] at BK282)
              (try simp only [hl294001_102] at BK287)
              (try simp only [hl294001_102] at BK293)
              (try simp only [hl294001_102] at BK315)
              (try simp only [hl294001_102] at HO_283001)
              (try simp only [hl294001_102] at HO_288001)
              (try simp only [hl294001_102] at HO_316001)
              cases kq with
              | zero => exact absurd HA.out (by simp [laws_FnExactReply.j2])
              | succ kj102 =>
               have H := HA.out
               clear HA
               simp only [laws_FnExactReply.j2] at H
               by_cases c146 : x108_102 = true
               ·subst c146
                have H1 : (some false) = some r := by rw [if_pos rfl] at H; exact H
                clear H
                have H := H1
                clear H1
                obtain rfl := Option.some.inj H
                exact absurd hr_ (by simp)
               ·replace c146 := Bool.eq_false_iff.mpr c146
                subst c146
                have H1 : ((laws_heldMsg.f kj102 t288 t304 1).bind fun t317 => (if t317 < 0 then (some false) else (if t317 = t303 then (some true) else (some false)))) = some r := by rw [if_neg (show ¬ (false = true) by decide)] at H; exact H
                clear H
                have H := H1
                clear H1
                replace H := Option.bind_eq_some_iff.mp H
                obtain ⟨t317, A1470, H⟩ := H
                replace H : (if t317 < 0 then (some false) else (if t317 = t303 then (some true) else (some false))) = some r := H
                have A147 := Aside0.mk A1470
                clear A1470
                by_cases c148 : t317 < 0
                ·rw [if_pos c148] at H
                 have c148b0 : decide (t317 < 0) = true := decide_eq_true c148
                 clear c148
                 obtain rfl := Option.some.inj H
                 exact absurd hr_ (by simp)
                ·rw [if_neg c148] at H
                 have c148b0 : decide (t317 < 0) = false := decide_eq_false c148
                 clear c148
                 by_cases c149 : t317 = t303
                 ·rw [if_pos c149] at H
                  have c149b0 : (t317 == t303) = true := beq_iff_eq.mpr c149
                  have c149b1 : (t317 != t303) = false := bne_eq_false_iff_eq.mpr c149
                  clear c149
                  obtain rfl := Option.some.inj H
                  have hnb150 := NB293_271.out
                  have hnc150 := NB271_293.out
                  have hnb151 := NB293_282.out
                  have hnc151 := NB282_293.out
                  have hnb152 := NB293_287.out
                  have hnc152 := NB287_293.out
                  have hnb153 := NB293_315.out
                  have hnc153 := NB315_293.out
                  have hcz154_0 : wc.cell? ⟨gb293, 0, none⟩ = some (.string t288) := (blk_cell BK293.out 0).trans rfl
                  have hcz154_1 : wc.cell? ⟨gb293, 1, none⟩ = some (.slice Ao43 t304.length co43) := (blk_cell BK293.out 1).trans rfl
                  have hfz154_0 := blk_frozen BK293.out 0
                  have hfz154_1 := blk_frozen BK293.out 1
                  go_wp2_with (first | ((with_reducible refine gate_callee (f := 10) rfl ?_); refine goesM_ (some 111) rfl rfl Try.func10 (by kernel_rfl) rfl #[.agg #[.string t288, .slice Ao43 t304.length co43], .int .i64 1] rfl ?_; (with_reducible refine (laws_heldMsg.calls kj102 t288 _ _ t304 1 t317 _ ?side1 ?side2 A147.out).mono ?_); (case side1 => repeat (first | exact (Kd.R_reads' HO_294001.out).2.2 | (with_reducible refine Kd.C_alloc ?_ _) | (with_reducible refine Kd.C_drewN ?_ _) | (with_reducible refine Kd.C_drew ?_))); (case side2 => exact (Kd.R_reads' HO_294001.out).2.1); rintro e w155 ⟨rfl, hb⟩; refine ⟨_, rfl, ?_⟩; have n0_ := Aside0.mk (Kd.R_below (rA HO_283001.out) hb); have n1_ := Aside0.mk (Kd.R_below (rA HO_288001.out) hb); have n2_ := Aside0.mk (Kd.R_below (rA HO_294001.out) hb); have n3_ := Aside0.mk (Kd.R_below (rA HO_316001.out) hb); have n4_ := Aside0.mk (blk_below (g := gb271) (o := .cells #[.string a0_0, .slice A0_1 l0_1.length c0_1] 24 (0, 0)) (kA BK271.out) hb); have n5_ := Aside0.mk (blk_below (g := gb282) (o := .cells #[.string t277, .slice Ao29 t278.length co29] 28 (0, 0)) (kA BK282.out) hb); have n6_ := Aside0.mk (blk_below (g := gb287) (o := .cells #[.string t283, .slice Ao36 t301.length co36] 28 (0, 0)) (kA BK287.out) hb); have n7_ := Aside0.mk (blk_below (g := gb293) (o := .cells #[.string t288, .slice Ao43 t304.length co43] 28 (0, 0)) (kA BK293.out) hb); have n8_ := Aside0.mk (blk_below (g := gb315) (o := .cells #[.string t310, .slice Ao123 t311.length co123] 28 (0, 0)) (kA BK315.out) hb); have n9_ := Aside0.mk (below_step bG hb); clear HO_283001; clear HO_288001; clear HO_294001; clear HO_316001; clear BK271; clear BK282; clear BK287; clear BK293; clear BK315; clear HB; have HO_283001 := n0_; have HO_288001 := n1_; have HO_294001 := n2_; have HO_316001 := n3_; have BK271 := n4_; have BK282 := n5_; have BK287 := n6_; have BK293 := n7_; have BK315 := n8_; have HB := n9_; clear n0_ n1_ n2_ n3_ n4_ n5_ n6_ n7_ n8_ n9_; (try clear hb); (try clear hb2); (try clear hk); (try clear hi)))
                  go_ret
                  exact ⟨by first | rfl | (simp [errW_none, errW_some] <;> rfl) | (simp [*, errW_none, errW_some] <;> rfl), bG⟩
                 ·rw [if_neg c149] at H
                  have c149b0 : (t317 == t303) = false := beq_eq_false_iff_ne.mpr c149
                  have c149b1 : (t317 != t303) = true := bne_iff_ne.mpr c149
                  obtain rfl := Option.some.inj H
                  exact absurd hr_ (by simp)
            ·rw [if_neg c100] at H
             have c100b0 : (t305 == t303) = false := beq_eq_false_iff_ne.mpr c100
             have c100b1 : (t305 != t303) = true := bne_iff_ne.mpr c100
             obtain rfl := Option.some.inj H
             exact absurd hr_ (by simp)
       ·replace c65 := Bool.eq_false_iff.mpr c65
        subst c65
        have H1 : (some false) = some r := by rw [if_neg (show ¬ (false = true) by decide)] at H; exact H
        clear H
        have H := H1
        clear H1
        obtain rfl := Option.some.inj H
        exact absurd hr_ (by simp)
end Go.Proofs.Ytnnnglbjipiclaa.Q
end
section
namespace Go.Proofs.Ytnnnglbjipiclaa.Q
open Go.RowKit Go.Proofs.YtnnnglbjipiclaaW.PrintWords Go.Proofs.YtnnnglbjipiclaaW.PrintLast Go.Proofs.YtnnnglbjipiclaaW.PrintMore
set_option linter.unusedVariables false
set_option linter.unusedSimpArgs false
theorem szFieldS_l (l : List LF) (hl : l.length ≤ 10000000) (hw : ∀ f ∈ l, f.f1.size ≤ 9223372036854775807) : ∀ (d n k : Nat) (a : Int), n + d = l.length → 0 ≤ a → a ≤ 1048576 → d < k →
    ∃ r, laws_szFieldS.l0 k l a (n : Int) = some r ∧ (r < 0 ∨ (0 ≤ r ∧ r ≤ a ∧ ∀ f ∈ l.drop n, (f.f1.size : Int) ≤ a)) := by
  intro d
  induction d with
  | zero =>
    intro n k a hd h0 h1 hk
    obtain ⟨k, rfl⟩ : ∃ m, k = m + 1 := ⟨k - 1, by omega⟩
    have c1 : ¬ (n : Int) < (l.length : Int) := by omega
    simp only [laws_szFieldS.l0, if_neg c1]
    refine ⟨a, rfl, Or.inr ⟨h0, Int.le_refl _, ?_⟩⟩
    rw [List.drop_of_length_le (by omega)]
    intro f hf
    simp at hf
  | succ d ih =>
    intro n k a hd h0 h1 hk
    obtain ⟨k, rfl⟩ : ∃ m, k = m + 1 := ⟨k - 1, by omega⟩
    have c1 : (n : Int) < (l.length : Int) := by omega
    have c2 : 0 ≤ (n : Int) := by omega
    have hs := hw _ (rdL_mem l n (by omega))
    rw [dropL l n (by omega)]
    simp only [laws_szFieldS.l0, if_pos c1, if_pos c2]
    unfold laws_szField.f
    generalize rd_T51 l (n : Int) = f at hs
    have e : wrap64 (a - (f.f1.size : Int)) = a - (f.f1.size : Int) := w64id (by omega) (by omega)
    rw [e]
    by_cases h : a - (f.f1.size : Int) < 0
    · rw [if_pos h]
      exact ⟨-1, rfl, Or.inl (by omega)⟩
    · rw [if_neg h, Option.bind_some, if_neg h, w64s (by omega)]
      obtain ⟨r, hr, hq⟩ := ih (n + 1) k (a - (f.f1.size : Int)) (by omega) (by omega) (by omega) (by omega)
      refine ⟨r, hr, ?_⟩
      rcases hq with hq | ⟨q1, q2, q3⟩
      · exact Or.inl hq
      · refine Or.inr ⟨q1, by omega, fun g hg => ?_⟩
        rcases List.mem_cons.1 hg with rfl | hg
        · omega
        · have := q3 g hg
          omega
theorem szMsg_at (m : ByteArray) (l : List LF) (hm : m.size ≤ 9223372036854775807) (hl : l.length ≤ 9223372036854775807) (hw : ∀ f ∈ l, f.f1.size ≤ 9223372036854775807) (a : Int) (h0 : 0 ≤ a) (h1 : a ≤ 1048576) :
    ∃ r, (∀ k, l.length < k → laws_szMsg.f k m l a = some r) ∧ (r < 0 ∨ (0 ≤ r ∧ r ≤ a ∧ m.size ≤ 1048576 ∧ l.length ≤ 1048576 ∧ ∀ f ∈ l, f.f1.size ≤ 1048576)) := by
  have e : wrap64 (a - (m.size : Int)) = a - (m.size : Int) := w64id (by omega) (by omega)
  by_cases h : a - (m.size : Int) < 0
  · refine ⟨-1, fun k _ => ?_, Or.inl (by omega)⟩
    unfold laws_szMsg.f
    rw [e, if_pos h]
  have e2 : wrap64 (a - (m.size : Int) - (l.length : Int)) = a - (m.size : Int) - (l.length : Int) := w64id (by omega) (by omega)
  by_cases h2 : a - (m.size : Int) - (l.length : Int) < 0
  · refine ⟨-1, fun k _ => ?_, Or.inl (by omega)⟩
    unfold laws_szMsg.f laws_szFieldS.f
    rw [e, if_neg h, e2, if_pos h2, Option.bind_some, if_pos (by omega)]
  have hl2 : l.length ≤ 1048576 := by omega
  have hm2 : m.size ≤ 1048576 := by omega
  clear e e2
  obtain ⟨r, hr, hq⟩ := szFieldS_l l (by omega) hw l.length 0 (l.length + 1) (a - (m.size : Int) - (l.length : Int)) (by omega) (by omega) (by omega) (by omega)
  have e : wrap64 (a - (m.size : Int)) = a - (m.size : Int) := w64id (by omega) (by omega)
  have e2 : wrap64 (a - (m.size : Int) - (l.length : Int)) = a - (m.size : Int) - (l.length : Int) := w64id (by omega) (by omega)
  have hz : laws_szFieldS.f (l.length + 1) l (a - (m.size : Int)) = some r := by
    unfold laws_szFieldS.f
    rw [e2, if_neg h2]
    exact hr
  refine ⟨if r < 0 then -1 else r, fun k hk => ?_, ?_⟩
  · unfold laws_szMsg.f
    rw [e, if_neg h, later (g := fun k => laws_szFieldS.f k l (a - (m.size : Int))) (fun k => laws_szFieldS.mono l _ k) hz k (by omega), Option.bind_some]
    by_cases q : r < 0
    · rw [if_pos q, if_pos q]
    · rw [if_neg q, if_neg q]
  · clear e e2
    rcases hq with hq | ⟨q1, q2, q3⟩
    · rw [if_pos hq]; exact Or.inl (by omega)
    · rw [if_neg (by omega)]
      refine Or.inr ⟨q1, by omega, hm2, hl2, fun f hf => ?_⟩
      have := q3 f (by simpa using hf)
      omega
def conv (f : LF) : IF := ⟨f.f0, f.f1⟩
theorem toFieldS_l (l : List LF) (hl : l.length ≤ 10000000) : ∀ (d n k : Nat) (y : List IF), n + d = l.length → y.length = l.length → y.take n = (l.map conv).take n → d < k →
    laws_toFieldS.l0 k l y (n : Int) = some (l.map conv) := by
  intro d
  induction d with
  | zero =>
    intro n k y hd hy ht hk
    obtain ⟨k, rfl⟩ : ∃ m, k = m + 1 := ⟨k - 1, by omega⟩
    have c1 : ¬ (n : Int) < (l.length : Int) := by omega
    simp only [laws_toFieldS.l0, if_neg c1]
    rw [List.take_of_length_le (by omega), List.take_of_length_le (by simp; omega)] at ht
    rw [ht]
  | succ d ih =>
    intro n k y hd hy ht hk
    obtain ⟨k, rfl⟩ : ∃ m, k = m + 1 := ⟨k - 1, by omega⟩
    have c1 : (n : Int) < (l.length : Int) := by omega
    have c2 : 0 ≤ (n : Int) := by omega
    have c3 : (n : Int) < (y.length : Int) := by omega
    simp only [laws_toFieldS.l0, if_pos c1, if_pos c2, if_pos c3, w64s (n := n) (by omega), intNat, laws_toField.f, Option.bind_some]
    refine ih (n + 1) k _ (by omega) (by simpa using hy) ?_ (by omega)
    rw [List.take_succ_eq_append_getElem (by simpa [hy] using by omega), List.take_succ_eq_append_getElem (by simpa using by omega), rdL_nat l n (by omega)]
    simp [List.take_set_of_le, ht, conv]
theorem toMsg_at (m : ByteArray) (l : List LF) (hl : l.length ≤ 10000000) (k : Nat) (hk : l.length < k) : laws_toMsg.f k m l = some (m, l.map conv) := by
  unfold laws_toMsg.f laws_toFieldS.f
  have h : laws_toFieldS.l0 k l (List.replicate ((l.length : Int) : Int).toNat z45) 0 = some (l.map conv) := toFieldS_l l hl l.length 0 k _ (by omega) (by simp) (by simp) hk
  rw [if_pos (by omega), if_pos (by omega), h]
  rfl
theorem eqFieldS_l (l : List IF) (hl : l.length ≤ 10000000) : ∀ (d n k : Nat), n + d = l.length → d < k → laws_eqFieldS.l0 k l l (n : Int) = some true := by
  intro d
  induction d with
  | zero =>
    intro n k hd hk
    obtain ⟨k, rfl⟩ : ∃ m, k = m + 1 := ⟨k - 1, by omega⟩
    have c1 : ¬ (n : Int) < (l.length : Int) := by omega
    simp only [laws_eqFieldS.l0, if_neg c1]
  | succ d ih =>
    intro n k hd hk
    obtain ⟨k, rfl⟩ : ∃ m, k = m + 1 := ⟨k - 1, by omega⟩
    have c1 : (n : Int) < (l.length : Int) := by omega
    have c2 : 0 ≤ (n : Int) := by omega
    simp only [laws_eqFieldS.l0, if_pos c1, if_pos c2, w64s (n := n) (by omega), laws_eqField.f, if_true, Option.bind_some]
    exact ih (n + 1) k (by omega) (by omega)
theorem eqMsg_self (m : ByteArray) (l : List IF) (hl : l.length ≤ 10000000) (k : Nat) (hk : l.length < k) : laws_eqMsg.f k m l m l = some true := by
  unfold laws_eqMsg.f laws_eqFieldS.f
  have h : laws_eqFieldS.l0 k l l 0 = some true := eqFieldS_l l hl l.length 0 k (by omega) hk
  rw [if_pos rfl, if_pos rfl, h]
  rfl
theorem markText_l : ∀ (d k : Nat) (a : Int) (x : ByteArray), 0 ≤ a → a ≤ 1000000000 → a < 10 ^ d → x.size + d ≤ 1000 → d < k → ∃ t, laws_markText.l0 k a x = some t := by
  intro d
  induction d with
  | zero =>
    intro k a x h0 hg h1 hx hk
    obtain ⟨k, rfl⟩ : ∃ m, k = m + 1 := ⟨k - 1, by omega⟩
    have c1 : ¬ a > 0 := by simp at h1; omega
    have c2 : 1 + x.size ≤ 9223372036854775807 := by omega
    simp only [laws_markText.l0, if_neg c1, if_pos c2]
    exact ⟨_, rfl⟩
  | succ d ih =>
    intro k a x h0 hg h1 hx hk
    obtain ⟨k, rfl⟩ : ∃ m, k = m + 1 := ⟨k - 1, by omega⟩
    simp only [laws_markText.l0]
    by_cases c1 : a > 0
    · have hz : (strOfNums [wrap64 (48 + Int.tmod a 10) % 256]).size = 1 := by rw [strOfNums_size]; rfl
      rw [if_pos c1, Option.bind_some, if_pos (by omega)]
      have hq : 0 ≤ wrap64 (Int.tdiv a 10) ∧ wrap64 (Int.tdiv a 10) ≤ 1000000000 ∧ wrap64 (Int.tdiv a 10) < 10 ^ d := by
        rw [Int.tdiv_eq_ediv_of_nonneg h0]
        have hp : (10 : Int) ^ (d + 1) = 10 ^ d * 10 := Int.pow_succ 10 d
        rw [hp] at h1
        generalize (10 : Int) ^ d = p at h1
        rw [w64id (by omega) (by omega)]
        omega
      refine ih k _ _ hq.1 hq.2.1 hq.2.2 ?_ (by omega)
      rw [ByteArray.size_append, hz]
      omega
    · have c2 : 1 + x.size ≤ 9223372036854775807 := by omega
      rw [if_neg c1, if_pos c2]
      exact ⟨_, rfl⟩
def mtext (a : Int) : ByteArray := (laws_markText.f 30 a).getD ⟨#[]⟩
theorem markText_at (a : Int) (h1 : a ≤ 1000000000) (k : Nat) (hk : 30 ≤ k) : laws_markText.f k a = some (mtext a) := by
  have h : laws_markText.f 30 a = some (mtext a) := by
    unfold mtext
    by_cases h : a ≤ 0
    · unfold laws_markText.f
      rw [if_pos h]; rfl
    · obtain ⟨t, ht⟩ := markText_l 10 30 a ⟨#[]⟩ (by omega) (by omega) (by omega) (by decide) (by omega)
      have : laws_markText.f 30 a = some t := by
        unfold laws_markText.f
        rw [if_neg h]; exact ht
      rw [this]; rfl
  exact later (g := fun k => laws_markText.f k a) (fun k => laws_markText.mono a k) h k hk
def mfield (a : Int) : IF := ⟨a, mtext (a + 1)⟩
theorem markFieldS_l : ∀ (d n k : Nat) (y : List IF) (a : Int), n + d = y.length → y.length ≤ 10000000 → 0 ≤ a → a + 2 * d ≤ 900000000 → d + 30 ≤ k →
    ∃ y', laws_markFieldS.l0 k y a (n : Int) = some (a + 2 * d, y') ∧ y'.length = y.length ∧ (∀ j : Nat, j < n → rd_T45 y' (j : Int) = rd_T45 y (j : Int)) ∧ ∀ j : Nat, n ≤ j → j < y.length → rd_T45 y' (j : Int) = mfield (a + 2 * ((j : Int) - (n : Int))) := by
  intro d
  induction d with
  | zero =>
    intro n k y a hd hy ha hb hk
    obtain ⟨k, rfl⟩ : ∃ m, k = m + 1 := ⟨k - 1, by omega⟩
    have c1 : ¬ (n : Int) < (y.length : Int) := by omega
    simp only [laws_markFieldS.l0, if_neg c1]
    refine ⟨y, ?_, rfl, fun _ _ => rfl, fun j h1 h2 => by omega⟩
    simp
  | succ d ih =>
    intro n k y a hd hy ha hb hk
    obtain ⟨k, rfl⟩ : ∃ m, k = m + 1 := ⟨k - 1, by omega⟩
    have c1 : (n : Int) < (y.length : Int) := by omega
    have c2 : 0 ≤ (n : Int) := by omega
    have e1 : wrap64 (a + 1) = a + 1 := w64id (by omega) (by omega)
    have e2 : wrap64 (a + 1 + 1) = a + 2 := by rw [w64id (by omega) (by omega)]; omega
    simp only [laws_markFieldS.l0, if_pos c1, if_pos c2, intNat, Option.bind_some, e1, e2, w64s (n := n) (by omega), markText_at (a + 1) (by omega) k (by omega)]
    have hset : (y.set n ⟨a, (rd_T45 y (n : Int)).f1⟩).set n ⟨(rd_T45 (y.set n ⟨a, (rd_T45 y (n : Int)).f1⟩) (n : Int)).f0, mtext (a + 1)⟩ = y.set n (mfield a) := by
      rw [rdF_set_same _ _ _ (by omega), List.set_set]
      rfl
    rw [hset]
    obtain ⟨y', h1, h2, h3, h4⟩ := ih (n + 1) k (y.set n (mfield a)) (a + 2) (by simpa using (by omega : n + 1 + d = y.length)) (by simpa using hy) (by omega) (by omega) (by omega)
    refine ⟨y', ?_, by simpa using h2, fun j hj => ?_, fun j hj1 hj2 => ?_⟩
    · rw [h1, show a + 2 + 2 * (d : Int) = a + 2 * ((d + 1 : Nat) : Int) from by omega]
    · rw [h3 j (by omega), rdF_set_other _ _ _ _ (by omega)]
    · by_cases e : j = n
      · rw [e, h3 n (by omega), rdF_set_same _ _ _ (by omega)]
        have : a + 2 * ((n : Int) - (n : Int)) = a := by omega
        rw [this]
      · rw [h4 j (by omega) (by simpa using hj2)]
        have : a + 2 + 2 * ((j : Int) - ((n + 1 : Nat) : Int)) = a + 2 * ((j : Int) - (n : Int)) := by omega
        rw [this]
theorem heldFieldS_l : ∀ (d n k : Nat) (y : List IF) (a : Int), n + d = y.length → y.length ≤ 10000000 → 0 ≤ a → a + 2 * d ≤ 900000000 → d + 30 ≤ k → (∀ j : Nat, n ≤ j → j < y.length → rd_T45 y (j : Int) = mfield (a + 2 * ((j : Int) - (n : Int)))) →
    laws_heldFieldS.l0 k y a (n : Int) = some (a + 2 * d) := by
  intro d
  induction d with
  | zero =>
    intro n k y a hd hy ha hb hk hv
    obtain ⟨k, rfl⟩ : ∃ m, k = m + 1 := ⟨k - 1, by omega⟩
    have c1 : ¬ (n : Int) < (y.length : Int) := by omega
    simp only [laws_heldFieldS.l0, if_neg c1]
    simp
  | succ d ih =>
    intro n k y a hd hy ha hb hk hv
    obtain ⟨k, rfl⟩ : ∃ m, k = m + 1 := ⟨k - 1, by omega⟩
    have c1 : (n : Int) < (y.length : Int) := by omega
    have c2 : 0 ≤ (n : Int) := by omega
    have e1 : wrap64 (a + 1) = a + 1 := w64id (by omega) (by omega)
    have e2 : wrap64 (a + 1 + 1) = a + 2 := by rw [w64id (by omega) (by omega)]; omega
    have c3 : rd_T45 y (n : Int) = mfield a := by
      rw [hv n (by omega) (by omega)]
      have : a + 2 * ((n : Int) - (n : Int)) = a := by omega
      rw [this]
    simp only [laws_heldFieldS.l0, if_pos c1, if_pos c2, c3, mfield, if_true, e1, e2, w64s (n := n) (by omega), markText_at (a + 1) (by omega) k (by omega), Option.bind_some]
    rw [ih (n + 1) k y (a + 2) (by omega) hy (by omega) (by omega) (by omega) (fun j h1 h2 => ?_)]
    · rw [show a + 2 + 2 * (d : Int) = a + 2 * ((d + 1 : Nat) : Int) from by omega]
    · rw [hv j (by omega) h2]
      have : a + 2 + 2 * ((j : Int) - ((n + 1 : Nat) : Int)) = a + 2 * ((j : Int) - (n : Int)) := by omega
      rw [this]
theorem markMsg_held (m : ByteArray) (y : List IF) (hy : y.length ≤ 10000000) (a : Int) (ha : 0 ≤ a) (hb : a ≤ 1000000) :
    ∃ y', y'.length = y.length ∧ ∀ k, y.length + 30 ≤ k → laws_markMsg.f k m y a = some (a + 2 * y.length, y') ∧ laws_heldMsg.f k m y' a = some (a + 2 * y.length) := by
  obtain ⟨y', h1, h2, _, h4⟩ := markFieldS_l y.length 0 (y.length + 30) y a (by omega) (by omega) ha (by omega) (by omega)
  have hm : ∀ k, y.length + 30 ≤ k → laws_markFieldS.f k y a = some (a + 2 * y.length, y') := fun k hk => later (g := fun k => laws_markFieldS.f k y a) (fun k => laws_markFieldS.mono y a k) h1 k hk
  refine ⟨y', h2, fun k hk => ⟨?_, ?_⟩⟩
  · unfold laws_markMsg.f
    rw [hm k hk]; rfl
  · have h := heldFieldS_l y'.length 0 k y' a (by omega) (by omega) ha (by omega) (by omega) (fun j hj1 hj2 => h4 j hj1 (by omega))
    have hf : laws_heldFieldS.f k y' a = some (a + 2 * y.length) := by rw [h2] at h; exact h
    unfold laws_heldMsg.f
    rw [hf, Option.bind_some, if_neg (by omega)]
def allOk (y : List IF) : Bool := y.all (fun f => fieldOk f.f0 (bytesOf f.f1))
theorem fieldOf_same : ∀ (k : Nat) (x : Int) (l : List IF) (n i : Int), impl_FieldOf.l0 k x l n i = spec_FieldOf.l0 k x l n i := by
  intro k
  induction k with
  | zero => intros; rfl
  | succ k ih => intro x l n i; simp only [impl_FieldOf.l0, spec_FieldOf.l0, ih]
theorem spec_Reply_l (B : Nat) (m : ByteArray) (l : List IF) (code : Int) (hold told mt rs ff : ByteArray) (fo : Int → ByteArray × Bool) (ns : List Int) (hn : ns.length ≤ 1000)
    (hF : ∀ no k, B ≤ k → spec_FieldOf.f k m l no = some (fo no)) (hH : ∀ k, B ≤ k → spec_FieldFit.f k 38 hold = some ff) (hS : spec_RsText.f code = some rs)
    (hO : ∀ x s k, (s = ff ∨ s = rs ∨ s = told ∨ ∃ no, s = (fo no).1) → B ≤ k → spec_FieldOk.f k x s = some (fieldOk x (bytesOf s))) : ∀ (d n k : Nat) (good : Bool) (XS : List IF), n + d = ns.length → XS.length ≤ n → B + 2 * d < k →
    spec_Reply.l0 k code hold told good ns (ns.length : Int) (n : Int) m l mt XS = some (if (good && allOk (rlist fo code hold told rs ff (ns.drop n))) = true then (mt, XS ++ rlist fo code hold told rs ff (ns.drop n), true) else (⟨#[]⟩, [], false)) := by
  intro d
  induction d with
  | zero =>
    intro n k good XS hd hx hk
    obtain ⟨k, rfl⟩ : ∃ m, k = m + 1 := ⟨k - 1, by omega⟩
    rw [spec_Reply.l0, if_neg (by omega), List.drop_eq_nil_of_le (by omega)]
    cases good <;> simp [rlist, allOk]
  | succ d ih =>
    intro n k good XS hd hx hk
    obtain ⟨k, rfl⟩ : ∃ m, k = m + 2 := ⟨k - 2, by omega⟩
    have hlt : n < ns.length := by omega
    have ew : wrap64 ((n : Int) + 1) = ((n + 1 : Nat) : Int) := by unfold wrap64; omega
    rw [drop_rd ns n hlt]
    have add : ∀ (k : Nat) (no : Int) (s : ByteArray), B + 2 * d < k → (s = ff ∨ s = rs ∨ s = told ∨ ∃ no, s = (fo no).1) →
        (if good = true then ((spec_FieldOk.f k no s).bind fun t => (if XS.length < 5864062014805 then (spec_Reply.l0 k code hold told t ns (ns.length : Int) (wrap64 ((n : Int) + 1)) m l mt (XS ++ [(⟨no, s⟩ : IF)])) else none)) else (if XS.length < 5864062014805 then (spec_Reply.l0 k code hold told false ns (ns.length : Int) (wrap64 ((n : Int) + 1)) m l mt (XS ++ [(⟨no, s⟩ : IF)])) else none))
        = some (if (good && allOk ([(⟨no, s⟩ : IF)] ++ rlist fo code hold told rs ff (ns.drop (n + 1)))) = true then (mt, XS ++ ([(⟨no, s⟩ : IF)] ++ rlist fo code hold told rs ff (ns.drop (n + 1))), true) else (⟨#[]⟩, [], false)) := by
      intro k no s hk hs
      have hz : (XS ++ [(⟨no, s⟩ : IF)]).length ≤ n + 1 := by simp; omega
      cases good with
      | true =>
        rw [if_pos rfl, hO no s k hs (by omega), Option.bind_some, if_pos (by omega), ew, ih (n + 1) k _ _ (by omega) hz (by omega)]
        simp [allOk]
      | false =>
        rw [if_neg (by simp), if_pos (by omega), ew, ih (n + 1) k _ _ (by omega) hz (by omega)]
        simp
    have skip : ∀ (k : Nat), B + 2 * d < k → spec_Reply.l0 k code hold told good ns (ns.length : Int) (wrap64 ((n : Int) + 1)) m l mt XS = some (if (good && allOk ([] ++ rlist fo code hold told rs ff (ns.drop (n + 1)))) = true then (mt, XS ++ ([] ++ rlist fo code hold told rs ff (ns.drop (n + 1))), true) else (⟨#[]⟩, [], false)) := by
      intro k hk
      rw [ew, ih (n + 1) k _ _ (by omega) (by omega) (by omega)]
      rfl
    rw [rlist, spec_Reply.l0, if_pos (by omega), if_pos (by omega), if_pos (by omega), hF _ _ (by omega), Option.bind_some]
    generalize rd ns (n : Int) = no
    unfold rstep
    by_cases c1 : no = 38
    · rw [if_pos c1, if_pos c1]
      by_cases c2 : code = 0
      · rw [if_pos c2, spec_Reply.j2, hH _ (by omega), Option.bind_some]
        cases hh : (hold.toList != ([] : List UInt8)) with
        | true =>
          rw [if_pos rfl, if_pos (show code = 0 ∧ (true : Bool) = true from ⟨c2, rfl⟩), c1]
          exact add k 38 ff (by omega) (.inl rfl)
        | false =>
          rw [if_neg (show ¬ ((false : Bool) = true) from by simp), if_neg (show ¬ (code = 0 ∧ (false : Bool) = true) from by simp)]
          exact skip k (by omega)
      · rw [if_neg c2, spec_Reply.j2, hH _ (by omega), Option.bind_some, if_neg (show ¬ ((false : Bool) = true) from by simp), if_neg (show ¬ (code = 0 ∧ (hold.toList != ([] : List UInt8)) = true) from fun h => c2 h.1)]
        exact skip k (by omega)
    · rw [if_neg c1, if_neg c1]
      by_cases c2 : no = 39
      · rw [if_pos c2, if_pos c2, hS, Option.bind_some, c2]
        exact add (k + 1) 39 rs (by omega) (.inr (.inl rfl))
      · rw [if_neg c2, if_neg c2]
        by_cases c3 : no = 54
        · rw [if_pos c3, if_pos c3]
          by_cases c4 : told.toList = ([] : List UInt8)
          · rw [if_pos c4, if_neg (show ¬ ((told.toList != ([] : List UInt8)) = true) from by simp [c4])]
            exact skip (k + 1) (by omega)
          · rw [if_neg c4, if_pos (bne_iff_ne.mpr c4), c3]
            exact add (k + 1) 54 told (by omega) (.inr (.inr (.inl rfl)))
        · rw [if_neg c3, if_neg c3]
          cases hk2 : (fo no).2 with
          | true =>
            rw [if_pos rfl, if_pos rfl]
            exact add (k + 1) no (fo no).1 (by omega) (.inr (.inr (.inr ⟨no, rfl⟩)))
          | false =>
            rw [if_neg (show ¬ ((false : Bool) = true) from by simp), if_neg (show ¬ ((false : Bool) = true) from by simp)]
            exact skip (k + 1) (by omega)
theorem okFrom_rlist (fo : Int → ByteArray × Bool) (code : Int) (hold told rs ff : ByteArray) : ∀ (ns : List Int) (p : Option Int), ns.Pairwise (fun a b => a < b) → (∀ q, p = some q → ∀ c ∈ ns, q < c) →
    okFrom p (rlist fo code hold told rs ff ns) = allOk (rlist fo code hold told rs ff ns)
  | [], p, _, _ => rfl
  | a :: t, p, hs, hp => by
    obtain ⟨h1, h2⟩ := List.pairwise_cons.1 hs
    have step : ∀ (s : ByteArray), okFrom p ([(⟨a, s⟩ : IF)] ++ rlist fo code hold told rs ff t) = allOk ([(⟨a, s⟩ : IF)] ++ rlist fo code hold told rs ff t) := by
      intro s
      rw [List.singleton_append, okFrom_cons, okFrom_rlist fo code hold told rs ff t (some a) h2 (fun q hq c hc => by cases hq; exact h1 c hc)]
      cases p with
      | none => simp [allOk]
      | some q => simp [allOk, hp q rfl a List.mem_cons_self]
    have skip : okFrom p ([] ++ rlist fo code hold told rs ff t) = allOk ([] ++ rlist fo code hold told rs ff t) :=
      okFrom_rlist fo code hold told rs ff t p h2 (fun q hq c hc => hp q hq c (List.mem_cons_of_mem _ hc))
    rw [rlist]
    unfold rstep
    by_cases c1 : a = 38
    · rw [if_pos c1]
      split
      · rw [c1] at step; exact step ff
      · exact skip
    · rw [if_neg c1]
      by_cases c2 : a = 39
      · rw [if_pos c2]; rw [c2] at step; exact step rs
      · rw [if_neg c2]
        by_cases c3 : a = 54
        · rw [if_pos c3]
          split
          · rw [c3] at step; exact step told
          · exact skip
        · rw [if_neg c3]
          split
          · exact step _
          · exact skip
theorem mtOf_isMti (m : ByteArray) (h : ¬ (mtOf m).toList = ([] : List UInt8)) : isMti (mtOf m) = true := by
  have hne : ¬ replyL (bytesOf m) = [] := by
    intro z
    apply h
    unfold mtOf
    rw [z, ByteArray.toList_eq, strOfNums_data]
    rfl
  have hc : (digs (bytesOf m) && decide ((bytesOf m).length = 4) && decide (rd (bytesOf m) 2 % 2 = 0)) = true := by
    unfold replyL at hne
    by_cases q : (digs (bytesOf m) && decide ((bytesOf m).length = 4) && decide (rd (bytesOf m) 2 % 2 = 0)) = true
    · exact q
    · rw [if_neg q] at hne
      exact absurd rfl hne
  have hr : replyL (bytesOf m) = (bytesOf m).take 2 ++ [rd (bytesOf m) 2 + 1] ++ (bytesOf m).drop 3 := by unfold replyL; rw [if_pos hc]
  simp only [Bool.and_eq_true, decide_eq_true_eq] at hc
  obtain ⟨⟨h1, h2⟩, h3⟩ := hc
  have hall : (bytesOf m).all isDig = true := by
    unfold digs at h1
    simp only [Bool.and_eq_true] at h1
    exact h1.1
  have hd2 : 48 ≤ rd (bytesOf m) 2 ∧ rd (bytesOf m) 2 ≤ 57 := by
    have := List.all_eq_true.1 hall (rd (bytesOf m) ((2 : Nat) : Int)) (rd_mem _ 2 (by omega))
    unfold isDig at this
    simpa using this
  have hal2 : (replyL (bytesOf m)).all isDig = true := by
    rw [hr, List.all_eq_true]
    intro x hx
    rw [List.all_eq_true] at hall
    rcases List.mem_append.1 hx with hx | hx
    · rcases List.mem_append.1 hx with hx | hx
      · exact hall x (List.mem_of_mem_take hx)
      · rw [List.mem_singleton.1 hx]
        unfold isDig
        simp; omega
    · exact hall x (List.mem_of_mem_drop hx)
  have hlen : (replyL (bytesOf m)).length = 4 := by rw [hr]; simp; omega
  have hby : ∀ c ∈ replyL (bytesOf m), isByte c := by
    intro c hc
    have := List.all_eq_true.1 hal2 c hc
    unfold isDig at this
    unfold isByte
    simp at this
    omega
  unfold isMti mtOf
  rw [bytesOf_strOfNums _ hby, strOfNums_size, hlen]
  unfold digs
  rw [hal2]
  cases z : replyL (bytesOf m) with
  | nil => exact absurd z hne
  | cons a t => rfl
theorem nosR_sorted : nosR.Pairwise (fun a b => a < b) := by unfold nosR; decide
theorem spec_Reply_at (m : ByteArray) (l : List IF) (code : Int) (hold told : ByteArray) (hm : m.size ≤ 10000000) (hl : l.length ≤ 10000000) (hw : ∀ f ∈ l, f.f1.size ≤ 10000000) (hh : hold.size ≤ 1050000) (ht : told.size ≤ 10000000) (k : Nat) (hk : 100000000 ≤ k) :
    spec_Reply.f k m l code hold told = some (reply m l code hold told) := by
  obtain ⟨K, hK, hK2⟩ : ∃ K : Nat, k = K + 1 ∧ 90000000 ≤ K := ⟨k - 1, by omega, by omega⟩
  subst hK
  obtain ⟨hS, _, hS10⟩ := rsT_at code
  have e1 : spec_ReplyMti.f (K + 1) m = some (mtOf m) := spec_ReplyMti_at m hm (K + 1) (by omega)
  have e2 := spec_MsgOk_at m l hm hl 10000000 (Nat.le_refl _) hw (K + 1) (by omega)
  have hfit := fieldFit_size 38 hold
  have hgo : spec_Reply.l0 K code hold told true nosR (nosR.length : Int) ((0 : Nat) : Int) m l (mtOf m) [] = some (if (true && allOk (rlist (foOf l) code hold told (rsT code) (fieldFit 38 hold) (nosR.drop 0))) = true then (mtOf m, [] ++ rlist (foOf l) code hold told (rsT code) (fieldFit 38 hold) (nosR.drop 0), true) else (⟨#[]⟩, [], false)) :=
    spec_Reply_l 80000000 m l code hold told (mtOf m) (rsT code) (fieldFit 38 hold) (foOf l) nosR (by decide)
      (fun no k hk => by
        have h := impl_FieldOf_at m no l hl k (by omega)
        unfold impl_FieldOf.f at h
        unfold spec_FieldOf.f
        rw [← fieldOf_same, h]
        rfl)
      (fun k hk => spec_FieldFit_at 38 hold (by omega) k (by omega)) hS
      (fun x s k hs hk => by
        have hz : s.size ≤ 10000000 := by
          rcases hs with rfl | rfl | rfl | ⟨no, rfl⟩
          · omega
          · omega
          · omega
          · exact foOf_size l _ hw no
        exact spec_FieldOk_at x s (by omega) k (by omega))
      13 0 K true [] rfl (Nat.le_refl _) (by omega)
  unfold spec_Reply.f reply
  rw [e1, Option.bind_some, e2, Option.bind_some]
  by_cases q1 : msgOk m l = true
  · rw [if_pos q1]
    by_cases q2 : (mtOf m).toList = ([] : List UInt8)
    · rw [if_pos q2, if_neg (fun z => z.2.1 q2), spec_Reply.j0, if_pos rfl]
    · rw [if_neg q2, hS, Option.bind_some, spec_Reply.j0]
      by_cases q3 : (rsT code).toList = ([] : List UInt8)
      · rw [if_pos (beq_iff_eq.mpr q3), if_neg (fun z => z.2.2.1 q3)]
      · rw [if_neg (fun z => q3 (beq_iff_eq.mp z))]
        have hok : msgOk (mtOf m) (rout l code hold told) = allOk (rout l code hold told) := by
          unfold msgOk
          rw [mtOf_isMti m q2, Bool.true_and]
          exact okFrom_rlist _ _ _ _ _ _ nosR none nosR_sorted (fun q hq => by cases hq)
        have h2 : ((some ([2, 3, 4, 7, 11, 37, 38, 39, 41, 49, 54, 102, 103] : List Int)).bind fun y146 => (spec_Reply.l0 K code hold told true y146 (y146.length : Int) 0 m l (mtOf m) ([] : List IF))) = spec_Reply.l0 K code hold told true nosR (nosR.length : Int) ((0 : Nat) : Int) m l (mtOf m) [] := rfl
        refine h2.trans (hgo.trans ?_)
        congr 1
        have h3 : rlist (foOf l) code hold told (rsT code) (fieldFit 38 hold) (nosR.drop 0) = rout l code hold told := rfl
        rw [h3, ← hok, Bool.true_and, List.nil_append]
        by_cases q4 : msgOk (mtOf m) (rout l code hold told) = true
        · rw [if_pos q4, if_pos ⟨q1, q2, q3, q4⟩]
        · rw [if_neg q4, if_neg (fun z => q4 z.2.2.2)]
  · rw [if_neg q1, if_neg (fun z => q1 z.1), spec_Reply.j0, if_pos rfl]
theorem FnExactReply : ∀ (m : ByteArray) (l : List LF) (a1 : Int) (a2 a3 : ByteArray), m.size ≤ 9223372036854775807 → l.length ≤ 9223372036854775807 → (∀ f ∈ l, f.f1.size ≤ 9223372036854775807 ∧ (Lit.int .i64 f.f0).wf = true) → (Lit.int .i64 a1).wf = true → a2.size ≤ 140737488351232 → a3.size ≤ 140737488351232 → ∃ k, laws_FnExactReply.f k m l a1 a2 a3 = some true := by
  intro m l a1 a2 a3 hm hl hf _ _ _
  obtain ⟨r, s1, hr⟩ := szMsg_at m l hm hl (fun f h => (hf f h).1) 1048576 (by omega) (by omega)
  obtain ⟨K, hK⟩ : ∃ K : Nat, l.length + 100000000 ≤ K := ⟨_, Nat.le_refl _⟩
  refine ⟨K + 4, ?_⟩
  unfold laws_FnExactReply.f
  by_cases hs2 : (a2.size : Int) > 1048576
  · rw [if_pos hs2]
  by_cases hs3 : (a3.size : Int) > 1048576
  · rw [if_neg hs2, if_pos hs3]
  rw [if_neg hs2, if_neg hs3, s1 (K + 4) (by omega), Option.bind_some]
  rcases hr with hr | ⟨q0, _, q1, q2, q3⟩
  · rw [if_pos hr]
  have q : ¬ r < 0 := by omega
  rw [if_neg q]
  have g0 := toMsg_at m l (by omega)
  have hz : (l.map conv).length = l.length := by simp
  have hw : ∀ f ∈ l.map conv, f.f1.size ≤ 10000000 := by
    intro f hf
    obtain ⟨g, hg, rfl⟩ := List.mem_map.1 hf
    exact Nat.le_trans (q3 g hg) (by omega)
  have g1 := spec_Reply_at m (l.map conv) a1 a2 a3 (by omega) (by omega) hw (by omega) (by omega)
  have g2 : impl_Reply.f m (l.map conv) a1 a2 a3 = some (reply m (l.map conv) a1 a2 a3) := by
    unfold impl_Reply.f
    rw [if_pos ⟨by omega, by omega, hw, by omega, by omega⟩]
  have hz2 : (reply m (l.map conv) a1 a2 a3).2.1.length ≤ 13 := by
    unfold reply
    split
    · exact rout_len _ _ _ _
    · exact Nat.zero_le _
  generalize reply m (l.map conv) a1 a2 a3 = v at g1 g2 hz2
  obtain ⟨vm, vl, vb⟩ := v
  simp only at hz2
  have g3 := eqMsg_self vm vl (by omega)
  have g4 := eqMsg_self m (l.map conv) (by omega)
  obtain ⟨y, hy, m2⟩ := markMsg_held m (l.map conv) (by omega) 1 (by omega) (by omega)
  obtain ⟨z, hz3, n2⟩ := markMsg_held vm vl (by omega) 1 (by omega) (by omega)
  have p1 : ¬ (1 + 2 * ((l.map conv).length : Int)) < 0 := by omega
  have p2 : ¬ (1 + 2 * (vl.length : Int)) < 0 := by omega
  have a1_ := g0 (K + 4) (by omega)
  have a2_ := g1 (K + 4) (by omega)
  have a4_ := g3 (K + 4) (by omega)
  have b1_ := g0 (K + 3) (by omega)
  have b2_ := g4 (K + 3) (by omega)
  have b3_ := (m2 (K + 3) (by omega)).1
  have b4_ := g3 (K + 3) (by omega)
  have c1_ := (n2 (K + 2) (by omega)).1
  have c2_ := (n2 (K + 2) (by omega)).2
  have c3_ := g0 (K + 2) (by omega)
  have c5_ := g3 (K + 2) (by omega)
  have d1_ := (n2 (K + 1) (by omega)).2
  clear g0 g1 g3 g4 m2 n2 hz2 hy hz3 hK hw hz q1 q2 q3 s1 hf hm hl
  rw [a1_, Option.bind_some]
  simp only
  rw [a2_, Option.bind_some, Option.bind_some]
  simp only
  rw [g2, Option.bind_some]
  simp only
  rw [a4_, Option.bind_some, if_pos rfl, bne_self_eq_false, laws_FnExactReply.j0, if_neg (by simp), b1_, Option.bind_some]
  simp only
  rw [b2_, Option.bind_some, if_pos rfl, b3_, Option.bind_some]
  simp only
  rw [if_neg p1, b4_, Option.bind_some, if_pos rfl, bne_self_eq_false]
  rw [laws_FnExactReply.j1, if_neg (by simp), c1_, Option.bind_some]
  simp only
  rw [c2_, Option.bind_some, if_neg p2, if_pos rfl, c3_, Option.bind_some]
  simp only
  rw [g2, Option.bind_some]
  simp only
  rw [c5_, Option.bind_some, if_pos rfl, bne_self_eq_false, laws_FnExactReply.j2, if_neg (by simp), d1_, Option.bind_some, if_neg p2, if_pos rfl]
end Go.Proofs.Ytnnnglbjipiclaa.Q
end
section
/- What an argument that is a slice of fields, or of ints, inside a struct reads as: for the rows; no condition. -/
namespace Go.Proofs.Ytnnnglbjipiclaa.Q
open Go.RowKit Go.Proofs.YtnnnglbjipiclaaW.PrintWords Go.Proofs.YtnnnglbjipiclaaW.PrintLast Go.Proofs.YtnnnglbjipiclaaW.PrintMore Go.ChangeShapes Go.WideShapes Go.ChangeAt Go.Deep
set_option linter.unusedVariables false
set_option linter.unusedSimpArgs false
theorem addr_add (a : Addr) (i j : Nat) : (a.add i).add j = a.add (i + j) := by
  unfold Addr.add
  by_cases h1 : i = 0 <;> by_cases h2 : j = 0 <;> simp [h1, h2, Nat.add_assoc]
theorem maxLen_eq : maxLen = 9223372036854775807 := rfl
theorem cellsField : Try.prog.cellsOf 51 = 2 := by kernel_rfl
theorem cellsInt : Try.prog.cellsOf 3 = 1 := by kernel_rfl
theorem cellsStr : Try.prog.cellsOf 9 = 1 := by kernel_rfl
set_option maxRecDepth 100000 in
theorem field_cells {H : Type} {enc : TypeId × Value → H} {W : World} {n : Nat} {cs : List Value} {y : DataW H × List MemPlace} (h : DataW.trod enc Try.prog W 0 (fun _ => true) true n 51 cs = some y) :
    ∃ f : S51, cs = [.int .i64 f.f0, .string f.f1] ∧ f.f1.size ≤ 9223372036854775807 ∧ (Lit.int .i64 f.f0).wf = true := by
  obtain ⟨y0, y1, m, hx, hl, h0, h1⟩ := trod_struct2 Try.underlying51 h
  rw [cellsField] at hl
  match cs, hl with
  | [u0, u1], _ =>
    simp only [cellsInt, cellsStr, List.drop_zero, List.take_succ_cons, List.take_zero, List.drop_succ_cons] at h0 h1
    obtain ⟨a, e0, _, wa⟩ := DataW.trod_int Try.underlying3 h0
    obtain ⟨s, e1, _, ws⟩ := DataW.trod_string Try.underlying9 h1
    simp at e0 e1
    subst e0 e1
    exact ⟨⟨a, s⟩, rfl, ws, wa⟩
instance : Inhabited S51 := ⟨z51⟩
set_option maxRecDepth 100000 in
theorem fields_open {H : Type} {enc : TypeId × Value → H} {W : World} {fuel : Nat} {v : Value} {x : DataW H × List MemPlace} (h : DataW.trod enc Try.prog W 0 (fun _ => true) true fuel 22 [v] = some x) :
    ∃ (A : Option Addr) (c : Nat) (l : List S51), v = .slice A l.length c ∧ l.length ≤ c ∧ l.length ≤ 9223372036854775807 ∧ Kd.C k51 W A l.length l ∧ ∀ f ∈ l, f.f1.size ≤ 9223372036854775807 ∧ (Lit.int .i64 f.f0).wf = true := by
  rcases open_slice Try.underlying22 h with ⟨hcs, _⟩ | ⟨a, len, cap, m, n, D, Pl, hcs, _, hlc, hcap, hm, _, hel⟩
  · simp at hcs
    subst hcs
    exact ⟨none, 0, [], rfl, Nat.le_refl _, by simp, Kd.C_nil _ _, fun f hf => by cases hf⟩
  · simp at hcs
    subst hcs
    have hlm : len ≤ m := by rw [hm]; simpa using hlc
    rw [cellsField] at hel
    obtain ⟨F, hF⟩ := choose_lt (α := S51) (n := len) (p := fun i f => f.f1.size ≤ 9223372036854775807 ∧ (Lit.int .i64 f.f0).wf = true ∧ ∀ (j : Nat) (u : Value), ([.int .i64 f.f0, .string f.f1] : List Value)[j]? = some u → W.cell? (a.add (i * 2 + j)) = some u) (fun i hi => by
      obtain ⟨cs', h1, h2⟩ := hel i (by omega)
      obtain ⟨f, rfl, hs, hw⟩ := field_cells h2
      obtain ⟨_, _, hc⟩ := World.cells?_some h1
      refine ⟨f, hs, hw, fun j u hj => ?_⟩
      have hj2 : j < 2 := by
        have := (List.getElem?_eq_some_iff.1 hj).1
        simpa using this
      rw [← addr_add, hc j hj2]
      exact hj)
    have hlen : ((List.range len).map F).length = len := by simp
    rw [maxLen_eq] at hcap
    refine ⟨some a, cap, (List.range len).map F, by rw [hlen], by rw [hlen]; exact hlc, by rw [hlen]; omega, ?_, ?_⟩
    · rw [hlen]
      refine ⟨hlen, by omega, fun _ => ⟨a, rfl, fun j p hj => ?_⟩⟩
      have hjl : j < len := by
        have := (List.getElem?_eq_some_iff.1 hj).1
        rwa [hlen] at this
      have hp : p = F j := by
        simp [hjl] at hj
        exact hj.symm
      subst hp
      exact ⟨[.int .i64 (F j).f0, .string (F j).f1], rfl, k51_mk W (F j), (hF j hjl).2.2⟩
    · intro f hf
      obtain ⟨j, hj, rfl⟩ := List.mem_map.1 hf
      have hjl : j < len := List.mem_range.1 hj
      exact ⟨(hF j hjl).1, (hF j hjl).2.1⟩
end Go.Proofs.Ytnnnglbjipiclaa.Q
end
