/- WorldMeet answers as the reference, writes into no argument and keeps nothing of one. -/
import Derived.Test.YtoledfhjmdpihaaGreatRows
import Derived.WalkKit
import Derived.ProofKit
import Derived.OpenShut
import Derived.ShutString
import Derived.ChangeOld
import Derived.Below
import Derived.Test.YtoledfhjmdpihaaGreatA28
import Derived.Test.YtoledfhjmdpihaaGreatA14
set_option linter.unusedVariables false
set_option linter.unusedSectionVars false
set_option linter.unusedSimpArgs false
namespace Go.Proofs.YtoledfhjmdpihaaGreat
open Go Go.Proofs Go.Proofs.YtoledfhjmdpihaaGreat.VE
attribute [local irreducible] Val Op1 WO WR WA WC seqQ blockQ loopQ retQ
noncomputable def o5x10K62 : Array Oper := cops (cl (cl (cr (cr (cr (cr (cr (cr (cr (cr (codeOf Tryz.f5)))))))))))
noncomputable def r5x10K62 : Run := (.st 0 1 (.st 1 1 (.st 2 2 (.st 3 3 (.st 4 0 .done)))))
set_option maxHeartbeats 8000000
theorem c_FnExactWorldMeet1 {L : List Ent} (w : World) (q : WSl) (ps : List (Client × CSl)) (ss : List (Serv × (Sl × Sl))) (ms : List (Msg × Sl)) (h : WldIn L w q ps ss ms) (a b : Int) : RO Tryz.prog 5 [worldV w q, I a, I b] L (B true) := by
  obtain ⟨r, hr, hrc⟩ := c_szWorld w q ps ss ms h
  by_cases hr0 : r < 0
  · refine Tri.of Tryz.func5 rfl rfl Tryz.ntmps5 rfl rfl ?_
    (repeat' (first | refine nI ?_ | (refine nA ?_; intro _) | (refine nW ?_; first | (refine op_call_id ?_; refine op_ro rfl rfl (by exact hr (by exact kS)) ?_)) | refine nY ?_ | refine WA_alt ?_ ?_ | refine nR ?_ | refine WC_drawL (id := 10) (ops := o5x10K62) r5x10K62 (by kernel_rfl) rfl ?_ | refine WC_cond rfl (fun hc => ?_) (fun hc => ?_)))
    refine ro_ret (by exact kR) (by exact kL) ?_; rfl
  rcases hrc with hrc | ⟨hrb, hat, hl⟩
  · exact absurd hrc hr0
  obtain ⟨x, hx⟩ : ∃ x, meetF w a b = x := ⟨_, rfl⟩
  have dI : ∀ {M : List Ent} (q : WSl) (hat : WAt M w q), Tri Tryz.prog 24 [worldV w q, I a, I b] M (WNew M x) := fun q hat => hx ▸ c_meetI w q hat hl a b
  have dS : ∀ {M : List Ent} (q : WSl) (hat : WAt M w q), Tri Tryz.prog 23 [worldV w q, I a, I b] M (WNew M x) := fun q hat => hx ▸ c_meetS w q hat hl a b
  clear hx
  refine Tri.of Tryz.func5 rfl rfl Tryz.ntmps5 rfl rfl ?_
  (repeat' (first | refine nI ?_ | (refine nA ?_; intro _) | (refine nW ?_; first | (refine op_call_id ?_; refine op_ro rfl rfl (by exact hr (by exact kS)) ?_) | (refine op_call_id ?_; refine op_call rfl (c_toWorld w q (hat.mono (by exact kS)) hl) rfl ?_; rintro _ _ ⟨qa, EA, rfl, hA, rfl⟩) | (refine op_call_id ?_; refine op_call rfl (dS qa (hA.at.mono (by exact kS))) rfl ?_; rintro _ _ ⟨q0, E0, rfl, h0, rfl⟩)) | refine nY ?_ | refine WA_alt ?_ ?_ | refine WC_regionN [6] rfl ?_ | refine WC_block ?_ | refine WC_drawL (id := 10) (ops := o5x10K62) r5x10K62 (by kernel_rfl) rfl ?_ | refine WC_cond rfl (fun hc => ?_) (fun hc => ?_)))
  rename_i b3 b8
  (repeat' (first | refine nI ?_ | (refine nA ?_; intro _) | (refine nW ?_; first | (refine op_call_id ?_; refine op_call rfl (c_toWorld w q (hat.mono (by exact kS)) hl) rfl ?_; rintro _ _ ⟨q1, E1, rfl, h1, rfl⟩) | (refine op_call_id ?_; refine op_call rfl (dI q1 (h1.at.mono (by exact kS))) rfl ?_; rintro _ _ ⟨q3, E3, rfl, h3, rfl⟩)) | refine nY ?_ | refine WA_alt ?_ ?_ | refine WC_regionN [8] rfl ?_ | refine WC_block ?_ | refine WC_drawL (id := 10) (ops := o5x10K62) r5x10K62 (by kernel_rfl) rfl ?_ | refine WC_cond rfl (fun hc => ?_) (fun hc => ?_)))
  rename_i b9 b10
  (repeat' (first | refine nI ?_ | (refine nA ?_; intro _) | (refine nW ?_; first | (refine op_call_id ?_; refine op_ro rfl rfl (by exact c_eqWorldW x q3 q0 (h3.at.mono (by exact kS)) (h0.at.mono (by exact kS))) ?_)) | refine nY ?_ | refine WA_alt ?_ ?_ | refine nR ?_ | refine WC_cond rfl (fun hc => ?_) (fun hc => ?_)))
  refine WC_cut (X := Unit) (fun _ => [(1, I a), (2, I b), (3, .pointer (some ⟨b3, 0, none⟩)), (8, .pointer (some ⟨b8, 0, none⟩)), (9, .pointer (some ⟨b9, 0, none⟩)), (10, .pointer (some ⟨b10, 0, none⟩)), (39, B false)]) (fun _ => (b10, cellsO (worldC x q3) 43) :: (E3 ++ ((b9, cellsO (worldC w q1) 43) :: (E1 ++ ((b8, cellsO (worldC x q0) 43) :: (E0 ++ ((b3, cellsO (worldC w q) 29) :: L))))))) ?_ ?_
  · (repeat' (first | refine nI ?_ | (refine nA ?_; intro _) | (refine nW ?_; first | (refine op_call_id ?_; refine op_ro rfl rfl (by exact c_eqWorldW w q1 q4 (h1.at.mono (by exact kS)) (h4.at.mono (by exact kS))) ?_) | (refine op_call_id ?_; refine op_call rfl (c_toWorld w q (hat.mono (by exact kS)) hl) rfl ?_; rintro _ _ ⟨q4, E4, rfl, h4, rfl⟩)) | refine nY ?_ | refine WA_alt ?_ ?_ | refine nR ?_ | refine WC_draw (id := 10) (ops := o5x10K62) ([(b9, cellsO (worldC w q1) 43), (b3, cellsO (worldC w q) 29)]) r5x10K62 (by kernel_rfl) rfl ?_ | refine WC_cond rfl (fun hc => ?_) (fun hc => ?_)))
    all_goals exact ⟨rfl, (), by exact kQ, by exact kL⟩
  rintro _
  (repeat' (first | refine nI ?_ | (refine nA ?_; intro _) | (refine nW ?_; first | (refine op_call_id ?_; refine op_ro rfl rfl (by exact c_eqWorldW x q3 q0 (h3.at.mono (by exact kS)) (h0.at.mono (by exact kS))) ?_) | (refine op_call_id ?_; refine op_call rfl (c_markWorld w q1 E1 (by exact kE) h1 1 (by omega)) rfl ?_; rintro _ _ ⟨w1, F1, k1, rfl, g1, hv1, hh1, hb1, rfl⟩)) | refine nY ?_ | refine WA_alt ?_ ?_ | refine WC_regionN [17] rfl ?_ | refine WC_block ?_ | refine WC_drawL (id := 10) (ops := o5x10K62) r5x10K62 (by kernel_rfl) rfl ?_ | refine WC_cond rfl (fun hc => ?_) (fun hc => ?_)))
  (repeat' (first | refine nI ?_ | (refine nA ?_; intro _) | (refine nW ?_; first | (refine op_call_id ?_; refine op_call rfl (c_markWorld x q3 E3 (by exact kE) h3 1 (by omega)) rfl ?_; rintro _ _ ⟨x3, F3, m1, rfl, g3, hv3, hh3, hb3, rfl⟩)) | refine nY ?_ | refine WA_alt ?_ ?_ | refine WC_regionN [19] rfl ?_ | refine WC_block ?_ | refine WC_drawL (id := 10) (ops := o5x10K62) r5x10K62 (by kernel_rfl) rfl ?_ | refine WC_cond rfl (fun hc => ?_) (fun hc => ?_)))
  have hb9 : 1 ≤ m1 ∧ m1 ≤ 1000000000000000 := hb3
  (repeat' (first | refine nI ?_ | (refine nA ?_; intro _) | (refine nW ?_; first | (refine op_call_id ?_; refine op_ro rfl rfl (by exact c_heldWorldV x x3 q3 m1 hv3 (g3.at.mono (by exact kS)) hh3 hb9) ?_)) | refine nY ?_ | refine WA_alt ?_ ?_ | refine WC_regionN [24] rfl ?_ | refine WC_block ?_ | refine WC_drawL (id := 10) (ops := o5x10K62) r5x10K62 (by kernel_rfl) rfl ?_ | refine WC_cond rfl (fun hc => ?_) (fun hc => ?_)))
  (repeat' (first | refine nI ?_ | (refine nA ?_; intro _) | (refine nW ?_; first | (refine op_call_id ?_; refine op_call rfl (c_toWorld w q (hat.mono (by exact kS)) hl) rfl ?_; rintro _ _ ⟨qb, EB, rfl, hB, rfl⟩) | (refine op_call_id ?_; refine op_call rfl (dI qb (hB.at.mono (by exact kS))) rfl ?_; rintro _ _ ⟨q6, E6, rfl, h6, rfl⟩)) | refine nY ?_ | refine WA_alt ?_ ?_ | refine WC_regionN [25] rfl ?_ | refine WC_block ?_ | refine WC_drawL (id := 10) (ops := o5x10K62) r5x10K62 (by kernel_rfl) rfl ?_ | refine WC_cond rfl (fun hc => ?_) (fun hc => ?_)))
  (repeat' (first | refine nI ?_ | (refine nA ?_; intro _) | (refine nW ?_; first | (refine op_call_id ?_; refine op_ro rfl rfl (by first | exact c_eqWorldW x q6 q0 (h6.at.mono (by exact kS)) (h0.at.mono (by exact kS)) | exact c_heldWorldV x x3 q3 m1 hv3 (g3.at.mono (by exact kS)) hh3 hb9) ?_)) | refine nY ?_ | refine WA_alt ?_ ?_ | refine nR ?_ | refine WC_drawL (id := 10) (ops := o5x10K62) r5x10K62 (by kernel_rfl) rfl ?_ | refine WC_cond rfl (fun hc => ?_) (fun hc => ?_)))
  refine ro_ret (by exact kR) (by exact kL) ?_; rfl
end Go.Proofs.YtoledfhjmdpihaaGreat
/- The law FnExactWorldMeet: for all that comes in the call returns true, and what came in reads as before. No condition. -/
set_option linter.unusedVariables false
set_option linter.unusedSimpArgs false
namespace Go.Proofs.YtoledfhjmdpihaaGreat.fnExactWorldMeet
open Go Go.Proofs Go.Proofs.YtoledfhjmdpihaaGreat Go.Proofs.YtoledfhjmdpihaaGreat.VE
open Go.ChangeShapes Go.WideShapes Go.ChangeAt Go.RowKit
theorem own : ownKnob Tryz.prog.godebug = none := by kernel_rfl
theorem laidOut : laidOutB Tryz.prog = true := by kernel_rfl
set_option maxRecDepth 100000 in
theorem lifted (os : Os) (started : os.Started) (H : Type) (enc : TypeId × Value → H) :
    ReturnsInHanded {} Tryz.checked os 5 .any (Rows.fnExactWorldMeetSpec.pre6 enc Tryz.prog Tryz.f5 Rows.fnExactWorldMeetRow.domain false) (Rows.fnExactWorldMeetSpec.post enc Tryz.prog Tryz.f5 false true false false) := by
  refine returnsInHanded_of_change (C := Tryz.checked) own started (by kernel_rfl) Tryz.func5
    (ChangeSpec.witness6 (enc := enc) (C := Tryz.checked) false ⟨#[], #[.agg #[.int .i64 0, .int .i64 0, .slice none 0 0, .slice none 0 0, .slice none 0 0, .slice none 0 0, .int .i64 0], .int .i64 0, .int .i64 0], []⟩ 8 (by kernel_rfl) (by kernel_rfl) (by kernel_rfl) (by kernel_rfl)) ?_
  intro W base args ds gs before hval0 hW hcnd _
  have hval : ∀ (j : Nat) t v, Tryz.f5.params[j]? = some t → args[j]? = some v → Value.okWide Tryz.prog W .any base t v := hval0
  have hW' := hW
  obtain ⟨p, q, hA0, hV, rfl, hfz, hnd⟩ := hW
  have hA : DataW.TrodAll enc Tryz.prog W 0 (fun _ => true) true Tryz.f5.params.toList args.toList ds p := hA0
  rw [Tryz.params5] at hA hval
  obtain ⟨v0, vs0, d0, ds0, p0, q0, hargs, rfl, rfl, h0, r0⟩ := trodAll_cons hA
  obtain ⟨v1, vs1, d1, ds1, p1, q1, rfl, rfl, rfl, h1, r1⟩ := trodAll_cons r0
  obtain ⟨v2, vs2, d2, ds2, p2, q2, rfl, rfl, rfl, h2, r2⟩ := trodAll_cons r1
  obtain ⟨rfl, rfl, rfl⟩ := trodAll_nil r2
  obtain rfl : args = #[v0, v1, v2] := by cases args; simp_all
  obtain ⟨rfl, rfl⟩ := trodVars_none hV
  obtain ⟨cs0, rfl, _⟩ := okWide_struct Tryz.underlying29 (hval 0 29 v0 rfl rfl)
  have k0 := h0
  have lt0 : ∀ x ∈ p0, x.block < W.heap.size := by obtain ⟨m, hm⟩ := k0; exact DataW.trod_lt m _ _ _ hm
  obtain ⟨fuel0, hf0⟩ := h0
  obtain ⟨⟨y0, u0, ps0, ss0, ms0⟩, he0, hs0⟩ := sh_world (enc := enc) (w := W) fuel0 cs0.toList _ hf0
  obtain rfl : cs0 = (worldC y0 u0).toArray := by rw [← Array.toArray_toList (xs := cs0), he0]
  obtain ⟨a1, rfl, rfl, rfl, w1⟩ := open_int Tryz.underlying3 (hval 1 3 v1 rfl rfl) h1
  obtain ⟨a2, rfl, rfl, rfl, w2⟩ := open_int Tryz.underlying3 (hval 2 3 v2 rfl rfl) h2
  clear hA0 hval0
  refine (walk_of (c_FnExactWorldMeet1 y0 u0 ps0 ss0 ms0 hs0 a1 a2)).mono fun e W' ⟨he, bel⟩ => ?_
  subst he
  exact ⟨_, rfl, _, _, _, [], _, [], hW', trodAll_mk1 (shut_bool Tryz.underlying4 _), (trodAll_cons_mk (Below.trod laidOut (by kernel_rfl) (of_decide_eq_true (by kernel_rfl)) k0 bel lt0) (trodAll_cons_mk (shut_int Tryz.underlying3 w1) (trodAll_cons_mk (shut_int Tryz.underlying3 w2) trodAll_mk0))), rfl, bel.frame _, fun h => by cases h⟩
theorem closed : joinedFacts Tryz.prog 5 Tryz.f5 Rows.fnExactWorldMeetSpec Rows.fnExactWorldMeetRow = true := by
  unfold joinedFacts
  iterate 31 (refine and_t ?_ ?_)
  · kernel_rfl
  · kernel_rfl
  · kernel_rfl
  · kernel_rfl
  · kernel_rfl
  · kernel_rfl
  · kernel_rfl
  · kernel_rfl
  · kernel_rfl
  · kernel_rfl
  · kernel_rfl
  · kernel_rfl
  · kernel_rfl
  · kernel_rfl
  · kernel_rfl
  · kernel_rfl
  · kernel_rfl
  · kernel_rfl
  · kernel_rfl
  · kernel_rfl
  · kernel_rfl
  · kernel_rfl
  · kernel_rfl
  · kernel_rfl
  · kernel_rfl
  · exact may_enter
  · rw [lifts_final]; kernel_rfl
  · rw [make_is]; kernel_rfl
  · kernel_rfl
  · kernel_rfl
  · kernel_rfl
  · kernel_rfl
theorem over : Rows.fnExactWorldMeetRow.holds Tryz.pinned (OpenSpec.ofChange Rows.fnExactWorldMeetSpec) :=
  OpenClaim.holds_of_wide 5 Tryz.f5 rfl rfl rfl rfl rfl rfl rfl ⟨rfl, rfl, rfl, rfl, rfl⟩ rfl rfl rfl rfl rfl (by kernel_rfl) Tryz.func5 closed
    (of_decide_eq_true (by kernel_rfl)) (by unfold Func.isWrapper; first | (rw [if_pos (by decide +kernel)]; kernel_rfl) | (rw [if_neg (by decide +kernel)]; exact ⟨rfl, rfl⟩))
    (fun os started H enc _ => lifted os started H enc)
theorem proved : Rows.FnExactWorldMeetSaid := over
end Go.Proofs.YtoledfhjmdpihaaGreat.fnExactWorldMeet
