/- WorldPlay answers as the reference, writes into no argument and keeps nothing of one. -/
import Derived.Test.YtoledfhjmdpihaaGreatRows
import Derived.WalkKit
import Derived.ProofKit
import Derived.OpenShut
import Derived.ShutString
import Derived.ChangeOld
import Derived.Below
import Derived.Test.YtoledfhjmdpihaaGreatA28
import Derived.Test.YtoledfhjmdpihaaGreatA14
set_option linter.unusedVariables false
set_option linter.unusedSectionVars false
set_option linter.unusedSimpArgs false
namespace Go.Proofs.YtoledfhjmdpihaaGreat
open Go Go.Proofs Go.Proofs.YtoledfhjmdpihaaGreat.VE
attribute [local irreducible] Val Op1 WO WR WA WC seqQ blockQ loopQ retQ
set_option maxHeartbeats 8000000
theorem ev_all {ys : List (Event × Sl)} {ca : List Ent} (h : All EvOwn ys ca) : ∀ p ∈ ys, MsgAt ca p.1.msg p.2 := fun p hp => by
  obtain ⟨e1, h1, h2⟩ := h.mem hp
  have h3 : Row encSeal 155 p.2 p.1.msg.seals e1 := h1
  exact h3.atL h2
theorem c_FnExactWorldPlay1 {L : List Ent} (bad : Int) (s : Sl) (evs : List (Event × Sl)) (h : SlIn L encEvent s evs) (hx : ∀ p ∈ evs, MsgIn L (p.1.msg, p.2)) : RO Tryz.prog 4 [I bad, s.v] L (B true) := by
  obtain ⟨r, e1⟩ : ∃ r, szL 1048576 (s.n :: evs.flatMap (fun p : Event × Sl => ([p.2.n] : List Nat))) = r := ⟨_, rfl⟩
  by_cases hr0 : r < 0
  · refine Tri.of Tryz.func4 rfl rfl Tryz.ntmps4 rfl rfl ?_
    (repeat' (first | refine nI ?_ | (refine nA ?_; intro _) | (refine nW ?_; first | (refine op_call_id ?_; refine op_ro rfl rfl (by exact (c_szEventS s evs (h.mono (by exact kS)) (fun p hp => (hx p hp).mono (by exact kS)) 1048576 (by omega)).eq (congrArg I e1)) ?_)) | refine nY ?_ | refine nR ?_ | refine WC_cond rfl (fun hc => ?_) (fun hc => ?_)))
    refine ro_ret (by exact kR) (by exact kL) ?_; rfl
  have hf := fits (by omega) e1 hr0
  have hsn : s.n ≤ 1048576 := hf.2 _ List.mem_cons_self
  have hat := h.at_ hsn
  have hm : ∀ p ∈ evs, MsgAt L p.1.msg p.2 := fun p hp => (hx p hp).at_ (hf.2 _ (List.mem_cons_of_mem _ (List.mem_flatMap.2 ⟨p, hp, by simp⟩)))
  have hl : ∀ p ∈ evs, p.1.msg.seals.length ≤ 1048576 := fun p hp => by
    have h1 := SlIn.len (hx p hp)
    have h2 := hf.2 _ (List.mem_cons_of_mem _ (List.mem_flatMap.2 ⟨p, hp, List.mem_singleton.2 rfl⟩))
    dsimp only at h1
    omega
  have hn : evs.length ≤ 1048576 := by have := h.len; omega
  obtain ⟨x, hxx⟩ : ∃ x, playF bad (evs.map Prod.fst) = x := ⟨_, rfl⟩
  obtain ⟨ok, hok⟩ : ∃ ok, playOk bad evs.length = ok := ⟨_, rfl⟩
  have dI : ∀ {M : List Ent} (sl : Sl) (ys : List (Event × Sl)) (he : ys.map Prod.fst = evs.map Prod.fst) (hat : SliceAt M encEvent sl ys) (hm : ∀ p ∈ ys, MsgAt M p.1.msg p.2), Tri Tryz.prog 20 [I bad, sl.v] M (PNew M x ok) := fun sl ys he hat hm => by
    have hle := fst_len he
    rw [List.length_map] at hle
    have := c_playI bad sl ys hat hm
    rwa [he, hle, hxx, hok] at this
  have dS : ∀ {M : List Ent} (sl : Sl) (ys : List (Event × Sl)) (he : ys.map Prod.fst = evs.map Prod.fst) (hat : SliceAt M encEvent sl ys) (hm : ∀ p ∈ ys, MsgAt M p.1.msg p.2), Tri Tryz.prog 18 [I bad, sl.v] M (PNew M x ok) := fun sl ys he hat hm => by
    have hle := fst_len he
    rw [List.length_map] at hle
    have := c_playS bad sl ys hat hm
    rwa [he, hle, hxx, hok] at this
  clear hxx hok
  have tE : ∀ {M : List Ent}, (∀ e ∈ L, e ∈ M) → Tri Tryz.prog 19 [s.v] M (fun v L' => ∃ s' ys ec ca, v = s'.v ∧ ys.map Prod.fst = evs.map Prod.fst ∧ Row encEvent 49 s' ys ec ∧ All EvOwn ys ca ∧ L' = ec ++ (ca ++ M)) := fun hM => c_toEventS s evs (hat.mono hM) (fun p hp => (hm p hp).mono hM) hl hn
  refine Tri.of Tryz.func4 rfl rfl Tryz.ntmps4 rfl rfl ?_
  (repeat' (first | refine nI ?_ | (refine nA ?_; intro _) | (refine nW ?_; first | (refine op_call_id ?_; refine op_ro rfl rfl (by exact (c_szEventS s evs (h.mono (by exact kS)) (fun p hp => (hx p hp).mono (by exact kS)) 1048576 (by omega)).eq (congrArg I e1)) ?_) | (refine op_call_id ?_; refine op_call rfl (tE (by exact kS)) rfl ?_; rintro _ _ ⟨sa, ya, ea, ca, rfl, hea, hra, hca, rfl⟩) | (refine op_call_id ?_; refine op_call rfl (dS sa ya hea (hra.atL (by exact kS)) (fun p hp => (ev_all hca p hp).mono (by exact kS))) rfl ?_; rintro _ _ ⟨q0, E0, rfl, h0, rfl⟩)) | refine nY ?_ | refine WC_regionN [6] rfl ?_ | refine WC_block ?_ | refine WC_cond rfl (fun hc => ?_) (fun hc => ?_)))
  rename_i b6
  (repeat' (first | refine nI ?_ | (refine nA ?_; intro _) | (refine nW ?_; first | (refine op_call_id ?_; refine op_call rfl (tE (by exact kS)) rfl ?_; rintro _ _ ⟨s1, y1, ec1, ca1, rfl, he1, hr1, hc1, rfl⟩) | (refine op_call_id ?_; refine op_call rfl (dI s1 y1 he1 (hr1.atL (by exact kS)) (fun p hp => (ev_all hc1 p hp).mono (by exact kS))) rfl ?_; rintro _ _ ⟨q3, E3, rfl, h3, rfl⟩)) | refine nY ?_ | refine WC_regionN [8] rfl ?_ | refine WC_block ?_ | refine WC_cond rfl (fun hc => ?_) (fun hc => ?_)))
  rename_i b9
  (repeat' (first | refine nI ?_ | (refine nA ?_; intro _) | (refine nW ?_; first | (refine op_call_id ?_; refine op_ro rfl rfl (by exact c_eqWorldW x q3 q0 (h3.at.mono (by exact kS)) (h0.at.mono (by exact kS))) ?_) | refine op_val rfl (by exact val_neqB_f rfl rfl rfl) ?_) | refine nY ?_ | refine WC_regionN [10] rfl ?_ | refine WC_block ?_ | refine WC_cond rfl (fun hc => ?_) (fun hc => ?_)))
  have hy1 : y1.length ≤ 2000000 := by have := fst_len he1; rw [List.length_map] at this; omega
  (repeat' (first | refine nI ?_ | (refine nA ?_; intro _) | (refine nW ?_; first | (refine op_call_id ?_; refine op_ro rfl rfl (by exact c_eqEventS s1 s4 y1 y4 (he1.trans he4.symm) (hr1.atL (by exact kS)) (hr4.atL (by exact kS)) (fun p hp => (ev_all hc1 p hp).mono (by exact kS)) (fun p hp => (ev_all hc4 p hp).mono (by exact kS))) ?_) | (refine op_call_id ?_; refine op_call rfl (tE (by exact kS)) rfl ?_; rintro _ _ ⟨s4, y4, ec4, ca4, rfl, he4, hr4, hc4, rfl⟩)) | refine nY ?_ | refine WC_regionN [12] rfl ?_ | refine WC_block ?_ | refine WC_cond rfl (fun hc => ?_) (fun hc => ?_)))
  (repeat' (first | refine nI ?_ | (refine nA ?_; intro _) | (refine nW ?_; first | (refine op_call_id ?_; refine op_ro rfl rfl (by exact c_eqWorldW x q3 q0 (h3.at.mono (by exact kS)) (h0.at.mono (by exact kS))) ?_) | (refine op_call_id ?_; refine op_call rfl (c_markEventS s1 y1 ec1 ca1 (frontEE (by exact kE) (by exact kE)) hr1 hc1 1 (by omega) hy1) rfl ?_; rintro _ _ ⟨y9, ec9, ca9, k9, rfl, hr9, hc9, hb9, rfl⟩) | refine op_val rfl (by exact val_neqB_f rfl rfl rfl) ?_) | refine nY ?_ | refine WC_regionN [17] rfl ?_ | refine WC_block ?_ | refine WC_cond rfl (fun hc => ?_) (fun hc => ?_)))
  (repeat' (first | refine nI ?_ | (refine nA ?_; intro _) | (refine nW ?_; first | (refine op_call_id ?_; refine op_call rfl (c_markWorld x q3 E3 (by exact kE) h3 1 (by omega)) rfl ?_; rintro _ _ ⟨x3, F3, m1, rfl, g3, hv3, hh3, hb3, rfl⟩)) | refine nY ?_ | refine WC_regionN [19] rfl ?_ | refine WC_block ?_ | refine WC_cond rfl (fun hc => ?_) (fun hc => ?_)))
  have hb7 : 1 ≤ m1 ∧ m1 ≤ 1000000000000000 := hb3
  (repeat' (first | refine nI ?_ | (refine nA ?_; intro _) | (refine nW ?_; first | (refine op_call_id ?_; refine op_ro rfl rfl (by exact c_heldWorldV x x3 q3 m1 hv3 (g3.at.mono (by exact kS)) hh3 hb7) ?_)) | refine nY ?_ | refine WC_regionN [24] rfl ?_ | refine WC_block ?_ | refine WC_cond rfl (fun hc => ?_) (fun hc => ?_)))
  (repeat' (first | refine nI ?_ | (refine nA ?_; intro _) | (refine nW ?_; first | (refine op_call_id ?_; refine op_call rfl (tE (by exact kS)) rfl ?_; rintro _ _ ⟨sb, yb, eb, cb, rfl, heb, hrb, hcb, rfl⟩) | (refine op_call_id ?_; refine op_call rfl (dI sb yb heb (hrb.atL (by exact kS)) (fun p hp => (ev_all hcb p hp).mono (by exact kS))) rfl ?_; rintro _ _ ⟨q6, E6, rfl, h6, rfl⟩)) | refine nY ?_ | refine WC_regionN [25] rfl ?_ | refine WC_block ?_ | refine WC_cond rfl (fun hc => ?_) (fun hc => ?_)))
  (repeat' (first | refine nI ?_ | (refine nA ?_; intro _) | (refine nW ?_; first | (refine op_call_id ?_; refine op_ro rfl rfl (by first | exact c_eqWorldW x q6 q0 (h6.at.mono (by exact kS)) (h0.at.mono (by exact kS)) | exact c_heldWorldV x x3 q3 m1 hv3 (g3.at.mono (by exact kS)) hh3 hb7) ?_) | refine op_val rfl (by exact val_neqB_f rfl rfl rfl) ?_) | refine nY ?_ | refine nR ?_ | refine WC_cond rfl (fun hc => ?_) (fun hc => ?_)))
  refine ro_ret (by exact kR) (by exact kL) ?_; rfl
end Go.Proofs.YtoledfhjmdpihaaGreat
/- The law FnExactWorldPlay: for all that comes in the call returns true, and what came in reads as before. No condition. -/
set_option linter.unusedVariables false
set_option linter.unusedSimpArgs false
namespace Go.Proofs.YtoledfhjmdpihaaGreat.fnExactWorldPlay
open Go Go.Proofs Go.Proofs.YtoledfhjmdpihaaGreat Go.Proofs.YtoledfhjmdpihaaGreat.VE
open Go.ChangeShapes Go.WideShapes Go.ChangeAt Go.RowKit
theorem own : ownKnob Tryz.prog.godebug = none := by kernel_rfl
theorem laidOut : laidOutB Tryz.prog = true := by kernel_rfl
set_option maxRecDepth 100000 in
theorem lifted (os : Os) (started : os.Started) (H : Type) (enc : TypeId × Value → H) :
    ReturnsInHanded {} Tryz.checked os 4 .any (Rows.fnExactWorldPlaySpec.pre6 enc Tryz.prog Tryz.f4 Rows.fnExactWorldPlayRow.domain false) (Rows.fnExactWorldPlaySpec.post enc Tryz.prog Tryz.f4 false true false false) := by
  refine returnsInHanded_of_change (C := Tryz.checked) own started (by kernel_rfl) Tryz.func4
    (ChangeSpec.witness6 (enc := enc) (C := Tryz.checked) false ⟨#[], #[.int .i64 0, .slice none 0 0], []⟩ 8 (by kernel_rfl) (by kernel_rfl) (by kernel_rfl) (by kernel_rfl)) ?_
  intro W base args ds gs before hval0 hW hcnd _
  have hval : ∀ (j : Nat) t v, Tryz.f4.params[j]? = some t → args[j]? = some v → Value.okWide Tryz.prog W .any base t v := hval0
  have hW' := hW
  obtain ⟨p, q, hA0, hV, rfl, hfz, hnd⟩ := hW
  have hA : DataW.TrodAll enc Tryz.prog W 0 (fun _ => true) true Tryz.f4.params.toList args.toList ds p := hA0
  rw [Tryz.params4] at hA hval
  obtain ⟨v0, vs0, d0, ds0, p0, q0, hargs, rfl, rfl, h0, r0⟩ := trodAll_cons hA
  obtain ⟨v1, vs1, d1, ds1, p1, q1, rfl, rfl, rfl, h1, r1⟩ := trodAll_cons r0
  obtain ⟨rfl, rfl, rfl⟩ := trodAll_nil r1
  obtain rfl : args = #[v0, v1] := by cases args; simp_all
  obtain ⟨rfl, rfl⟩ := trodVars_none hV
  obtain ⟨a0, rfl, rfl, rfl, w0⟩ := open_int Tryz.underlying3 (hval 0 3 v0 rfl rfl) h0
  obtain ⟨a1, len1, cap1, rfl⟩ := okWide_slice Tryz.underlying56 (hval 1 56 v1 rfl rfl)
  have k1 := h1
  have lt1 : ∀ x ∈ p1, x.block < W.heap.size := by obtain ⟨m, hm⟩ := k1; exact DataW.trod_lt m _ _ _ hm
  obtain ⟨fuel1, hf1⟩ := h1
  obtain ⟨⟨⟨b1, n1, c1⟩, xs1⟩, he1, hs1, hx1⟩ := sh_events (enc := enc) (w := W) fuel1 [.slice a1 len1 cap1] _ hf1
  simp only [List.cons.injEq, Value.slice.injEq, and_true] at he1
  obtain ⟨rfl, rfl, rfl⟩ := he1
  clear hA0 hval0
  refine (walk_of (c_FnExactWorldPlay1 a0 ⟨a1, len1, cap1⟩ xs1 hs1 hx1)).mono fun e W' ⟨he, bel⟩ => ?_
  subst he
  exact ⟨_, rfl, _, _, _, [], _, [], hW', trodAll_mk1 (shut_bool Tryz.underlying4 _), (trodAll_cons_mk (shut_int Tryz.underlying3 w0) (trodAll_cons_mk (Below.trod laidOut (by kernel_rfl) (of_decide_eq_true (by kernel_rfl)) k1 bel lt1) trodAll_mk0)), rfl, bel.frame _, fun h => by cases h⟩
theorem closed : joinedFacts Tryz.prog 4 Tryz.f4 Rows.fnExactWorldPlaySpec Rows.fnExactWorldPlayRow = true := by
  unfold joinedFacts
  iterate 31 (refine and_t ?_ ?_)
  · kernel_rfl
  · kernel_rfl
  · kernel_rfl
  · kernel_rfl
  · kernel_rfl
  · kernel_rfl
  · kernel_rfl
  · kernel_rfl
  · kernel_rfl
  · kernel_rfl
  · kernel_rfl
  · kernel_rfl
  · kernel_rfl
  · kernel_rfl
  · kernel_rfl
  · kernel_rfl
  · kernel_rfl
  · kernel_rfl
  · kernel_rfl
  · kernel_rfl
  · kernel_rfl
  · kernel_rfl
  · kernel_rfl
  · kernel_rfl
  · kernel_rfl
  · exact may_enter
  · rw [lifts_final]; kernel_rfl
  · rw [make_is]; kernel_rfl
  · kernel_rfl
  · kernel_rfl
  · kernel_rfl
  · kernel_rfl
theorem over : Rows.fnExactWorldPlayRow.holds Tryz.pinned (OpenSpec.ofChange Rows.fnExactWorldPlaySpec) :=
  OpenClaim.holds_of_wide 4 Tryz.f4 rfl rfl rfl rfl rfl rfl rfl ⟨rfl, rfl, rfl, rfl, rfl⟩ rfl rfl rfl rfl rfl (by kernel_rfl) Tryz.func4 closed
    (of_decide_eq_true (by kernel_rfl)) (by unfold Func.isWrapper; first | (rw [if_pos (by decide +kernel)]; kernel_rfl) | (rw [if_neg (by decide +kernel)]; exact ⟨rfl, rfl⟩))
    (fun os started H enc _ => lifted os started H enc)
theorem proved : Rows.FnExactWorldPlaySaid := over
end Go.Proofs.YtoledfhjmdpihaaGreat.fnExactWorldPlay
