/- The law FnExactMsgRead: at every argument impl and spec answer the same, and the answer's memory is its own. -/
import Derived.Test.YtoledfhjmdpihaaGreatDoorRows
import Derived.Test.YtoledfhjmdpihaaGreatDoorTie
import Derived.Test.YtoledfhjmdpihaaGreatDoorCards
import Derived.WalkKit
import Derived.ProofKit
import Derived.OpenShut
import Derived.ShutString
import Derived.ChangeOld
import Derived.Below
import Derived.Test.YtoledfhjmdpihaaGreatDoorA30
import Derived.Test.YtoledfhjmdpihaaGreatDoorA32
import Derived.Test.YtoledfhjmdpihaaGreatDoorA10
import Derived.Test.YtoledfhjmdpihaaGreatDoorA14
import Derived.Test.YtoledfhjmdpihaaGreatDoorA31
set_option linter.unusedVariables false
set_option linter.unusedSectionVars false
set_option linter.unusedSimpArgs false
namespace Go.Proofs.YtoledfhjmdpihaaGreatDoor
open Go Go.Proofs Go.Proofs.YtoledfhjmdpihaaGreatDoor.VE
attribute [local irreducible] Val Op1 WO WR WA WC seqQ blockQ loopQ retQ
set_option maxHeartbeats 8000000
theorem c_FnExactMsgRead1 {L : List Ent} (text : Str) (hG : GlobM L) : RO Tryz.prog 3 [St text] L (B true) := by
  by_cases hl : 1048576 < text.length
  · refine Tri.of Tryz.func3 rfl rfl Tryz.ntmps3 rfl rfl ?_
    (repeat' (first | refine nI ?_ | (refine nA ?_; intro _) | (refine nW ?_; first | refine op_val rfl (by exact kStr) ?_) | refine nY ?_ | refine nR ?_ | refine WC_cond rfl (fun hc => ?_) (fun hc => ?_)))
    refine ro_ret (by exact kR) (by exact kL) ?_; rfl
  refine Tri.of Tryz.func3 rfl rfl Tryz.ntmps3 rfl rfl ?_
  (repeat' (first | refine nI ?_ | (refine nA ?_; intro _) | (refine nW ?_; first | (refine op_call_id ?_; refine op_call rfl (c_sMsgRead text) rfl ?_; rintro _ _ (⟨m, sl, es, hok, htx, rfl, hrm, rfl⟩ | ⟨hno, rfl, rfl⟩)) | refine op_val rfl (by exact kStr) ?_) | refine nY ?_ | refine WC_regionN [4] rfl ?_ | refine WC_block ?_ | refine WC_cond rfl (fun hc => ?_) (fun hc => ?_)))
  · have hrd : ∀ {L : List Ent}, GlobM L → Tri Tryz.prog 7 [St text] L (fun v L' => ∃ sl es, v = .tuple [msgV m sl, B true].toArray ∧ Row encSeal 39 sl m.seals es ∧ L' = es ++ L) := fun {L} hG => htx ▸ c_msgReadOk m hok hG
    have hsl := (msgOk_parts hok).2.1
    (repeat' (first | refine nI ?_ | (refine nA ?_; intro _) | (refine nW ?_; first | (refine op_call_id ?_; refine op_ro rfl rfl (by exact (c_eqMsg m sg sl (hrg.atL (by exact kS)) (hrm.atL (by exact kS)))) ?_) | (refine op_call_id ?_; refine op_call rfl (hrd (hG.mono (by exact kS))) rfl ?_; rintro _ _ ⟨sg, eg, rfl, hrg, rfl⟩) | refine op_val rfl (by first | exact val_neqB_f rfl rfl rfl | exact kStr) ?_) | refine nY ?_ | refine WC_regionN [7] rfl ?_ | refine WC_block ?_ | refine WC_cond rfl (fun hc => ?_) (fun hc => ?_)))
    (repeat' (first | refine nI ?_ | (refine nA ?_; intro _) | (refine nW ?_; first | (refine op_call_id ?_; refine op_ro rfl rfl (by exact (c_heldMsg m sg m.seals.length (hrg2.atL (by exact kS)) (by omega))) ?_) | (refine op_call_id ?_; refine op_call rfl (c_markMsg m sg eg (by exact kE) hrg (by omega)) rfl ?_; rintro _ _ ⟨eg2, rfl, hrg2, rfl⟩) | refine op_val rfl (by exact kStr) ?_) | refine nY ?_ | refine WC_regionN [15] rfl ?_ | refine WC_block ?_ | refine WC_cond rfl (fun hc => ?_) (fun hc => ?_)))
    (repeat' (first | refine nI ?_ | (refine nA ?_; intro _) | (refine nW ?_; first | (refine op_call_id ?_; refine op_ro rfl rfl (by first | exact (c_eqMsg m sh sl (hrh.atL (by exact kS)) (hrm.atL (by exact kS))) | exact (c_heldMsg m sg m.seals.length (hrg2.atL (by exact kS)) (by omega))) ?_) | (refine op_call_id ?_; refine op_call rfl (hrd (hG.mono (by exact kS))) rfl ?_; rintro _ _ ⟨sh, eh, rfl, hrh, rfl⟩) | refine op_val rfl (by first | exact val_neqB_f rfl rfl rfl | exact kStr) ?_) | refine nY ?_ | refine nR ?_ | refine WC_cond rfl (fun hc => ?_) (fun hc => ?_)))
    refine ro_ret (by exact kR) (by exact kL) ?_; rfl
  · (repeat' (first | refine nI ?_ | (refine nA ?_; intro _) | (refine nW ?_; first | (refine op_call_id ?_; refine op_ro rfl rfl (by first | exact c_msgReadNo text hno (by omega) (hG.mono (by exact kS)) | exact (c_eqMsg Msg.zero Sl.nil Sl.nil SliceAt.nil SliceAt.nil) | exact c_markMsg0 | exact c_heldMsg0) ?_) | refine op_val rfl (by first | exact val_neqB_f rfl rfl rfl | exact kStr) ?_) | refine nY ?_ | refine nR ?_ | refine WC_cond rfl (fun hc => ?_) (fun hc => ?_)))
    refine ro_ret (by exact kR) (by exact kL) ?_; rfl
end Go.Proofs.YtoledfhjmdpihaaGreatDoor
/- The law FnExactMsgRead: for all that comes in the call returns true, and what came in reads as before; the library's tables hold what the program's text lays. No further condition. -/
set_option linter.unusedVariables false
set_option linter.unusedSimpArgs false
namespace Go.Proofs.YtoledfhjmdpihaaGreatDoor.fnExactMsgRead
open Go Go.Proofs Go.Proofs.YtoledfhjmdpihaaGreatDoor Go.Proofs.YtoledfhjmdpihaaGreatDoor.VE
open Go.ChangeShapes Go.WideShapes Go.ChangeAt Go.RowKit
open Go.ChangeMaps (open_string shut_string)
abbrev IsRow (k : IntKind) (w : Go.World) (a : Option Addr) (len cap : Nat) (zs : List Int) : Prop := (a = none ∧ len = 0 ∧ cap = 0 ∧ zs = []) ∨
    ∃ x, a = some x ∧ len ≤ cap ∧ cap ≤ maxLen ∧ zs.length = cap ∧ (∀ i, i < zs.length → w.cell? (x.add i) = some (.int k (zs.getD i 0))) ∧ ∀ n ∈ zs, (Lit.int k n).wf = true
theorem own : ownKnob Tryz.prog.godebug = none := by kernel_rfl
theorem laidOut : laidOutB Tryz.prog = true := by kernel_rfl
theorem walk (a0 : ByteArray) (w : Go.World)  (hG : GlobM (heapL w)) :
    Calls Tryz.prog 3 #[.string a0] w fun e w' => e = .returned (.bool true) ∧ Below w.heap.size w w' := by
  exact walk_of (c_FnExactMsgRead1 a0.data.toList hG)
set_option maxRecDepth 100000 in
theorem lifted (os : Os) (started : os.Started) (H : Type) (enc : TypeId × Value → H) :
    ReturnsInHanded {} Tryz.checked os 3 .any (fun w args => (Rows.fnExactMsgReadSpec.pre enc Tryz.prog Tryz.f3 [] false w args ∧ laidMetH Tryz.prog Rows.fnExactMsgReadRow.laid w) ∧ sizedMet enc Tryz.prog Tryz.f3 (OpenSpec.ofChange Rows.fnExactMsgReadSpec) false w args) (Rows.fnExactMsgReadSpec.post enc Tryz.prog Tryz.f3 false true false false) := by
  refine returnsInHanded_both (C := Tryz.checked) (X := fun w _ => laidMetH Tryz.prog Rows.fnExactMsgReadRow.laid w) (fun _ _ _ hh h => h.of_heap hh) own started (by kernel_rfl) Tryz.func3
    (ChangeSpec.witness_shaped (enc := enc) (C := Tryz.checked) (os := os) (X := fun w _ => laidMetH Tryz.prog Rows.fnExactMsgReadRow.laid w) false (Go.World.laidAll Tryz.prog os Rows.fnExactMsgReadRow.laid) #[.string ⟨#[]⟩] 8 (Go.World.laidAll_os _ _ _)
      (Go.World.shaped_of_ZipB (by kernel_rfl) (by kernel_rfl)) (by kernel_rfl) (by kernel_rfl) (by kernel_rfl)
      (by rw [MakeChecks.laidMetH_plain _ _ _ (by kernel_rfl)]; exact laidMet_laidAll _ (by kernel_rfl) (by kernel_rfl))) ?_
  intro W base args ds gs before hval0 hW hL hsh
  have hval : ∀ (j : Nat) t v, Tryz.f3.params[j]? = some t → args[j]? = some v → Value.okWide Tryz.prog W .any base t v := hval0
  have hW' := hW
  obtain ⟨p, q, hA0, hV, rfl, hfz, hnd⟩ := hW
  have hA : DataW.TrodAll enc Tryz.prog W 0 (fun _ => true) true Tryz.f3.params.toList args.toList ds p := hA0
  rw [Tryz.params3] at hA hval
  obtain ⟨v0, vs0, d0, ds0, p0, q0, hargs, rfl, rfl, h0, r0⟩ := trodAll_cons hA
  obtain ⟨rfl, rfl, rfl⟩ := trodAll_nil r0
  obtain rfl : args = #[v0] := by cases args; simp_all
  obtain ⟨rfl, rfl⟩ := trodVars_none hV
  obtain ⟨a0, rfl, rfl, rfl, w0⟩ := open_string Tryz.underlying9 (hval 0 9 v0 rfl rfl) h0
  clear hA0 hval0
  rw [MakeChecks.laidMetH_plain _ _ _ (by kernel_rfl)] at hL
  have hG0 : Glob (heapL W) := glob_of (Lib.laidMet.reads hL (.tail _ (.tail _ (.head _)))) hsh
  have hG := globM_of hG0 (Lib.laidMet.reads hL (.tail _ (.tail _ (.tail _ (.tail _ (.tail _ (.head _))))))) (Lib.laidMet.reads hL (.tail _ (.tail _ (.tail _ (.tail _ (.head _))))))
  refine (walk a0 W  hG).mono fun e W' ⟨he, bel⟩ => ?_
  subst he
  exact ⟨_, rfl, _, _, _, [], _, [], hW', trodAll_mk1 (shut_bool Tryz.underlying4 _), (trodAll_cons_mk (shut_string Tryz.underlying9 w0) trodAll_mk0), rfl, bel.frame _, fun h => by cases h⟩
theorem closed : joinedFacts Tryz.prog 3 Tryz.f3 Rows.fnExactMsgReadSpec Rows.fnExactMsgReadRow = true := by
  unfold joinedFacts
  iterate 31 (refine and_t ?_ ?_)
  · kernel_rfl
  · kernel_rfl
  · kernel_rfl
  · kernel_rfl
  · kernel_rfl
  · kernel_rfl
  · kernel_rfl
  · kernel_rfl
  · kernel_rfl
  · kernel_rfl
  · kernel_rfl
  · kernel_rfl
  · kernel_rfl
  · kernel_rfl
  · kernel_rfl
  · kernel_rfl
  · kernel_rfl
  · kernel_rfl
  · kernel_rfl
  · kernel_rfl
  · kernel_rfl
  · kernel_rfl
  · kernel_rfl
  · kernel_rfl
  · kernel_rfl
  · exact may_enter
  · rw [lifts_final]; kernel_rfl
  · rw [make_is]; kernel_rfl
  · kernel_rfl
  · kernel_rfl
  · kernel_rfl
  · kernel_rfl
theorem main_is : Tryz.prog.mainIs = some (true, "7eaea9fdd19cfb36c738031c368d2bb7695b680a82e7bf0edc09a40e12f55fd3".toList) := by unfold Program.mainIs; rw [ord_list]; kernel_rfl
theorem over : Rows.fnExactMsgReadRow.holds Tryz.pinned (OpenSpec.ofChange Rows.fnExactMsgReadSpec) :=
  OpenClaim.holds_of_wide 3 Tryz.f3 rfl rfl rfl rfl rfl rfl rfl ⟨rfl, rfl, rfl, rfl, rfl⟩ rfl rfl rfl rfl rfl (by kernel_rfl) Tryz.func3 closed
    (of_decide_eq_true (by kernel_rfl)) (by unfold Func.isWrapper; first | (rw [if_pos (by decide +kernel)]; kernel_rfl) | (rw [if_neg (by decide +kernel)]; exact ⟨rfl, rfl⟩))
    (fun os started H enc _ => lifted os started H enc)
theorem proved : Rows.FnExactMsgReadCardSaid :=
  Claim7.holds_tied_plain_at .later [] [.data, .data, .data, .data, .sentinel, .sentinel, .pinned] true (true, "7eaea9fdd19cfb36c738031c368d2bb7695b680a82e7bf0edc09a40e12f55fd3") true over (fun _ h => by cases h) (by kernel_rfl) (fun _ h => by cases h) fnExactMsgRead_row_tie rfl ⟨rfl, rfl⟩ main_is rfl
    (fun f fn hf hfn => by
      obtain rfl : f = 3 := Option.some.inj ((show Tryz.prog.funcNamed "loop.example/cerberus/laws.FnExactMsgRead" = some 3 by kernel_rfl).symm.trans hf) |>.symm
      obtain rfl : fn = Tryz.f3 := (Option.some.inj (Tryz.func3.symm.trans hfn)).symm
      exact ⟨by kernel_rfl, fun j t ht => by
        rw [Tryz.params3] at ht
        have hm : t ∈ [9] := by simpa using Array.mem_of_getElem? ht
        have hall : ([9].all fun u => !Tryz.prog.wantsStandIn u) = true := by kernel_rfl
        exact (show Tryz.prog.wantsStandIn t = false by simpa using List.all_eq_true.1 hall t hm)⟩)
    (by kernel_rfl)
end Go.Proofs.YtoledfhjmdpihaaGreatDoor.fnExactMsgRead
