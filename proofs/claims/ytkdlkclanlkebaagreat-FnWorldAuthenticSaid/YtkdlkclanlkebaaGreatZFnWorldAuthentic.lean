/- The law: nobody is taken for another one, whatever happens. -/
import Derived.Test.YtkdlkclanlkebaaGreatRows
import Derived.WalkKit
import Derived.ProofKit
import Derived.OpenShut
import Derived.ShutString
import Derived.ChangeOld
import Derived.Below
import Derived.Test.YtkdlkclanlkebaaGreatA13
import Derived.Test.YtkdlkclanlkebaaGreatA14
set_option linter.unusedVariables false
set_option linter.unusedSectionVars false
set_option linter.unusedSimpArgs false
namespace Go.Proofs.YtkdlkclanlkebaaGreat
open Go Go.Proofs Go.Proofs.YtkdlkclanlkebaaGreat.VE
attribute [local irreducible] Val Op1 WO WR WA WC seqQ blockQ loopQ retQ
set_option maxHeartbeats 8000000
theorem c_FnWorldAuthenticBig {L : List Ent} (a : Option Addr) (n c : Nat) (hn : 1048576 < n) : RO Tryz.prog 5 [.slice a n c] L (B true) := by
  refine Tri.of Tryz.func5 rfl rfl Tryz.ntmps5 rfl rfl ?_
  (repeat' (first | refine nI ?_ | (refine nA ?_; intro _) | refine nY ?_ | refine nR ?_ | refine WC_cond rfl (fun hc => ?_) (fun hc => ?_)))
  refine ro_ret (by exact kR) (by exact kL) ?_; rfl
theorem c_FnWorldAuthentic1 {L : List Ent} (a : Option Addr) (n c : Nat) (bs : List Int) (h : BytesIn L a n c bs) (hlen : n ≤ 1048576) : RO Tryz.prog 5 [.slice a n c] L (B true) := by
  have hat := h.at_ hlen
  have hby := h.byte
  have hn := hat.1
  dsimp only at hn
  subst hn
  refine Tri.of Tryz.func5 rfl rfl Tryz.ntmps5 rfl rfl ?_
  (repeat' (first | refine nI ?_ | (refine nA ?_; intro _) | (refine nW ?_; first | (refine op_call_id ?_; refine op_call rfl (c_drawWorldPlay ⟨a, bs.length, c⟩ bs (hat.mono (by exact kS)) hby) rfl ?_; rintro _ _ ⟨bad, ⟨a2, n2, c2⟩, evs, ee, rfl, ⟨hse, hms⟩, rfl⟩)) | refine nY ?_ | refine nR ?_ | refine WC_cond rfl (fun hc => ?_) (fun hc => ?_)))
  by_cases hgo : within bad 0 3 = true ∧ evs.length ≤ 70
  rotate_left
  · (repeat' (first | refine nI ?_ | (refine nA ?_; intro _) | (refine nW ?_; first | (refine op_call_id ?_; refine op_ro rfl rfl (by first | exact c_worldPlay0 bad ⟨a2, n2, c2⟩ evs (hse.mono (by exact kS)) (not_go hgo) | exact c_sWorldPlay0 bad ⟨a2, n2, c2⟩ evs (hse.mono (by exact kS)) (not_go hgo) | exact c_lbWorldT World.zero WSl.nil WSl.nil [] [] [] [] [] [] (zeroAt _) (zeroAt _)) ?_) | refine op_val rfl (by first | exact val_neqB_f rfl rfl rfl | exact val_eqlB_t rfl rfl rfl) ?_) | refine nY ?_ | refine nR ?_ | refine WC_cond rfl (fun hc => ?_) (fun hc => ?_)))
    refine ro_ret (by exact kR) (by exact kL) ?_; rfl
  obtain ⟨hb, h70⟩ := hgo
  have hn2 := hse.1
  dsimp only at hn2
  subst hn2
  obtain ⟨w, hw⟩ : ∃ w, play (worldNew bad) (evs.map Prod.fst) = w := ⟨_, rfl⟩
  have hplayed := played hb hw
  (repeat' (first | refine nI ?_ | (refine nA ?_; intro _) | (refine nW ?_; first | (refine op_call_id ?_; refine op_ro rfl rfl (by exact c_lbWorldT w q1 q2 ps1 ps2 ss1 ss2 ms1 ms2 (hown1.at.mono (by exact kS)) (hown2.at.mono (by exact kS))) ?_) | (refine op_call_id ?_; refine op_call rfl (c_worldPlayW (sev := ⟨a2, evs.length, c2⟩) (evs := evs) hw (hse.mono (by exact kS)) (fun p hp => (hms p hp).mono (by exact kS)) hb h70) rfl ?_; rintro _ _ ⟨q1, ps1, ss1, ms1, ek1, ec1, ca1, es1, sa1, el1, la1, rfl, hown1, rfl⟩) | (refine op_call_id ?_; refine op_call rfl (c_sWorldPlayW (sev := ⟨a2, evs.length, c2⟩) (evs := evs) hw (hse.mono (by exact kS)) (fun p hp => (hms p hp).mono (by exact kS)) hb h70) rfl ?_; rintro _ _ ⟨q2, ps2, ss2, ms2, ek2, ec2, ca2, es2, sa2, el2, la2, rfl, hown2, rfl⟩) | refine op_val rfl (by first | exact val_neqB_f rfl rfl rfl | exact val_eqlB_t rfl rfl rfl) ?_) | refine nY ?_ | refine nR ?_ | refine WC_cond rfl (fun hc => ?_) (fun hc => ?_)))
  (repeat' (first | refine nI ?_ | (refine nA ?_; intro _) | (refine nW ?_; first | (refine op_call_id ?_; refine op_ro rfl rfl (by exact c_lbAuthentic w q1 ps1 ss1 ms1 (hown1.at.mono (by exact kS)) hplayed.inv) ?_)) | refine nY ?_ | refine nR ?_ | refine WC_cond rfl (fun hc => ?_) (fun hc => ?_)))
  refine ro_ret (by exact kR) (by exact kL) ?_; rfl
end Go.Proofs.YtkdlkclanlkebaaGreat
/- The law FnWorldAuthentic: for all that comes in the call returns true, and what came in reads as before. No condition. (The frame by the kit's program, the walk by ours.) -/
namespace Go.Proofs.YtkdlkclanlkebaaGreat.fnWorldAuthentic
open Go.ChangeShapes Go.WideShapes Go.ChangeAt Go.RowKit
open Go.ChangeMaps (open_string shut_string)
set_option linter.unusedVariables false

theorem own : ownKnob Tryz.prog.godebug = none := by kernel_rfl
theorem laidOut : laidOutB Tryz.prog = true := by kernel_rfl

def IsRow (k : IntKind) (w : Go.World) (a : Option Addr) (len cap : Nat) (zs : List Int) : Prop :=
  (a = none ∧ len = 0 ∧ cap = 0 ∧ zs = []) ∨
  ∃ x, a = some x ∧ len ≤ cap ∧ cap ≤ maxLen ∧ zs.length = cap ∧ (∀ i, i < zs.length → w.cell? (x.add i) = some (.int k (zs.getD i 0))) ∧ ∀ n ∈ zs, (Lit.int k n).wf = true

theorem walk (a0 : Option Addr) (len0 cap0 : Nat) (z0 : List Int) (w : Go.World) (w0 : IsRow .u8 w a0 len0 cap0 z0) :
    Calls Tryz.prog 5 #[.slice a0 len0 cap0] w fun e w' => e = .returned (.bool true) ∧ Below w.heap.size w w' := by
  exact walk_of (by
    by_cases hb : 1048576 < len0
    · exact c_FnWorldAuthenticBig a0 len0 cap0 hb
    · exact c_FnWorldAuthentic1 a0 len0 cap0 (z0.take len0) (bytes_at w0) (by omega))

set_option maxRecDepth 100000 in
theorem lifted (os : Os) (started : os.Started) (H : Type) (enc : TypeId × Value → H) :
    ReturnsInHanded {} Tryz.checked os 5 .any (Rows.fnWorldAuthenticSpec.pre6 enc Tryz.prog Tryz.f5 Rows.fnWorldAuthenticRow.domain false) (Rows.fnWorldAuthenticSpec.post enc Tryz.prog Tryz.f5 false true false false) := by
  refine returnsInHanded_of_change (C := Tryz.checked) own started (by kernel_rfl) Tryz.func5
    (ChangeSpec.witness6 (enc := enc) (C := Tryz.checked) false ⟨#[], #[.slice none 0 0], []⟩ 8 (by kernel_rfl) (by kernel_rfl) (by kernel_rfl) (by kernel_rfl)) ?_
  intro W base args ds gs before hval0 hW hcnd _
  have hval : ∀ (j : Nat) t v, Tryz.f5.params[j]? = some t → args[j]? = some v → Value.okWide Tryz.prog W .any base t v := hval0
  have hW' := hW
  obtain ⟨p, q, hA0, hV, rfl, hfz, hnd⟩ := hW
  have hA : DataW.TrodAll enc Tryz.prog W 0 (fun _ => true) true Tryz.f5.params.toList args.toList ds p := hA0
  rw [Tryz.params5] at hA hval
  obtain ⟨v0, vs0, d0, ds0, p0, q0, hargs, rfl, rfl, h0, r0⟩ := trodAll_cons hA
  obtain ⟨rfl, rfl, rfl⟩ := trodAll_nil r0
  obtain rfl : args = #[v0] := by cases args; simp_all
  obtain ⟨rfl, rfl⟩ := trodVars_none hV
  obtain ⟨a0, len0, cap0, rfl⟩ := okWide_slice Tryz.underlying22 (hval 0 22 v0 rfl rfl)
  have k0 := h0
  have lt0 : ∀ x ∈ p0, x.block < W.heap.size := by obtain ⟨m, hm⟩ := k0; exact DataW.trod_lt m _ _ _ hm
  obtain ⟨z0, w0⟩ : ∃ zs, IsRow .u8 W a0 len0 cap0 zs := by
    obtain ⟨fuel, hf⟩ := h0
    rcases open_ints Tryz.underlying22 Tryz.underlying5 (by kernel_rfl) hf with ⟨hcs, _⟩ | ⟨x, l, c, zs, hcs, _, hl, hm, hz, _, hcell, hwz⟩
    · simp [Value.cells] at hcs
      obtain ⟨rfl, rfl, rfl⟩ := hcs
      exact ⟨[], .inl ⟨rfl, rfl, rfl, rfl⟩⟩
    · simp [Value.cells] at hcs
      obtain ⟨rfl, rfl, rfl⟩ := hcs
      exact ⟨zs, .inr ⟨_, rfl, hl, hm, by simpa using hz, hcell, hwz⟩⟩
  clear hA0 hval0
  refine (walk a0 len0 cap0 z0 W w0).mono fun e W' ⟨he, bel⟩ => ?_
  subst he
  exact ⟨_, rfl, _, _, _, [], _, [], hW', trodAll_mk1 (shut_bool Tryz.underlying4 _), (trodAll_cons_mk (Below.trod laidOut (by kernel_rfl) (of_decide_eq_true (by kernel_rfl)) k0 bel lt0) trodAll_mk0), rfl, bel.frame _, fun h => by cases h⟩

theorem closed : joinedFacts Tryz.prog 5 Tryz.f5 Rows.fnWorldAuthenticSpec Rows.fnWorldAuthenticRow = true := by
  unfold joinedFacts
  iterate 31 (refine and_t ?_ ?_)
  · kernel_rfl
  · kernel_rfl
  · kernel_rfl
  · kernel_rfl
  · kernel_rfl
  · kernel_rfl
  · kernel_rfl
  · kernel_rfl
  · kernel_rfl
  · kernel_rfl
  · kernel_rfl
  · kernel_rfl
  · kernel_rfl
  · kernel_rfl
  · kernel_rfl
  · kernel_rfl
  · kernel_rfl
  · kernel_rfl
  · kernel_rfl
  · kernel_rfl
  · kernel_rfl
  · kernel_rfl
  · kernel_rfl
  · kernel_rfl
  · kernel_rfl
  · exact may_enter
  · rw [lifts_final]; kernel_rfl
  · rw [make_is]; kernel_rfl
  · kernel_rfl
  · kernel_rfl
  · kernel_rfl
  · kernel_rfl
theorem over : Rows.fnWorldAuthenticRow.holds Tryz.pinned (OpenSpec.ofChange Rows.fnWorldAuthenticSpec) :=
  OpenClaim.holds_of_wide 5 Tryz.f5 rfl rfl rfl rfl rfl rfl rfl ⟨rfl, rfl, rfl, rfl, rfl⟩ rfl rfl rfl rfl rfl (by kernel_rfl) Tryz.func5 closed
    (of_decide_eq_true (by kernel_rfl)) (by unfold Func.isWrapper; first | (rw [if_pos (by decide +kernel)]; kernel_rfl) | (rw [if_neg (by decide +kernel)]; exact ⟨rfl, rfl⟩))
    (fun os started H enc _ => lifted os started H enc)

theorem proved : Rows.FnWorldAuthenticSaid := over
end Go.Proofs.YtkdlkclanlkebaaGreat.fnWorldAuthentic
