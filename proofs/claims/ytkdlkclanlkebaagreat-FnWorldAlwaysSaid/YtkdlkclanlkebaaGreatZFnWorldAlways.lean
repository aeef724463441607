/- The law: it is so at each moment. -/
import Derived.Test.YtkdlkclanlkebaaGreatRows
import Derived.WalkKit
import Derived.ProofKit
import Derived.OpenShut
import Derived.ShutString
import Derived.ChangeOld
import Derived.Below
import Derived.Test.YtkdlkclanlkebaaGreatA13
import Derived.Test.YtkdlkclanlkebaaGreatA14
set_option linter.unusedVariables false
set_option linter.unusedSectionVars false
set_option linter.unusedSimpArgs false
namespace Go.Proofs.YtkdlkclanlkebaaGreat
open Go Go.Proofs Go.Proofs.YtkdlkclanlkebaaGreat.VE
attribute [local irreducible] Val Op1 WO WR WA WC seqQ blockQ loopQ retQ
set_option maxHeartbeats 8000000
theorem c_FnWorldAlwaysBig {L : List Ent} (a a' : Option Addr) (n c n' c' : Nat) (hn : 1048576 < n ∨ 1048576 < n') : RO Tryz.prog 20 [.slice a n c, .slice a' n' c'] L (B true) := by
  by_cases h1 : 1048576 < n
  · refine Tri.of Tryz.func20 rfl rfl Tryz.ntmps20 rfl rfl ?_
    (repeat' (first | refine nI ?_ | (refine nA ?_; intro _) | refine nY ?_ | refine nR ?_ | refine WC_cond rfl (fun hc => ?_) (fun hc => ?_)))
    refine ro_ret (by exact kR) (by exact kL) ?_; rfl
  · have h2 : 1048576 < n' := by omega
    refine Tri.of Tryz.func20 rfl rfl Tryz.ntmps20 rfl rfl ?_
    (repeat' (first | refine nI ?_ | (refine nA ?_; intro _) | refine nY ?_ | refine nR ?_ | refine WC_cond rfl (fun hc => ?_) (fun hc => ?_)))
    refine ro_ret (by exact kR) (by exact kL) ?_; rfl
theorem c_FnWorldAlways1 {L : List Ent} (a a' : Option Addr) (n c n' c' : Nat) (bs : List Int) (h : BytesIn L a n c bs) (hlen : n ≤ 1048576) (hlen' : n' ≤ 1048576) : RO Tryz.prog 20 [.slice a n c, .slice a' n' c'] L (B true) := by
  have hat := h.at_ hlen
  have hby := h.byte
  have hn := hat.1
  dsimp only at hn
  subst hn
  refine Tri.of Tryz.func20 rfl rfl Tryz.ntmps20 rfl rfl ?_
  (repeat' (first | refine nI ?_ | (refine nA ?_; intro _) | (refine nW ?_; first | (refine op_call_id ?_; refine op_call rfl (c_drawWorldPlay ⟨a, bs.length, c⟩ bs (hat.mono (by exact kS)) hby) rfl ?_; rintro _ _ ⟨bad, ⟨a2, n2, c2⟩, evs, ee, rfl, ⟨hse, hms⟩, rfl⟩)) | refine nY ?_ | refine nR ?_ | refine WC_cond rfl (fun hc => ?_) (fun hc => ?_)))
  by_cases hgo : within bad 0 3 = true ∧ evs.length ≤ 70
  rotate_left
  · (repeat' (first | refine nI ?_ | (refine nA ?_; intro _) | (refine nW ?_; first | (refine op_call_id ?_; refine op_ro rfl rfl (by first | exact c_worldPlay0 bad ⟨a2, n2, c2⟩ evs (hse.mono (by exact kS)) (not_go hgo) | exact c_sWorldPlay0 bad ⟨a2, n2, c2⟩ evs (hse.mono (by exact kS)) (not_go hgo) | exact c_lbWorldT World.zero WSl.nil WSl.nil [] [] [] [] [] [] (zeroAt _) (zeroAt _)) ?_) | refine op_val rfl (by first | exact val_neqB_f rfl rfl rfl | exact val_eqlB_t rfl rfl rfl) ?_) | refine nY ?_ | refine nR ?_ | refine WC_cond rfl (fun hc => ?_) (fun hc => ?_)))
    refine ro_ret (by exact kR) (by exact kL) ?_; rfl
  obtain ⟨hb, h70⟩ := hgo
  have hn2 := hse.1
  dsimp only at hn2
  subst hn2
  obtain ⟨w, hw⟩ : ∃ w, play (worldNew bad) (evs.map Prod.fst) = w := ⟨_, rfl⟩
  have hplayed := played hb hw
  (repeat' (first | refine nI ?_ | (refine nA ?_; intro _) | (refine nW ?_; first | (refine op_call_id ?_; refine op_ro rfl rfl (by exact c_lbWorldT w q1 q2 ps1 ps2 ss1 ss2 ms1 ms2 (hown1.at.mono (by exact kS)) (hown2.at.mono (by exact kS))) ?_) | (refine op_call_id ?_; refine op_call rfl (c_worldPlayW (sev := ⟨a2, evs.length, c2⟩) (evs := evs) hw (hse.mono (by exact kS)) (fun p hp => (hms p hp).mono (by exact kS)) hb h70) rfl ?_; rintro _ _ ⟨q1, ps1, ss1, ms1, ek1, ec1, ca1, es1, sa1, el1, la1, rfl, hown1, rfl⟩) | (refine op_call_id ?_; refine op_call rfl (c_sWorldPlayW (sev := ⟨a2, evs.length, c2⟩) (evs := evs) hw (hse.mono (by exact kS)) (fun p hp => (hms p hp).mono (by exact kS)) hb h70) rfl ?_; rintro _ _ ⟨q2, ps2, ss2, ms2, ek2, ec2, ca2, es2, sa2, el2, la2, rfl, hown2, rfl⟩) | refine op_val rfl (by first | exact val_neqB_f rfl rfl rfl | exact val_eqlB_t rfl rfl rfl) ?_) | refine nY ?_ | refine nR ?_ | refine WC_cond rfl (fun hc => ?_) (fun hc => ?_)))
  obtain ⟨ct, hct⟩ : ∃ ct : Nat, (n' : Int) % ((evs.length : Int) + 1) = ct := ⟨((n' : Int) % ((evs.length : Int) + 1)).toNat, by have := Int.emod_nonneg (n' : Int) (b := (evs.length : Int) + 1) (by omega); omega⟩
  have hctl : ct ≤ evs.length := by have := Int.emod_lt_of_pos (n' : Int) (b := (evs.length : Int) + 1) (by omega); omega
  obtain ⟨x, hx⟩ : ∃ x, play (worldNew bad) ((evs.take ct).map Prod.fst) = x := ⟨_, rfl⟩
  have hpx := played hb hx
  have htl : (evs.take ct).length = ct := by rw [List.length_take]; omega
  have hcut := hse.take hctl
  have hcE : evs.length ≤ c2 := hse.2.1
  have hcm : ∀ p ∈ evs.take ct, MsgAt ee p.1.msg p.2 := fun p hp => hms p (List.mem_of_mem_take hp)
  (repeat' (first | refine nI ?_ | (refine nA ?_; intro _) | (refine nW ?_; first | (refine op_call_id ?_; refine op_ro rfl rfl (by first | exact c_lbAuthentic x q3 ps3 ss3 ms3 (hown3.at.mono (by exact kS)) hpx.inv | exact c_lbMutual x q3 ps3 ss3 ms3 (hown3.at.mono (by exact kS)) hpx.inv | exact c_lbSecret x q3 ps3 ss3 ms3 (hown3.at.mono (by exact kS)) hpx.inv | exact c_worldOkT x q3 ps3 ss3 ms3 (hown3.at.mono (by exact kS)) hpx.inv.ok) ?_) | (refine op_call_id ?_; refine op_call rfl (c_worldPlayW (sev := ⟨a2, ct, c2⟩) (evs := evs.take ct) hx (hcut.mono (by exact kS)) (fun p hp => (hcm p hp).mono (by exact kS)) hb (by omega)) rfl ?_; rintro _ _ ⟨q3, ps3, ss3, ms3, ek3, ec3, ca3, es3, sa3, el3, la3, rfl, hown3, rfl⟩) | refine op_val rfl (by exact val_remE rfl rfl (by omega) (by omega) hct) ?_) | refine nY ?_ | refine nR ?_ | refine WC_cond rfl (fun hc => ?_) (fun hc => ?_)))
  refine ro_ret (by exact kR) (by exact kL) ?_; rfl
end Go.Proofs.YtkdlkclanlkebaaGreat
/- The law FnWorldAlways: for all that comes in the call returns true, and what came in reads as before. No condition. (The frame by the kit's program, the walk by ours.) -/
namespace Go.Proofs.YtkdlkclanlkebaaGreat.fnWorldAlways
open Go.ChangeShapes Go.WideShapes Go.ChangeAt Go.RowKit
open Go.ChangeMaps (open_string shut_string)
set_option linter.unusedVariables false

theorem own : ownKnob Tryz.prog.godebug = none := by kernel_rfl
theorem laidOut : laidOutB Tryz.prog = true := by kernel_rfl

def IsRow (k : IntKind) (w : Go.World) (a : Option Addr) (len cap : Nat) (zs : List Int) : Prop :=
  (a = none ∧ len = 0 ∧ cap = 0 ∧ zs = []) ∨
  ∃ x, a = some x ∧ len ≤ cap ∧ cap ≤ maxLen ∧ zs.length = cap ∧ (∀ i, i < zs.length → w.cell? (x.add i) = some (.int k (zs.getD i 0))) ∧ ∀ n ∈ zs, (Lit.int k n).wf = true

theorem walk (a0 : Option Addr) (len0 cap0 : Nat) (z0 : List Int) (a1 : Option Addr) (len1 cap1 : Nat) (z1 : List Int) (w : Go.World) (w0 : IsRow .u8 w a0 len0 cap0 z0) (w1 : IsRow .u8 w a1 len1 cap1 z1) :
    Calls Tryz.prog 20 #[.slice a0 len0 cap0, .slice a1 len1 cap1] w fun e w' => e = .returned (.bool true) ∧ Below w.heap.size w w' := by
  exact walk_of (by
    by_cases hb : 1048576 < len0 ∨ 1048576 < len1
    · exact c_FnWorldAlwaysBig a0 a1 len0 cap0 len1 cap1 hb
    · exact c_FnWorldAlways1 a0 a1 len0 cap0 len1 cap1 (z0.take len0) (bytes_at w0) (by omega) (by omega))

set_option maxRecDepth 100000 in
theorem lifted (os : Os) (started : os.Started) (H : Type) (enc : TypeId × Value → H) :
    ReturnsInHanded {} Tryz.checked os 20 .any (Rows.fnWorldAlwaysSpec.pre6 enc Tryz.prog Tryz.f20 Rows.fnWorldAlwaysRow.domain false) (Rows.fnWorldAlwaysSpec.post enc Tryz.prog Tryz.f20 false true false false) := by
  refine returnsInHanded_of_change (C := Tryz.checked) own started (by kernel_rfl) Tryz.func20
    (ChangeSpec.witness6 (enc := enc) (C := Tryz.checked) false ⟨#[], #[.slice none 0 0, .slice none 0 0], []⟩ 8 (by kernel_rfl) (by kernel_rfl) (by kernel_rfl) (by kernel_rfl)) ?_
  intro W base args ds gs before hval0 hW hcnd _
  have hval : ∀ (j : Nat) t v, Tryz.f20.params[j]? = some t → args[j]? = some v → Value.okWide Tryz.prog W .any base t v := hval0
  have hW' := hW
  obtain ⟨p, q, hA0, hV, rfl, hfz, hnd⟩ := hW
  have hA : DataW.TrodAll enc Tryz.prog W 0 (fun _ => true) true Tryz.f20.params.toList args.toList ds p := hA0
  rw [Tryz.params20] at hA hval
  obtain ⟨v0, vs0, d0, ds0, p0, q0, hargs, rfl, rfl, h0, r0⟩ := trodAll_cons hA
  obtain ⟨v1, vs1, d1, ds1, p1, q1, rfl, rfl, rfl, h1, r1⟩ := trodAll_cons r0
  obtain ⟨rfl, rfl, rfl⟩ := trodAll_nil r1
  obtain rfl : args = #[v0, v1] := by cases args; simp_all
  obtain ⟨rfl, rfl⟩ := trodVars_none hV
  obtain ⟨a0, len0, cap0, rfl⟩ := okWide_slice Tryz.underlying22 (hval 0 22 v0 rfl rfl)
  have k0 := h0
  have lt0 : ∀ x ∈ p0, x.block < W.heap.size := by obtain ⟨m, hm⟩ := k0; exact DataW.trod_lt m _ _ _ hm
  obtain ⟨z0, w0⟩ : ∃ zs, IsRow .u8 W a0 len0 cap0 zs := by
    obtain ⟨fuel, hf⟩ := h0
    rcases open_ints Tryz.underlying22 Tryz.underlying5 (by kernel_rfl) hf with ⟨hcs, _⟩ | ⟨x, l, c, zs, hcs, _, hl, hm, hz, _, hcell, hwz⟩
    · simp [Value.cells] at hcs
      obtain ⟨rfl, rfl, rfl⟩ := hcs
      exact ⟨[], .inl ⟨rfl, rfl, rfl, rfl⟩⟩
    · simp [Value.cells] at hcs
      obtain ⟨rfl, rfl, rfl⟩ := hcs
      exact ⟨zs, .inr ⟨_, rfl, hl, hm, by simpa using hz, hcell, hwz⟩⟩
  obtain ⟨a1, len1, cap1, rfl⟩ := okWide_slice Tryz.underlying22 (hval 1 22 v1 rfl rfl)
  have k1 := h1
  have lt1 : ∀ x ∈ p1, x.block < W.heap.size := by obtain ⟨m, hm⟩ := k1; exact DataW.trod_lt m _ _ _ hm
  obtain ⟨z1, w1⟩ : ∃ zs, IsRow .u8 W a1 len1 cap1 zs := by
    obtain ⟨fuel, hf⟩ := h1
    rcases open_ints Tryz.underlying22 Tryz.underlying5 (by kernel_rfl) hf with ⟨hcs, _⟩ | ⟨x, l, c, zs, hcs, _, hl, hm, hz, _, hcell, hwz⟩
    · simp [Value.cells] at hcs
      obtain ⟨rfl, rfl, rfl⟩ := hcs
      exact ⟨[], .inl ⟨rfl, rfl, rfl, rfl⟩⟩
    · simp [Value.cells] at hcs
      obtain ⟨rfl, rfl, rfl⟩ := hcs
      exact ⟨zs, .inr ⟨_, rfl, hl, hm, by simpa using hz, hcell, hwz⟩⟩
  clear hA0 hval0
  refine (walk a0 len0 cap0 z0 a1 len1 cap1 z1 W w0 w1).mono fun e W' ⟨he, bel⟩ => ?_
  subst he
  exact ⟨_, rfl, _, _, _, [], _, [], hW', trodAll_mk1 (shut_bool Tryz.underlying4 _), (trodAll_cons_mk (Below.trod laidOut (by kernel_rfl) (of_decide_eq_true (by kernel_rfl)) k0 bel lt0) (trodAll_cons_mk (Below.trod laidOut (by kernel_rfl) (of_decide_eq_true (by kernel_rfl)) k1 bel lt1) trodAll_mk0)), rfl, bel.frame _, fun h => by cases h⟩

theorem closed : joinedFacts Tryz.prog 20 Tryz.f20 Rows.fnWorldAlwaysSpec Rows.fnWorldAlwaysRow = true := by
  unfold joinedFacts
  iterate 31 (refine and_t ?_ ?_)
  · kernel_rfl
  · kernel_rfl
  · kernel_rfl
  · kernel_rfl
  · kernel_rfl
  · kernel_rfl
  · kernel_rfl
  · kernel_rfl
  · kernel_rfl
  · kernel_rfl
  · kernel_rfl
  · kernel_rfl
  · kernel_rfl
  · kernel_rfl
  · kernel_rfl
  · kernel_rfl
  · kernel_rfl
  · kernel_rfl
  · kernel_rfl
  · kernel_rfl
  · kernel_rfl
  · kernel_rfl
  · kernel_rfl
  · kernel_rfl
  · kernel_rfl
  · exact may_enter
  · rw [lifts_final]; kernel_rfl
  · rw [make_is]; kernel_rfl
  · kernel_rfl
  · kernel_rfl
  · kernel_rfl
  · kernel_rfl
theorem over : Rows.fnWorldAlwaysRow.holds Tryz.pinned (OpenSpec.ofChange Rows.fnWorldAlwaysSpec) :=
  OpenClaim.holds_of_wide 20 Tryz.f20 rfl rfl rfl rfl rfl rfl rfl ⟨rfl, rfl, rfl, rfl, rfl⟩ rfl rfl rfl rfl rfl (by kernel_rfl) Tryz.func20 closed
    (of_decide_eq_true (by kernel_rfl)) (by unfold Func.isWrapper; first | (rw [if_pos (by decide +kernel)]; kernel_rfl) | (rw [if_neg (by decide +kernel)]; exact ⟨rfl, rfl⟩))
    (fun os started H enc _ => lifted os started H enc)

theorem proved : Rows.FnWorldAlwaysSaid := over
end Go.Proofs.YtkdlkclanlkebaaGreat.fnWorldAlways
