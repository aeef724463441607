/- The law: what cannot be changes nothing. -/
import Derived.Test.YtkdlkclanlkebaaGreatRows
import Derived.WalkKit
import Derived.ProofKit
import Derived.OpenShut
import Derived.ShutString
import Derived.ChangeOld
import Derived.Below
import Derived.Test.YtkdlkclanlkebaaGreatA20
import Derived.Test.YtkdlkclanlkebaaGreatA14
set_option linter.unusedVariables false
set_option linter.unusedSectionVars false
set_option linter.unusedSimpArgs false
namespace Go.Proofs.YtkdlkclanlkebaaGreat
open Go Go.Proofs Go.Proofs.YtkdlkclanlkebaaGreat.VE
attribute [local irreducible] Val Op1 WO WR WA WC seqQ blockQ loopQ retQ
noncomputable def o23x5K28 : Array Oper := cops (cl (cl (cr (cr (cr (cr (codeOf Tryz.f23)))))))
noncomputable def o23x6K28 : Array Oper := cops (cl (cl (cr (cl (cr (cr (cr (cr (codeOf Tryz.f23)))))))))
noncomputable def r23x5K28 : Run := (.st 0 1 (.st 1 1 (.st 2 1 (.st 3 2 (.st 4 3 (.st 5 0 (.st 6 0 (.st 7 1 (.st 8 3 (.st 9 0 (.st 10 0 .done)))))))))))
noncomputable def r23x6K28 : Run := (.st 0 1 (.st 1 1 (.st 2 1 (.st 3 2 (.st 4 3 (.st 5 0 .done))))))
set_option maxHeartbeats 8000000
theorem c_FnWorldIdleBig {L : List Ent} (a : Option Addr) (n c : Nat) (hn : 1048576 < n) : RO Tryz.prog 23 [.slice a n c] L (B true) := by
  refine Tri.of Tryz.func23 rfl rfl Tryz.ntmps23 rfl rfl ?_
  (repeat' (first | refine nI ?_ | (refine nA ?_; intro _) | refine nY ?_ | refine WA_alt ?_ ?_ | refine nR ?_ | refine WC_drawL (id := 5) (ops := o23x5K28) r23x5K28 (by kernel_rfl) rfl ?_ | refine WC_drawL (id := 6) (ops := o23x6K28) r23x6K28 (by kernel_rfl) rfl ?_ | refine WC_cond rfl (fun hc => ?_) (fun hc => ?_)))
  refine ro_ret (by exact kR) (by exact kL) ?_; rfl
theorem c_FnWorldIdle1 {L : List Ent} (a : Option Addr) (n c : Nat) (bs : List Int) (h : BytesIn L a n c bs) (hlen : n ≤ 1048576) : RO Tryz.prog 23 [.slice a n c] L (B true) := by
  have hat := h.at_ hlen
  have hby := h.byte
  have hn := hat.1
  dsimp only at hn
  subst hn
  refine Tri.of Tryz.func23 rfl rfl Tryz.ntmps23 rfl rfl ?_
  (repeat' (first | refine nI ?_ | (refine nA ?_; intro _) | (refine nW ?_; first | (refine op_call_id ?_; refine op_call rfl (c_drawWorldDo ⟨a, bs.length, c⟩ bs (hat.mono (by exact kS)) hby) rfl ?_; rintro _ _ ⟨w, e, ⟨kc0, cs0, sv0, ⟨al0, nl0, cl0⟩⟩, ps0, ss0, ms0, se, Y, rfl, hdr, hme, rfl⟩)) | refine nY ?_ | refine WA_alt ?_ ?_ | refine nR ?_ | refine WC_drawL (id := 5) (ops := o23x5K28) r23x5K28 (by kernel_rfl) rfl ?_ | refine WC_drawL (id := 6) (ops := o23x6K28) r23x6K28 (by kernel_rfl) rfl ?_ | refine WC_cond rfl (fun hc => ?_) (fun hc => ?_)))
  rename_i bw be
  have hnl0 := log_len hdr.at_
  subst hnl0
  have hat0 := hdr.at_
  cases hwk : worldOk w with
  | false =>
    (repeat' (first | refine nI ?_ | (refine nA ?_; intro _) | (refine nW ?_; first | (refine op_call_id ?_; refine op_ro rfl rfl (by first | exact c_worldDoF w e _ ps0 ss0 ms0 se (hat0.mono (by exact kS)) hdr.n hwk | exact c_sWorldDoF w e _ ps0 ss0 ms0 se (hat0.mono (by exact kS)) hdr.n hwk | exact (c_sWorldOkN w _ ps0 ss0 ms0 (hat0.mono (by exact kS)) hdr.n).eq (congrArg B hwk) | exact c_lbWorldT World.zero WSl.nil WSl.nil [] [] [] [] [] [] (zeroAt _) (zeroAt _)) ?_)) | refine nY ?_ | refine WA_alt ?_ ?_ | refine nR ?_ | refine WC_drawL (id := 5) (ops := o23x5K28) r23x5K28 (by kernel_rfl) rfl ?_ | refine WC_drawL (id := 6) (ops := o23x6K28) r23x6K28 (by kernel_rfl) rfl ?_ | refine WC_cond rfl (fun hc => ?_) (fun hc => ?_)))
    refine ro_ret (by exact kR) (by exact kL) ?_; rfl
  | true =>
  have hok : WOk w := worldOk_iff.1 hwk
  have hwn := hok.now
  have hll := hok.ll
  have htk := hdr.took
  obtain ⟨x, hx⟩ : ∃ x, step w e = x := ⟨_, rfl⟩
  have hokx : WOk x := hx ▸ step_ok hok
  have htkx : TookLe 63 x := hx ▸ took_step htk
  have hfr := step_grow hok e
  rw [hx] at hfr
  obtain ⟨f1, f2, f3, f4, f5, f6, f7, f8⟩ := hfr
  have hkn := hok.kdc.next
  have hxn := hokx.now
  have hxl := hokx.ll
  have hxk := hokx.kdc.next
  (repeat' (first | refine nI ?_ | (refine nA ?_; intro _) | (refine nW ?_; first | (refine op_call_id ?_; refine op_ro rfl rfl (by first | exact (c_sWorldOkN w _ ps0 ss0 ms0 (hat0.mono (by exact kS)) hdr.n).eq (congrArg B hwk) | exact c_lbWorldT x _ q2 ps1 ps2 ss1 ss2 ms1 ms2 (ho1.at.mono (by exact kS)) (ho2.at.mono (by exact kS))) ?_) | (refine op_call_id ?_; refine op_call rfl (c_worldDoU hx _ ps0 ss0 ms0 (hat0.mono (by exact kS)) hok (htk.up (by omega)) se (hme.mono (by exact kS))) rfl ?_; rintro _ _ ⟨kc1, cs1, sv1, al1, cl1, ps1, ss1, ms1, ek1, ec1, ca1, es1, sa1, el1, la1, rfl, ho1, rfl⟩) | (refine op_call_id ?_; refine op_call rfl (c_sWorldDo hx _ ps0 ss0 ms0 (hat0.mono (by exact kS)) hok (htk.up (by omega)) se (hme.mono (by exact kS))) rfl ?_; rintro _ _ ⟨q2, ps2, ss2, ms2, ek2, ec2, ca2, es2, sa2, el2, la2, rfl, ho2, rfl⟩)) | refine nY ?_ | refine WA_alt ?_ ?_ | refine nR ?_ | refine WC_drawL (id := 5) (ops := o23x5K28) r23x5K28 (by kernel_rfl) rfl ?_ | refine WC_drawL (id := 6) (ops := o23x6K28) r23x6K28 (by kernel_rfl) rfl ?_ | refine WC_cond rfl (fun hc => ?_) (fun hc => ?_)))
  have i1 : step w ⟨8, 0, 0, Msg.zero⟩ = w := step_idle (by simp)
  have i2 : step w ⟨4, w.log.length, 0, Msg.zero⟩ = w := by rw [step_bring]; unfold bring; rw [if_neg (by omega)]
  have i3 : step w ⟨1, 4, 0, Msg.zero⟩ = w := by
    rw [← asks_idle (w := w) (k := 1) (a := 4) (b := 0) (.inl (by omega))]; simp [step, asks_idle (w := w) (k := 1) (a := 4) (b := 0) (.inl (by omega))]
  have i4 : step w ⟨7, 0, 6, Msg.zero⟩ = w := by rw [step_fall, fall_idle (by omega)]
  have i5 : step w ⟨1, w.bad, 0, Msg.zero⟩ = w := by simp [step, asks_idle (w := w) (k := 1) (a := w.bad) (b := 0) (.inr rfl)]
  (repeat' (first | refine nI ?_ | (refine nA ?_; intro _) | (refine nW ?_; first | (refine op_call_id ?_; refine op_ro rfl rfl (by first | exact c_lbWorldT w _ _ qs1 ps0 rs1 ss0 us1 ms0 (po1.at.mono (by exact kS)) (hat0.mono (by exact kS)) | exact c_lbWorldT w _ _ qs2 ps0 rs2 ss0 us2 ms0 (po2.at.mono (by exact kS)) (hat0.mono (by exact kS)) | exact c_lbWorldT w _ _ qs3 ps0 rs3 ss0 us3 ms0 (po3.at.mono (by exact kS)) (hat0.mono (by exact kS)) | exact c_lbWorldT w _ _ qs4 ps0 rs4 ss0 us4 ms0 (po4.at.mono (by exact kS)) (hat0.mono (by exact kS)) | exact c_lbWorldT w _ _ qs5 ps0 rs5 ss0 us5 ms0 (po5.at.mono (by exact kS)) (hat0.mono (by exact kS))) ?_) | (refine op_call_id ?_; refine op_call rfl (c_worldDoU i1 _ ps0 ss0 ms0 (hat0.mono (by exact kS)) hok (htk.up (by omega)) Sl.nil SliceAt.nil) rfl ?_; rintro _ _ ⟨k1a, k1b, k1c, k1d, k1e, qs1, rs1, us1, d1a, d1b, d1c, d1d, d1e, d1f, d1g, rfl, po1, rfl⟩) | (refine op_call_id ?_; refine op_call rfl (c_worldDoU i2 _ ps0 ss0 ms0 (hat0.mono (by exact kS)) hok (htk.up (by omega)) Sl.nil SliceAt.nil) rfl ?_; rintro _ _ ⟨k2a, k2b, k2c, k2d, k2e, qs2, rs2, us2, d2a, d2b, d2c, d2d, d2e, d2f, d2g, rfl, po2, rfl⟩) | (refine op_call_id ?_; refine op_call rfl (c_worldDoU i3 _ ps0 ss0 ms0 (hat0.mono (by exact kS)) hok (htk.up (by omega)) Sl.nil SliceAt.nil) rfl ?_; rintro _ _ ⟨k3a, k3b, k3c, k3d, k3e, qs3, rs3, us3, d3a, d3b, d3c, d3d, d3e, d3f, d3g, rfl, po3, rfl⟩) | (refine op_call_id ?_; refine op_call rfl (c_worldDoU i4 _ ps0 ss0 ms0 (hat0.mono (by exact kS)) hok (htk.up (by omega)) Sl.nil SliceAt.nil) rfl ?_; rintro _ _ ⟨k4a, k4b, k4c, k4d, k4e, qs4, rs4, us4, d4a, d4b, d4c, d4d, d4e, d4f, d4g, rfl, po4, rfl⟩) | (refine op_call_id ?_; refine op_call rfl (c_worldDoU i5 _ ps0 ss0 ms0 (hat0.mono (by exact kS)) hok (htk.up (by omega)) Sl.nil SliceAt.nil) rfl ?_; rintro _ _ ⟨k5a, k5b, k5c, k5d, k5e, qs5, rs5, us5, d5a, d5b, d5c, d5d, d5e, d5f, d5g, rfl, po5, rfl⟩)) | refine nY ?_ | refine WA_alt ?_ ?_ | refine nR ?_ | refine WC_drawL (id := 5) (ops := o23x5K28) r23x5K28 (by kernel_rfl) rfl ?_ | refine WC_drawL (id := 6) (ops := o23x6K28) r23x6K28 (by kernel_rfl) rfl ?_ | refine WC_cond rfl (fun hc => ?_) (fun hc => ?_)))
  refine ro_ret (by exact kR) (by exact kL) ?_; rfl
end Go.Proofs.YtkdlkclanlkebaaGreat
/- The law FnWorldIdle: for all that comes in the call returns true, and what came in reads as before. No condition. (The frame by the kit's program, the walk by ours.) -/
namespace Go.Proofs.YtkdlkclanlkebaaGreat.fnWorldIdle
open Go.ChangeShapes Go.WideShapes Go.ChangeAt Go.RowKit
open Go.ChangeMaps (open_string shut_string)
set_option linter.unusedVariables false

theorem own : ownKnob Tryz.prog.godebug = none := by kernel_rfl
theorem laidOut : laidOutB Tryz.prog = true := by kernel_rfl

def IsRow (k : IntKind) (w : Go.World) (a : Option Addr) (len cap : Nat) (zs : List Int) : Prop :=
  (a = none ∧ len = 0 ∧ cap = 0 ∧ zs = []) ∨
  ∃ x, a = some x ∧ len ≤ cap ∧ cap ≤ maxLen ∧ zs.length = cap ∧ (∀ i, i < zs.length → w.cell? (x.add i) = some (.int k (zs.getD i 0))) ∧ ∀ n ∈ zs, (Lit.int k n).wf = true

theorem walk (a0 : Option Addr) (len0 cap0 : Nat) (z0 : List Int) (w : Go.World) (w0 : IsRow .u8 w a0 len0 cap0 z0) :
    Calls Tryz.prog 23 #[.slice a0 len0 cap0] w fun e w' => e = .returned (.bool true) ∧ Below w.heap.size w w' := by
  exact walk_of (by
    by_cases hb : 1048576 < len0
    · exact c_FnWorldIdleBig a0 len0 cap0 hb
    · exact c_FnWorldIdle1 a0 len0 cap0 (z0.take len0) (bytes_at w0) (by omega))

set_option maxRecDepth 100000 in
theorem lifted (os : Os) (started : os.Started) (H : Type) (enc : TypeId × Value → H) :
    ReturnsInHanded {} Tryz.checked os 23 .any (Rows.fnWorldIdleSpec.pre6 enc Tryz.prog Tryz.f23 Rows.fnWorldIdleRow.domain false) (Rows.fnWorldIdleSpec.post enc Tryz.prog Tryz.f23 false true false false) := by
  refine returnsInHanded_of_change (C := Tryz.checked) own started (by kernel_rfl) Tryz.func23
    (ChangeSpec.witness6 (enc := enc) (C := Tryz.checked) false ⟨#[], #[.slice none 0 0], []⟩ 8 (by kernel_rfl) (by kernel_rfl) (by kernel_rfl) (by kernel_rfl)) ?_
  intro W base args ds gs before hval0 hW hcnd _
  have hval : ∀ (j : Nat) t v, Tryz.f23.params[j]? = some t → args[j]? = some v → Value.okWide Tryz.prog W .any base t v := hval0
  have hW' := hW
  obtain ⟨p, q, hA0, hV, rfl, hfz, hnd⟩ := hW
  have hA : DataW.TrodAll enc Tryz.prog W 0 (fun _ => true) true Tryz.f23.params.toList args.toList ds p := hA0
  rw [Tryz.params23] at hA hval
  obtain ⟨v0, vs0, d0, ds0, p0, q0, hargs, rfl, rfl, h0, r0⟩ := trodAll_cons hA
  obtain ⟨rfl, rfl, rfl⟩ := trodAll_nil r0
  obtain rfl : args = #[v0] := by cases args; simp_all
  obtain ⟨rfl, rfl⟩ := trodVars_none hV
  obtain ⟨a0, len0, cap0, rfl⟩ := okWide_slice Tryz.underlying22 (hval 0 22 v0 rfl rfl)
  have k0 := h0
  have lt0 : ∀ x ∈ p0, x.block < W.heap.size := by obtain ⟨m, hm⟩ := k0; exact DataW.trod_lt m _ _ _ hm
  obtain ⟨z0, w0⟩ : ∃ zs, IsRow .u8 W a0 len0 cap0 zs := by
    obtain ⟨fuel, hf⟩ := h0
    rcases open_ints Tryz.underlying22 Tryz.underlying5 (by kernel_rfl) hf with ⟨hcs, _⟩ | ⟨x, l, c, zs, hcs, _, hl, hm, hz, _, hcell, hwz⟩
    · simp [Value.cells] at hcs
      obtain ⟨rfl, rfl, rfl⟩ := hcs
      exact ⟨[], .inl ⟨rfl, rfl, rfl, rfl⟩⟩
    · simp [Value.cells] at hcs
      obtain ⟨rfl, rfl, rfl⟩ := hcs
      exact ⟨zs, .inr ⟨_, rfl, hl, hm, by simpa using hz, hcell, hwz⟩⟩
  clear hA0 hval0
  refine (walk a0 len0 cap0 z0 W w0).mono fun e W' ⟨he, bel⟩ => ?_
  subst he
  exact ⟨_, rfl, _, _, _, [], _, [], hW', trodAll_mk1 (shut_bool Tryz.underlying4 _), (trodAll_cons_mk (Below.trod laidOut (by kernel_rfl) (of_decide_eq_true (by kernel_rfl)) k0 bel lt0) trodAll_mk0), rfl, bel.frame _, fun h => by cases h⟩

theorem closed : joinedFacts Tryz.prog 23 Tryz.f23 Rows.fnWorldIdleSpec Rows.fnWorldIdleRow = true := by
  unfold joinedFacts
  iterate 31 (refine and_t ?_ ?_)
  · kernel_rfl
  · kernel_rfl
  · kernel_rfl
  · kernel_rfl
  · kernel_rfl
  · kernel_rfl
  · kernel_rfl
  · kernel_rfl
  · kernel_rfl
  · kernel_rfl
  · kernel_rfl
  · kernel_rfl
  · kernel_rfl
  · kernel_rfl
  · kernel_rfl
  · kernel_rfl
  · kernel_rfl
  · kernel_rfl
  · kernel_rfl
  · kernel_rfl
  · kernel_rfl
  · kernel_rfl
  · kernel_rfl
  · kernel_rfl
  · kernel_rfl
  · exact may_enter
  · rw [lifts_final]; kernel_rfl
  · rw [make_is]; kernel_rfl
  · kernel_rfl
  · kernel_rfl
  · kernel_rfl
  · kernel_rfl
theorem over : Rows.fnWorldIdleRow.holds Tryz.pinned (OpenSpec.ofChange Rows.fnWorldIdleSpec) :=
  OpenClaim.holds_of_wide 23 Tryz.f23 rfl rfl rfl rfl rfl rfl rfl ⟨rfl, rfl, rfl, rfl, rfl⟩ rfl rfl rfl rfl rfl (by kernel_rfl) Tryz.func23 closed
    (of_decide_eq_true (by kernel_rfl)) (by unfold Func.isWrapper; first | (rw [if_pos (by decide +kernel)]; kernel_rfl) | (rw [if_neg (by decide +kernel)]; exact ⟨rfl, rfl⟩))
    (fun os started H enc _ => lifted os started H enc)

theorem proved : Rows.FnWorldIdleSaid := over
end Go.Proofs.YtkdlkclanlkebaaGreat.fnWorldIdle
