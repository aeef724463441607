/- The law: the bad user can call as what he is. -/
import Derived.Test.YtkdlkclanlkebaaGreatRows
import Derived.WalkKit
import Derived.ProofKit
import Derived.OpenShut
import Derived.ShutString
import Derived.ChangeOld
import Derived.Below
import Derived.Test.YtkdlkclanlkebaaGreatA13
import Derived.Test.YtkdlkclanlkebaaGreatA12
import Derived.Test.YtkdlkclanlkebaaGreatA14
set_option linter.unusedVariables false
set_option linter.unusedSectionVars false
set_option linter.unusedSimpArgs false
namespace Go.Proofs.YtkdlkclanlkebaaGreat
open Go Go.Proofs Go.Proofs.YtkdlkclanlkebaaGreat.VE
attribute [local irreducible] Val Op1 WO WR WA WC seqQ blockQ loopQ retQ
noncomputable def o26x11K25 : Array Oper := cops (cl (cl (cr (cr (cr (cr (cr (cr (cr (cr (cr (codeOf Tryz.f26))))))))))))
noncomputable def r26x11K25 : Run := (.st 0 0 (.st 1 0 (.st 2 1 (.st 3 0 (.st 4 0 (.st 5 0 (.st 6 0 (.st 7 1 (.st 8 0 (.st 9 0 (.st 10 0 (.st 11 0 (.st 12 0 (.st 13 0 (.st 14 0 (.st 15 1 (.st 16 0 (.st 17 0 (.st 18 0 (.st 19 0 (.st 20 0 (.st 21 1 (.st 22 0 (.st 23 0 (.st 24 0 (.st 25 1 (.st 26 0 (.st 27 0 (.st 28 0 (.st 29 0 (.st 30 0 (.st 31 1 (.st 32 0 (.st 33 0 (.st 34 0 (.st 35 1 (.st 36 0 (.st 37 1 (.st 38 0 (.st 39 0 .done))))))))))))))))))))))))))))))))))))))))
set_option maxHeartbeats 8000000
theorem c_FnWorldBadOwnBig {L : List Ent} (a a' : Option Addr) (n c n' c' : Nat) (hn : 1048576 < n ∨ 1048576 < n') : RO Tryz.prog 26 [.slice a n c, .slice a' n' c'] L (B true) := by
  by_cases h1 : 1048576 < n
  · refine Tri.of Tryz.func26 rfl rfl Tryz.ntmps26 rfl rfl ?_
    (repeat' (first | refine nI ?_ | (refine nA ?_; intro _) | refine nY ?_ | refine WA_alt ?_ ?_ | refine nR ?_ | refine WC_drawL (id := 11) (ops := o26x11K25) r26x11K25 (by kernel_rfl) rfl ?_ | refine WC_cond rfl (fun hc => ?_) (fun hc => ?_)))
    refine ro_ret (by exact kR) (by exact kL) ?_; rfl
  · have h2 : 1048576 < n' := by omega
    refine Tri.of Tryz.func26 rfl rfl Tryz.ntmps26 rfl rfl ?_
    (repeat' (first | refine nI ?_ | (refine nA ?_; intro _) | refine nY ?_ | refine WA_alt ?_ ?_ | refine nR ?_ | refine WC_drawL (id := 11) (ops := o26x11K25) r26x11K25 (by kernel_rfl) rfl ?_ | refine WC_cond rfl (fun hc => ?_) (fun hc => ?_)))
    refine ro_ret (by exact kR) (by exact kL) ?_; rfl
theorem c_FnWorldBadOwn1 {L : List Ent} (a a' : Option Addr) (n c n' c' : Nat) (bs : List Int) (h : BytesIn L a n c bs) (hlen : n ≤ 1048576) (hlen' : n' ≤ 1048576) : RO Tryz.prog 26 [.slice a n c, .slice a' n' c'] L (B true) := by
  have hat := h.at_ hlen
  have hby := h.byte
  have hn := hat.1
  dsimp only at hn
  subst hn
  refine Tri.of Tryz.func26 rfl rfl Tryz.ntmps26 rfl rfl ?_
  (repeat' (first | refine nI ?_ | (refine nA ?_; intro _) | (refine nW ?_; first | (refine op_call_id ?_; refine op_call rfl (c_drawWorldPlay ⟨a, bs.length, c⟩ bs (hat.mono (by exact kS)) hby) rfl ?_; rintro _ _ ⟨bad, ⟨a2, n2, c2⟩, evs, ee, rfl, ⟨hse, hms⟩, rfl⟩)) | refine nY ?_ | refine WA_alt ?_ ?_ | refine nR ?_ | refine WC_drawL (id := 11) (ops := o26x11K25) r26x11K25 (by kernel_rfl) rfl ?_ | refine WC_cond rfl (fun hc => ?_) (fun hc => ?_)))
  by_cases hgo : within bad 0 3 = true ∧ evs.length ≤ 70
  rotate_left
  · (repeat' (first | refine nI ?_ | (refine nA ?_; intro _) | (refine nW ?_; first | (refine op_call_id ?_; refine op_ro rfl rfl (by first | exact c_worldPlay0 bad ⟨a2, n2, c2⟩ evs (hse.mono (by exact kS)) (not_go hgo) | exact c_sWorldPlay0 bad ⟨a2, n2, c2⟩ evs (hse.mono (by exact kS)) (not_go hgo) | exact c_lbWorldT World.zero WSl.nil WSl.nil [] [] [] [] [] [] (zeroAt _) (zeroAt _)) ?_) | refine op_val rfl (by first | exact val_neqB_f rfl rfl rfl | exact val_eqlB_t rfl rfl rfl) ?_) | (refine WR_id ?_; refine WR_pure rfl rfl rfl (by first | exact val_neqB_f rfl rfl rfl | exact val_eqlB_t rfl rfl rfl) ?_) | refine nY ?_ | refine WA_alt ?_ ?_ | refine nR ?_ | refine WC_drawL (id := 11) (ops := o26x11K25) r26x11K25 (by kernel_rfl) rfl ?_ | refine WC_cond rfl (fun hc => ?_) (fun hc => ?_)))
    refine ro_ret (by exact kR) (by exact kL) ?_; rfl
  obtain ⟨hb, h70⟩ := hgo
  have hn2 := hse.1
  dsimp only at hn2
  subst hn2
  obtain ⟨w, hw⟩ : ∃ w, play (worldNew bad) (evs.map Prod.fst) = w := ⟨_, rfl⟩
  have hplayed := played hb hw
  by_cases hb0 : bad = 0
  · (repeat' (first | refine nI ?_ | (refine nA ?_; intro _) | (refine nW ?_; first | (refine op_call_id ?_; refine op_ro rfl rfl (by exact c_lbWorldT w _ q2 ps1 ps2 ss1 ss2 ms1 ms2 (hown1.at.mono (by exact kS)) (hown2.at.mono (by exact kS))) ?_) | (refine op_call_id ?_; refine op_call rfl (c_worldPlayU (sev := ⟨a2, evs.length, c2⟩) (evs := evs) hw (hse.mono (by exact kS)) (fun p hp => (hms p hp).mono (by exact kS)) hb h70) rfl ?_; rintro _ _ ⟨kc1, cs1, sv1, al1, cl1, ps1, ss1, ms1, ek1, ec1, ca1, es1, sa1, el1, la1, rfl, hown1, rfl⟩) | (refine op_call_id ?_; refine op_call rfl (c_sWorldPlayW (sev := ⟨a2, evs.length, c2⟩) (evs := evs) hw (hse.mono (by exact kS)) (fun p hp => (hms p hp).mono (by exact kS)) hb h70) rfl ?_; rintro _ _ ⟨q2, ps2, ss2, ms2, ek2, ec2, ca2, es2, sa2, el2, la2, rfl, hown2, rfl⟩) | refine op_val rfl (by first | exact val_neqB_f rfl rfl rfl | exact val_eqlB_t rfl rfl rfl) ?_) | (refine WR_id ?_; refine WR_pure rfl rfl rfl (by first | exact val_neqB_f rfl rfl rfl | exact val_eqlB_t rfl rfl rfl) ?_) | refine nY ?_ | refine WA_alt ?_ ?_ | refine nR ?_ | refine WC_drawL (id := 11) (ops := o26x11K25) r26x11K25 (by kernel_rfl) rfl ?_ | refine WC_cond rfl (fun hc => ?_) (fun hc => ?_)))
    refine ro_ret (by exact kR) (by exact kL) ?_; rfl
  (repeat' (first | refine nI ?_ | (refine nA ?_; intro _) | (refine nW ?_; first | (refine op_call_id ?_; refine op_ro rfl rfl (by exact c_lbWorldT w _ q2 ps1 ps2 ss1 ss2 ms1 ms2 (hown1.at.mono (by exact kS)) (hown2.at.mono (by exact kS))) ?_) | (refine op_call_id ?_; refine op_call rfl (c_worldPlayU (sev := ⟨a2, evs.length, c2⟩) (evs := evs) hw (hse.mono (by exact kS)) (fun p hp => (hms p hp).mono (by exact kS)) hb h70) rfl ?_; rintro _ _ ⟨kc1, cs1, sv1, al1, cl1, ps1, ss1, ms1, ek1, ec1, ca1, es1, sa1, el1, la1, rfl, hown1, rfl⟩) | (refine op_call_id ?_; refine op_call rfl (c_sWorldPlayW (sev := ⟨a2, evs.length, c2⟩) (evs := evs) hw (hse.mono (by exact kS)) (fun p hp => (hms p hp).mono (by exact kS)) hb h70) rfl ?_; rintro _ _ ⟨q2, ps2, ss2, ms2, ek2, ec2, ca2, es2, sa2, el2, la2, rfl, hown2, rfl⟩) | refine op_val rfl (by first | exact val_neqB_f rfl rfl rfl | exact val_eqlB_t rfl rfl rfl) ?_) | (refine WR_id ?_; refine WR_pure rfl rfl rfl (by first | exact val_neqB_f rfl rfl rfl | exact val_eqlB_t rfl rfl rfl) ?_) | refine nY ?_ | refine WA_alt ?_ ?_ | refine nR ?_ | refine WC_drawL (id := 11) (ops := o26x11K25) r26x11K25 (by kernel_rfl) rfl ?_ | refine WC_cond rfl (fun hc => ?_) (fun hc => ?_)))
  rename_i b7 b9
  have hinv := hplayed.inv
  have hok := hinv.ok
  have htk := hplayed.took.up h70
  have hwn := hok.now
  have hat1 := hown1.at
  have hll := hok.ll
  obtain ⟨r, hr⟩ : ∃ r : Int, (n' : Int) % 2 = r := ⟨_, rfl⟩
  have hr2 : 0 ≤ r ∧ r < 2 := by omega
  have hs : 4 ≤ 4 + r ∧ 4 + r ≤ 5 := by omega
  have hbw := within_iff.1 hb
  have hbe := hplayed.bad
  obtain ⟨wt, hwt⟩ : ∃ x, tick w = x := ⟨_, rfl⟩
  have hst : step w ⟨6, 0, 0, Msg.zero⟩ = wt := by rw [step_tick]; exact hwt
  have hinvt : Inv wt := hwt ▸ tick_inv hinv
  have hokt := hinvt.ok
  have htkt : TookLe 71 wt := hst ▸ took_step htk
  have hbt : wt.bad = bad := by rw [← hwt]; exact hbe
  have hnx := hokt.kdc.next
  have hlt := hokt.ll
  obtain ⟨vs, hvs⟩ : ∃ v, servOf wt (4 + r) = v := ⟨_, rfl⟩
  obtain ⟨x, hx⟩ : ∃ x, badCalls wt (4 + r) bad = x := ⟨_, rfl⟩
  have hinvx : Inv x := hx ▸ badCalls_inv hinvt
  have hokx := hinvx.ok
  (repeat' (first | refine nI ?_ | (refine nA ?_; intro _) | (refine nW ?_; first | (refine op_call_id ?_; refine op_call rfl (c_worldDoU hst _ ps1 ss1 ms1 (hat1.mono (by exact kS)) hok (htk.up (by omega)) Sl.nil SliceAt.nil) rfl ?_; rintro _ _ ⟨kc3, cs3, sv3, al3, cl3, ps3, ss3, ms3, ek3, ec3, ca3, es3, sa3, el3, la3, rfl, ho3, rfl⟩) | refine op_val rfl (by exact val_remE rfl rfl (by omega) (by omega) hr) ?_) | (refine WR_id ?_; refine WR_pure rfl rfl rfl (by exact val_remE rfl rfl (by omega) (by omega) hr) ?_) | refine nY ?_ | refine WA_alt ?_ ?_ | refine nR ?_ | refine WC_cond rfl (fun hc => ?_) (fun hc => ?_)))
  have hat3 := ho3.at
  obtain ⟨gz4, o4, cc4, T4, fr4, cap4, sc4, ⟨a4, n4, c4⟩, rfl, hmem4, hrow4, hss4⟩ := srv_at hat3 hokt hs
  rw [hvs] at hrow4 hss4
  have hkn := hat3.kc.1
  have hcn := hss4.c.1
  have htn := hss4.t.1
  have htn' := hss4.t.2.2.1
  dsimp only at hkn hcn htn htn'
  simp only [big] at htn'
  subst htn
  by_cases g1 : 60 < wt.kdc.next + 1
  · (repeat' (first | refine nI ?_ | (refine nA ?_; intro _) | refine nY ?_ | refine WA_alt ?_ ?_ | refine nR ?_ | refine WC_drawL (id := 11) (ops := o26x11K25) r26x11K25 (by kernel_rfl) rfl ?_ | refine WC_cond rfl (fun hc => ?_) (fun hc => ?_)))
    refine ro_ret (by exact kR) (by exact kL) ?_; rfl
  by_cases g2 : 80 < wt.log.length + 5
  · (repeat' (first | refine nI ?_ | (refine nA ?_; intro _) | refine nY ?_ | refine WA_alt ?_ ?_ | refine nR ?_ | refine WC_drawL (id := 11) (ops := o26x11K25) r26x11K25 (by kernel_rfl) rfl ?_ | refine WC_cond rfl (fun hc => ?_) (fun hc => ?_)))
    refine ro_ret (by exact kR) (by exact kL) ?_; rfl
  by_cases g3 : wt.kdc.cache.length = 20
  · (repeat' (first | refine nI ?_ | (refine nA ?_; intro _) | refine nY ?_ | refine WA_alt ?_ ?_ | refine nR ?_ | refine WC_drawL (id := 11) (ops := o26x11K25) r26x11K25 (by kernel_rfl) rfl ?_ | refine WC_cond rfl (fun hc => ?_) (fun hc => ?_)))
    refine ro_ret (by exact kR) (by exact kL) ?_; rfl
  by_cases g4 : vs.cache.length = 20
  · (repeat' (first | refine nI ?_ | (refine nA ?_; intro _) | refine nY ?_ | refine WA_alt ?_ ?_ | refine nR ?_ | refine WC_drawL (id := 11) (ops := o26x11K25) r26x11K25 (by kernel_rfl) rfl ?_ | refine WC_cond rfl (fun hc => ?_) (fun hc => ?_)))
    refine ro_ret (by exact kR) (by exact kL) ?_; rfl
  by_cases g5 : vs.since = wt.now
  · (repeat' (first | refine nI ?_ | (refine nA ?_; intro _) | refine nY ?_ | refine WA_alt ?_ ?_ | refine nR ?_ | refine WC_drawL (id := 11) (ops := o26x11K25) r26x11K25 (by kernel_rfl) rfl ?_ | refine WC_cond rfl (fun hc => ?_) (fun hc => ?_)))
    refine ro_ret (by exact kR) (by exact kL) ?_; rfl
  have hown := bad_own hinvt hs (by rw [hbt]; exact hb0) (by omega) (by omega) g3 (by rw [hvs]; exact g4) (by rw [hvs]; exact g5)
  rw [hbt, hx, hvs] at hown
  (repeat' (first | refine nI ?_ | (refine nA ?_; intro _) | (refine nW ?_; first | (refine op_call_id ?_; refine op_call rfl (c_lbBadCalls hx _ ps3 ss3 ms3 (hat3.mono (by exact kS)) hokt (htkt.up (by omega)) hs) rfl ?_; rintro _ _ ⟨⟨kc5, cs5, sv5, ls5⟩, ps5, ss5, ms5, ek5, ec5, ca5, es5, sa5, el5, la5, rfl, ho5, rfl⟩)) | refine nY ?_ | refine WA_alt ?_ ?_ | refine nR ?_ | refine WC_drawL (id := 11) (ops := o26x11K25) r26x11K25 (by kernel_rfl) rfl ?_ | refine WC_cond rfl (fun hc => ?_) (fun hc => ?_)))
  have hat5 := ho5.at
  obtain ⟨gz6, o6, cc6, T6, fr6, cap6, sc6, ⟨a6, n6, c6⟩, rfl, hmem6, hrow6, hss6⟩ := srv_at hat5 hokx hs
  have ht6 := hss6.t
  dsimp only at ht6
  rw [hown] at ht6
  obtain ⟨hl6, _, hb6, hr6⟩ := ht6
  dsimp only at hl6 hr6
  simp only [big] at hb6
  obtain ⟨gz7, o7, cc7, T7, fr7, rfl, hmem7, hrow7⟩ := hr6 (by simp)
  have hrow7' := hrow7 vs.took.length _ List.getElem?_concat_length
  simp only [List.length_append, List.length_cons, List.length_nil] at hl6 hb6
  subst hl6
  (repeat' (first | refine nI ?_ | (refine nA ?_; intro _) | (refine nW ?_; first | (refine op_call_id ?_; refine op_ro rfl rfl (by first | exact c_lbAuthentic x _ ps5 ss5 ms5 (hat5.mono (by exact kS)) hinvx | exact c_lbSecret x _ ps5 ss5 ms5 (hat5.mono (by exact kS)) hinvx) ?_)) | refine nY ?_ | refine WA_alt ?_ ?_ | refine nR ?_ | refine WC_drawL (id := 11) (ops := o26x11K25) r26x11K25 (by kernel_rfl) rfl ?_ | refine WC_cond rfl (fun hc => ?_) (fun hc => ?_)))
  refine ro_ret (by exact kR) (by exact kL) ?_; rfl
end Go.Proofs.YtkdlkclanlkebaaGreat
/- The law FnWorldBadOwn: for all that comes in the call returns true, and what came in reads as before. No condition. (The frame by the kit's program, the walk by ours.) -/
namespace Go.Proofs.YtkdlkclanlkebaaGreat.fnWorldBadOwn
open Go.ChangeShapes Go.WideShapes Go.ChangeAt Go.RowKit
open Go.ChangeMaps (open_string shut_string)
set_option linter.unusedVariables false

theorem own : ownKnob Tryz.prog.godebug = none := by kernel_rfl
theorem laidOut : laidOutB Tryz.prog = true := by kernel_rfl

def IsRow (k : IntKind) (w : Go.World) (a : Option Addr) (len cap : Nat) (zs : List Int) : Prop :=
  (a = none ∧ len = 0 ∧ cap = 0 ∧ zs = []) ∨
  ∃ x, a = some x ∧ len ≤ cap ∧ cap ≤ maxLen ∧ zs.length = cap ∧ (∀ i, i < zs.length → w.cell? (x.add i) = some (.int k (zs.getD i 0))) ∧ ∀ n ∈ zs, (Lit.int k n).wf = true

theorem walk (a0 : Option Addr) (len0 cap0 : Nat) (z0 : List Int) (a1 : Option Addr) (len1 cap1 : Nat) (z1 : List Int) (w : Go.World) (w0 : IsRow .u8 w a0 len0 cap0 z0) (w1 : IsRow .u8 w a1 len1 cap1 z1) :
    Calls Tryz.prog 26 #[.slice a0 len0 cap0, .slice a1 len1 cap1] w fun e w' => e = .returned (.bool true) ∧ Below w.heap.size w w' := by
  exact walk_of (by
    by_cases hb : 1048576 < len0 ∨ 1048576 < len1
    · exact c_FnWorldBadOwnBig a0 a1 len0 cap0 len1 cap1 hb
    · exact c_FnWorldBadOwn1 a0 a1 len0 cap0 len1 cap1 (z0.take len0) (bytes_at w0) (by omega) (by omega))

set_option maxRecDepth 100000 in
theorem lifted (os : Os) (started : os.Started) (H : Type) (enc : TypeId × Value → H) :
    ReturnsInHanded {} Tryz.checked os 26 .any (Rows.fnWorldBadOwnSpec.pre6 enc Tryz.prog Tryz.f26 Rows.fnWorldBadOwnRow.domain false) (Rows.fnWorldBadOwnSpec.post enc Tryz.prog Tryz.f26 false true false false) := by
  refine returnsInHanded_of_change (C := Tryz.checked) own started (by kernel_rfl) Tryz.func26
    (ChangeSpec.witness6 (enc := enc) (C := Tryz.checked) false ⟨#[], #[.slice none 0 0, .slice none 0 0], []⟩ 8 (by kernel_rfl) (by kernel_rfl) (by kernel_rfl) (by kernel_rfl)) ?_
  intro W base args ds gs before hval0 hW hcnd _
  have hval : ∀ (j : Nat) t v, Tryz.f26.params[j]? = some t → args[j]? = some v → Value.okWide Tryz.prog W .any base t v := hval0
  have hW' := hW
  obtain ⟨p, q, hA0, hV, rfl, hfz, hnd⟩ := hW
  have hA : DataW.TrodAll enc Tryz.prog W 0 (fun _ => true) true Tryz.f26.params.toList args.toList ds p := hA0
  rw [Tryz.params26] at hA hval
  obtain ⟨v0, vs0, d0, ds0, p0, q0, hargs, rfl, rfl, h0, r0⟩ := trodAll_cons hA
  obtain ⟨v1, vs1, d1, ds1, p1, q1, rfl, rfl, rfl, h1, r1⟩ := trodAll_cons r0
  obtain ⟨rfl, rfl, rfl⟩ := trodAll_nil r1
  obtain rfl : args = #[v0, v1] := by cases args; simp_all
  obtain ⟨rfl, rfl⟩ := trodVars_none hV
  obtain ⟨a0, len0, cap0, rfl⟩ := okWide_slice Tryz.underlying22 (hval 0 22 v0 rfl rfl)
  have k0 := h0
  have lt0 : ∀ x ∈ p0, x.block < W.heap.size := by obtain ⟨m, hm⟩ := k0; exact DataW.trod_lt m _ _ _ hm
  obtain ⟨z0, w0⟩ : ∃ zs, IsRow .u8 W a0 len0 cap0 zs := by
    obtain ⟨fuel, hf⟩ := h0
    rcases open_ints Tryz.underlying22 Tryz.underlying5 (by kernel_rfl) hf with ⟨hcs, _⟩ | ⟨x, l, c, zs, hcs, _, hl, hm, hz, _, hcell, hwz⟩
    · simp [Value.cells] at hcs
      obtain ⟨rfl, rfl, rfl⟩ := hcs
      exact ⟨[], .inl ⟨rfl, rfl, rfl, rfl⟩⟩
    · simp [Value.cells] at hcs
      obtain ⟨rfl, rfl, rfl⟩ := hcs
      exact ⟨zs, .inr ⟨_, rfl, hl, hm, by simpa using hz, hcell, hwz⟩⟩
  obtain ⟨a1, len1, cap1, rfl⟩ := okWide_slice Tryz.underlying22 (hval 1 22 v1 rfl rfl)
  have k1 := h1
  have lt1 : ∀ x ∈ p1, x.block < W.heap.size := by obtain ⟨m, hm⟩ := k1; exact DataW.trod_lt m _ _ _ hm
  obtain ⟨z1, w1⟩ : ∃ zs, IsRow .u8 W a1 len1 cap1 zs := by
    obtain ⟨fuel, hf⟩ := h1
    rcases open_ints Tryz.underlying22 Tryz.underlying5 (by kernel_rfl) hf with ⟨hcs, _⟩ | ⟨x, l, c, zs, hcs, _, hl, hm, hz, _, hcell, hwz⟩
    · simp [Value.cells] at hcs
      obtain ⟨rfl, rfl, rfl⟩ := hcs
      exact ⟨[], .inl ⟨rfl, rfl, rfl, rfl⟩⟩
    · simp [Value.cells] at hcs
      obtain ⟨rfl, rfl, rfl⟩ := hcs
      exact ⟨zs, .inr ⟨_, rfl, hl, hm, by simpa using hz, hcell, hwz⟩⟩
  clear hA0 hval0
  refine (walk a0 len0 cap0 z0 a1 len1 cap1 z1 W w0 w1).mono fun e W' ⟨he, bel⟩ => ?_
  subst he
  exact ⟨_, rfl, _, _, _, [], _, [], hW', trodAll_mk1 (shut_bool Tryz.underlying4 _), (trodAll_cons_mk (Below.trod laidOut (by kernel_rfl) (of_decide_eq_true (by kernel_rfl)) k0 bel lt0) (trodAll_cons_mk (Below.trod laidOut (by kernel_rfl) (of_decide_eq_true (by kernel_rfl)) k1 bel lt1) trodAll_mk0)), rfl, bel.frame _, fun h => by cases h⟩

theorem closed : joinedFacts Tryz.prog 26 Tryz.f26 Rows.fnWorldBadOwnSpec Rows.fnWorldBadOwnRow = true := by
  unfold joinedFacts
  iterate 31 (refine and_t ?_ ?_)
  · kernel_rfl
  · kernel_rfl
  · kernel_rfl
  · kernel_rfl
  · kernel_rfl
  · kernel_rfl
  · kernel_rfl
  · kernel_rfl
  · kernel_rfl
  · kernel_rfl
  · kernel_rfl
  · kernel_rfl
  · kernel_rfl
  · kernel_rfl
  · kernel_rfl
  · kernel_rfl
  · kernel_rfl
  · kernel_rfl
  · kernel_rfl
  · kernel_rfl
  · kernel_rfl
  · kernel_rfl
  · kernel_rfl
  · kernel_rfl
  · kernel_rfl
  · exact may_enter
  · rw [lifts_final]; kernel_rfl
  · rw [make_is]; kernel_rfl
  · kernel_rfl
  · kernel_rfl
  · kernel_rfl
  · kernel_rfl
theorem over : Rows.fnWorldBadOwnRow.holds Tryz.pinned (OpenSpec.ofChange Rows.fnWorldBadOwnSpec) :=
  OpenClaim.holds_of_wide 26 Tryz.f26 rfl rfl rfl rfl rfl rfl rfl ⟨rfl, rfl, rfl, rfl, rfl⟩ rfl rfl rfl rfl rfl (by kernel_rfl) Tryz.func26 closed
    (of_decide_eq_true (by kernel_rfl)) (by unfold Func.isWrapper; first | (rw [if_pos (by decide +kernel)]; kernel_rfl) | (rw [if_neg (by decide +kernel)]; exact ⟨rfl, rfl⟩))
    (fun os started H enc _ => lifted os started H enc)

theorem proved : Rows.FnWorldBadOwnSaid := over
end Go.Proofs.YtkdlkclanlkebaaGreat.fnWorldBadOwn
