/- The law: a service that has fallen takes nothing old. -/
import Derived.Test.YtkdlkclanlkebaaGreatRows
import Derived.WalkKit
import Derived.ProofKit
import Derived.OpenShut
import Derived.ShutString
import Derived.ChangeOld
import Derived.Below
import Derived.Test.YtkdlkclanlkebaaGreatA11
import Derived.Test.YtkdlkclanlkebaaGreatA12
import Derived.Test.YtkdlkclanlkebaaGreatA14
set_option linter.unusedVariables false
set_option linter.unusedSectionVars false
set_option linter.unusedSimpArgs false
namespace Go.Proofs.YtkdlkclanlkebaaGreat
open Go Go.Proofs Go.Proofs.YtkdlkclanlkebaaGreat.VE
attribute [local irreducible] Val Op1 WO WR WA WC seqQ blockQ loopQ retQ
noncomputable def o9x16K19 : Array Oper := cops (cl (cr (cr (cr (cr (cr (cr (cr (cr (cr (cr (codeOf Tryz.f9))))))))))))
noncomputable def r9x16K19 : Run := (.st 0 0 (.st 1 1 (.st 2 0 (.st 3 0 (.st 4 0 (.st 5 0 (.st 6 1 (.st 7 0 (.st 8 1 (.st 9 0 (.st 10 0 (.st 11 0 (.st 12 0 (.st 13 1 (.st 14 3 (.st 15 0 .done))))))))))))))))
set_option maxHeartbeats 8000000
theorem c_FnWorldFallBig {L : List Ent} (a a' : Option Addr) (n c n' c' : Nat) (hn : 1048576 < n ∨ 1048576 < n') : RO Tryz.prog 9 [.slice a n c, .slice a' n' c'] L (B true) := by
  by_cases h1 : 1048576 < n
  · refine Tri.of Tryz.func9 rfl rfl Tryz.ntmps9 rfl rfl ?_
    (repeat' (first | refine nI ?_ | (refine nA ?_; intro _) | refine nY ?_ | refine WA_alt ?_ ?_ | refine nR ?_ | refine WC_drawL (id := 16) (ops := o9x16K19) r9x16K19 (by kernel_rfl) rfl ?_ | refine WC_cond rfl (fun hc => ?_) (fun hc => ?_)))
    refine ro_ret (by exact kR) (by exact kL) ?_; rfl
  · have h2 : 1048576 < n' := by omega
    refine Tri.of Tryz.func9 rfl rfl Tryz.ntmps9 rfl rfl ?_
    (repeat' (first | refine nI ?_ | (refine nA ?_; intro _) | refine nY ?_ | refine WA_alt ?_ ?_ | refine nR ?_ | refine WC_drawL (id := 16) (ops := o9x16K19) r9x16K19 (by kernel_rfl) rfl ?_ | refine WC_cond rfl (fun hc => ?_) (fun hc => ?_)))
    refine ro_ret (by exact kR) (by exact kL) ?_; rfl
theorem c_FnWorldFall1 {L : List Ent} (a a' : Option Addr) (n c n' c' : Nat) (bs : List Int) (h : BytesIn L a n c bs) (hlen : n ≤ 1048576) (hlen' : n' ≤ 1048576) : RO Tryz.prog 9 [.slice a n c, .slice a' n' c'] L (B true) := by
  have hat := h.at_ hlen
  have hby := h.byte
  have hn := hat.1
  dsimp only at hn
  subst hn
  refine Tri.of Tryz.func9 rfl rfl Tryz.ntmps9 rfl rfl ?_
  (repeat' (first | refine nI ?_ | (refine nA ?_; intro _) | (refine nW ?_; first | (refine op_call_id ?_; refine op_call rfl (c_drawWorldPlay ⟨a, bs.length, c⟩ bs (hat.mono (by exact kS)) hby) rfl ?_; rintro _ _ ⟨bad, ⟨a2, n2, c2⟩, evs, ee, rfl, ⟨hse, hms⟩, rfl⟩)) | refine nY ?_ | refine WA_alt ?_ ?_ | refine nR ?_ | refine WC_drawL (id := 16) (ops := o9x16K19) r9x16K19 (by kernel_rfl) rfl ?_ | refine WC_cond rfl (fun hc => ?_) (fun hc => ?_)))
  by_cases hgo : within bad 0 3 = true ∧ evs.length ≤ 70
  rotate_left
  · (repeat' (first | refine nI ?_ | (refine nA ?_; intro _) | (refine nW ?_; first | (refine op_call_id ?_; refine op_ro rfl rfl (by first | exact c_worldPlay0 bad ⟨a2, n2, c2⟩ evs (hse.mono (by exact kS)) (not_go hgo) | exact c_sWorldPlay0 bad ⟨a2, n2, c2⟩ evs (hse.mono (by exact kS)) (not_go hgo) | exact c_lbWorldT World.zero WSl.nil WSl.nil [] [] [] [] [] [] (zeroAt _) (zeroAt _)) ?_) | refine op_val rfl (by first | exact val_neqB_f rfl rfl rfl | exact val_eqlB_t rfl rfl rfl) ?_) | (refine WR_id ?_; refine WR_pure rfl rfl rfl (by first | exact val_neqB_f rfl rfl rfl | exact val_eqlB_t rfl rfl rfl) ?_) | refine nY ?_ | refine WA_alt ?_ ?_ | refine nR ?_ | refine WC_drawL (id := 16) (ops := o9x16K19) r9x16K19 (by kernel_rfl) rfl ?_ | refine WC_cond rfl (fun hc => ?_) (fun hc => ?_)))
    refine ro_ret (by exact kR) (by exact kL) ?_; rfl
  obtain ⟨hb, h70⟩ := hgo
  have hn2 := hse.1
  dsimp only at hn2
  subst hn2
  obtain ⟨w, hw⟩ : ∃ w, play (worldNew bad) (evs.map Prod.fst) = w := ⟨_, rfl⟩
  have hplayed := played hb hw
  (repeat' (first | refine nI ?_ | (refine nA ?_; intro _) | (refine nW ?_; first | (refine op_call_id ?_; refine op_ro rfl rfl (by exact c_lbWorldT w q1 q2 ps1 ps2 ss1 ss2 ms1 ms2 (hown1.at.mono (by exact kS)) (hown2.at.mono (by exact kS))) ?_) | (refine op_call_id ?_; refine op_call rfl (c_worldPlayW (sev := ⟨a2, evs.length, c2⟩) (evs := evs) hw (hse.mono (by exact kS)) (fun p hp => (hms p hp).mono (by exact kS)) hb h70) rfl ?_; rintro _ _ ⟨q1, ps1, ss1, ms1, ek1, ec1, ca1, es1, sa1, el1, la1, rfl, hown1, rfl⟩) | (refine op_call_id ?_; refine op_call rfl (c_sWorldPlayW (sev := ⟨a2, evs.length, c2⟩) (evs := evs) hw (hse.mono (by exact kS)) (fun p hp => (hms p hp).mono (by exact kS)) hb h70) rfl ?_; rintro _ _ ⟨q2, ps2, ss2, ms2, ek2, ec2, ca2, es2, sa2, el2, la2, rfl, hown2, rfl⟩) | refine op_val rfl (by first | exact val_neqB_f rfl rfl rfl | exact val_eqlB_t rfl rfl rfl) ?_) | (refine WR_id ?_; refine WR_pure rfl rfl rfl (by first | exact val_neqB_f rfl rfl rfl | exact val_eqlB_t rfl rfl rfl) ?_) | refine nY ?_ | refine WA_alt ?_ ?_ | refine nR ?_ | refine WC_drawL (id := 16) (ops := o9x16K19) r9x16K19 (by kernel_rfl) rfl ?_ | refine WC_cond rfl (fun hc => ?_) (fun hc => ?_)))
  rename_i b7 b9
  have hinv := hplayed.inv
  have hok := hinv.ok
  have htk := hplayed.took.up h70
  obtain ⟨r, hr⟩ : ∃ r : Int, (n' : Int) % 2 = r := ⟨_, rfl⟩
  have hr2 : 0 ≤ r ∧ r < 2 := by omega
  have hid : 4 ≤ 4 + r ∧ 4 + r ≤ 5 := by omega
  obtain ⟨y, hy⟩ : ∃ y, fall w (4 + r) = y := ⟨_, rfl⟩
  have hst : step w ⟨7, 0, 4 + r, Msg.zero⟩ = y := by rw [step_fall]; exact hy
  have hoky : WOk y := hst ▸ step_ok hok
  have htky : TookLe 71 y := hst ▸ took_step htk
  have hfs := fall_since hok hid
  rw [hy] at hfs
  obtain ⟨kc1, cs1, sv1, ls1⟩ := q1
  have hat1 := hown1.at
  (repeat' (first | refine nI ?_ | (refine nA ?_; intro _) | (refine nW ?_; first | (refine op_call_id ?_; refine op_call rfl (c_worldDo hst _ ps1 ss1 ms1 (hat1.mono (by exact kS)) hok (htk.up (by omega)) Sl.nil SliceAt.nil) rfl ?_; rintro _ _ ⟨⟨kc3, cs3, sv3, ⟨al3, nl3, cl3⟩⟩, ps3, ss3, ms3, ek3, ec3, ca3, es3, sa3, el3, la3, rfl, hown3, rfl⟩) | refine op_val rfl (by exact val_remE rfl rfl (by omega) (by omega) hr) ?_) | (refine WR_id ?_; refine WR_pure rfl rfl rfl (by exact val_remE rfl rfl (by omega) (by omega) hr) ?_) | refine nY ?_ | refine WA_alt ?_ ?_ | refine nR ?_ | refine WC_drawL (id := 16) (ops := o9x16K19) r9x16K19 (by kernel_rfl) rfl ?_ | refine WC_cond rfl (fun hc => ?_) (fun hc => ?_)))
  rename_i b12
  have hat3 := hown3.at
  have hnl := log_len hat3
  rw [hfs.2.2.1] at hnl
  subst hnl
  have hll := hok.ll
  refine WC_loop (fun mz Ez Mz => ∃ (k : Nat) (z : World) (kc cs sv : Sl) (al : Option Addr) (cl : Nat) (ps : List (Client × CSl)) (ss : List (Serv × (Sl × Sl))) (ms : List (Msg × Sl)) (X : List Ent), k + mz = (w.log).length ∧ Ez = [(7, .pointer (some ⟨b7, 0, none⟩)), (11, I (4 + r)), (12, .pointer (some ⟨b12, 0, none⟩)), (13, I w.log.length), (14, I k)] ∧ Mz = (b12, cellsO (worldC z ⟨kc, cs, sv, ⟨al, w.log.length, cl⟩⟩) 33) :: (b7, cellsO (worldC w ⟨kc1, cs1, sv1, ls1⟩) 33) :: (X ++ (wldE ek1 ec1 ca1 es1 sa1 el1 la1 ++ L)) ∧ (Took y z ∧ WOk z ∧ TookLe (71 + k) z ∧ WldAt X z ⟨kc, cs, sv, ⟨al, w.log.length, cl⟩⟩ ps ss ms)) (w.log).length (by exact kQ) (by exact kL) ⟨0, y, kc3, cs3, sv3, al3, cl3, ps3, ss3, ms3, wldE ek3 ec3 ca3 es3 sa3 el3 la3, by omega, rfl, rfl, by exact ⟨Took.refl, hoky, htky, hat3⟩⟩ ?_
  rintro mz Ez Mz ⟨k, z, kc, cs, sv, al, cl, ps, ss, ms, X, hk, rfl, rfl, hin⟩
  rcases Nat.lt_or_ge k (w.log).length with hlt | hge
  · obtain ⟨htz, hokz, htkz, hatz⟩ := hin
    obtain ⟨m, hm⟩ : ∃ m, w.log[k]? = some m := ⟨_, List.getElem?_eq_getElem hlt⟩
    have hmy : y.log[k]? = some m := by rw [hfs.2.2.1]; exact hm
    have hmz : z.log[k]? = some m := by rw [htz.log]; exact hmy
    obtain ⟨g, o, cc, T, fr, sm, rfl, hmem, hrow, hsm⟩ := msg_at hatz hmz
    by_cases hk5 : m.kind = 5
    rotate_left
    · (repeat' (first | refine nI ?_ | (refine nA ?_; intro _) | refine nY ?_ | refine WA_alt ?_ ?_ | refine nR ?_ | refine WC_drawL (id := 16) (ops := o9x16K19) r9x16K19 (by kernel_rfl) rfl ?_ | refine WC_cond rfl (fun hc => ?_) (fun hc => ?_)))
      exact loopQ_next ⟨mz - 1, _, _, by omega, by exact kQ, by exact kL, k + 1, z, kc, cs, sv, some ⟨g, o, none⟩, cl, ps, ss, ms, X, by omega, rfl, rfl, by exact ⟨htz, hokz, htkz.up (by omega), hatz⟩⟩
    by_cases hsv : m.serv = 4 + r
    rotate_left
    · (repeat' (first | refine nI ?_ | (refine nA ?_; intro _) | refine nY ?_ | refine WA_alt ?_ ?_ | refine nR ?_ | refine WC_drawL (id := 16) (ops := o9x16K19) r9x16K19 (by kernel_rfl) rfl ?_ | refine WC_cond rfl (fun hc => ?_) (fun hc => ?_)))
      exact loopQ_next ⟨mz - 1, _, _, by omega, by exact kQ, by exact kL, k + 1, z, kc, cs, sv, some ⟨g, o, none⟩, cl, ps, ss, ms, X, by omega, rfl, rfl, by exact ⟨htz, hokz, htkz.up (by omega), hatz⟩⟩
    obtain ⟨x, hx⟩ : ∃ x, bring z k = x := ⟨_, rfl⟩
    have hst2 : step z ⟨4, k, 0, Msg.zero⟩ = x := by rw [step_bring]; exact hx
    have hlate := bring_late hokz htz hmy hk5 (by rw [hsv]; have h1 := hfs.1; have h2 := hfs.2.2.2; omega)
    rw [hx] at hlate
    have hokx : WOk x := hst2 ▸ step_ok hokz
    have htkx : TookLe (71 + k + 1) x := hst2 ▸ took_step htkz
    (repeat' (first | refine nI ?_ | (refine nA ?_; intro _) | (refine nW ?_; first | (refine op_call_id ?_; refine op_call rfl (c_worldDo hst2 _ ps ss ms (hatz.mono (by exact kS)) hokz (htkz.up (by omega)) Sl.nil SliceAt.nil) rfl ?_; rintro _ _ ⟨⟨kc9, cs9, sv9, ⟨al9, nl9, cl9⟩⟩, ps9, ss9, ms9, ek9, ec9, ca9, es9, sa9, el9, la9, rfl, ho9, rfl⟩)) | refine nY ?_ | refine WA_alt ?_ ?_ | refine nR ?_ | refine WC_drawL (id := 16) (ops := o9x16K19) r9x16K19 (by kernel_rfl) rfl ?_ | refine WC_cond rfl (fun hc => ?_) (fun hc => ?_)))
    have hat9 := ho9.at
    have hnl9 := log_len hat9
    rw [hlate.1.log, hfs.2.2.1] at hnl9
    subst hnl9
    exact loopQ_next ⟨mz - 1, _, _, by omega, by exact kQ, by exact kL, k + 1, x, kc9, cs9, sv9, al9, cl9, ps9, ss9, ms9, wldE ek9 ec9 ca9 es9 sa9 el9 la9, by omega, rfl, rfl, by exact ⟨hlate.1, hokx, htkx, hat9⟩⟩
  · obtain ⟨htz, hokz, htkz, hatz⟩ := hin
    have htt := (htz.took _ hid).1.trans hfs.2.1
    obtain ⟨g, o, cc, T, fr, cap, sc, st, rfl, hmem, hrow, hsst⟩ := srv_at hatz hokz hid
    obtain ⟨g1, o1, cc1, T1, fr1, cap1, sc1, st1, rfl, hmem1, hrow1, hsst1⟩ := srv_at hat1 hok hid
    (repeat' (first | refine nI ?_ | (refine nA ?_; intro _) | (refine nW ?_; first | (refine op_call_id ?_; refine op_ro rfl rfl (by exact (c_laws.lbCalls st st1 _ _ (hsst.t.mono (by exact kS)) (hsst1.t.mono (by exact kS))).eq (congrArg B (decide_eq_true htt))) ?_)) | refine nY ?_ | refine WA_alt ?_ ?_ | refine nR ?_ | refine WC_drawL (id := 16) (ops := o9x16K19) r9x16K19 (by kernel_rfl) rfl ?_ | refine WC_cond rfl (fun hc => ?_) (fun hc => ?_)))
    refine ro_ret (by exact kR) (by exact kL) ?_; rfl
end Go.Proofs.YtkdlkclanlkebaaGreat
/- The law FnWorldFall: for all that comes in the call returns true, and what came in reads as before. No condition. (The frame by the kit's program, the walk by ours.) -/
namespace Go.Proofs.YtkdlkclanlkebaaGreat.fnWorldFall
open Go.ChangeShapes Go.WideShapes Go.ChangeAt Go.RowKit
open Go.ChangeMaps (open_string shut_string)
set_option linter.unusedVariables false

theorem own : ownKnob Tryz.prog.godebug = none := by kernel_rfl
theorem laidOut : laidOutB Tryz.prog = true := by kernel_rfl

def IsRow (k : IntKind) (w : Go.World) (a : Option Addr) (len cap : Nat) (zs : List Int) : Prop :=
  (a = none ∧ len = 0 ∧ cap = 0 ∧ zs = []) ∨
  ∃ x, a = some x ∧ len ≤ cap ∧ cap ≤ maxLen ∧ zs.length = cap ∧ (∀ i, i < zs.length → w.cell? (x.add i) = some (.int k (zs.getD i 0))) ∧ ∀ n ∈ zs, (Lit.int k n).wf = true

theorem walk (a0 : Option Addr) (len0 cap0 : Nat) (z0 : List Int) (a1 : Option Addr) (len1 cap1 : Nat) (z1 : List Int) (w : Go.World) (w0 : IsRow .u8 w a0 len0 cap0 z0) (w1 : IsRow .u8 w a1 len1 cap1 z1) :
    Calls Tryz.prog 9 #[.slice a0 len0 cap0, .slice a1 len1 cap1] w fun e w' => e = .returned (.bool true) ∧ Below w.heap.size w w' := by
  exact walk_of (by
    by_cases hb : 1048576 < len0 ∨ 1048576 < len1
    · exact c_FnWorldFallBig a0 a1 len0 cap0 len1 cap1 hb
    · exact c_FnWorldFall1 a0 a1 len0 cap0 len1 cap1 (z0.take len0) (bytes_at w0) (by omega) (by omega))

set_option maxRecDepth 100000 in
theorem lifted (os : Os) (started : os.Started) (H : Type) (enc : TypeId × Value → H) :
    ReturnsInHanded {} Tryz.checked os 9 .any (Rows.fnWorldFallSpec.pre6 enc Tryz.prog Tryz.f9 Rows.fnWorldFallRow.domain false) (Rows.fnWorldFallSpec.post enc Tryz.prog Tryz.f9 false true false false) := by
  refine returnsInHanded_of_change (C := Tryz.checked) own started (by kernel_rfl) Tryz.func9
    (ChangeSpec.witness6 (enc := enc) (C := Tryz.checked) false ⟨#[], #[.slice none 0 0, .slice none 0 0], []⟩ 8 (by kernel_rfl) (by kernel_rfl) (by kernel_rfl) (by kernel_rfl)) ?_
  intro W base args ds gs before hval0 hW hcnd _
  have hval : ∀ (j : Nat) t v, Tryz.f9.params[j]? = some t → args[j]? = some v → Value.okWide Tryz.prog W .any base t v := hval0
  have hW' := hW
  obtain ⟨p, q, hA0, hV, rfl, hfz, hnd⟩ := hW
  have hA : DataW.TrodAll enc Tryz.prog W 0 (fun _ => true) true Tryz.f9.params.toList args.toList ds p := hA0
  rw [Tryz.params9] at hA hval
  obtain ⟨v0, vs0, d0, ds0, p0, q0, hargs, rfl, rfl, h0, r0⟩ := trodAll_cons hA
  obtain ⟨v1, vs1, d1, ds1, p1, q1, rfl, rfl, rfl, h1, r1⟩ := trodAll_cons r0
  obtain ⟨rfl, rfl, rfl⟩ := trodAll_nil r1
  obtain rfl : args = #[v0, v1] := by cases args; simp_all
  obtain ⟨rfl, rfl⟩ := trodVars_none hV
  obtain ⟨a0, len0, cap0, rfl⟩ := okWide_slice Tryz.underlying22 (hval 0 22 v0 rfl rfl)
  have k0 := h0
  have lt0 : ∀ x ∈ p0, x.block < W.heap.size := by obtain ⟨m, hm⟩ := k0; exact DataW.trod_lt m _ _ _ hm
  obtain ⟨z0, w0⟩ : ∃ zs, IsRow .u8 W a0 len0 cap0 zs := by
    obtain ⟨fuel, hf⟩ := h0
    rcases open_ints Tryz.underlying22 Tryz.underlying5 (by kernel_rfl) hf with ⟨hcs, _⟩ | ⟨x, l, c, zs, hcs, _, hl, hm, hz, _, hcell, hwz⟩
    · simp [Value.cells] at hcs
      obtain ⟨rfl, rfl, rfl⟩ := hcs
      exact ⟨[], .inl ⟨rfl, rfl, rfl, rfl⟩⟩
    · simp [Value.cells] at hcs
      obtain ⟨rfl, rfl, rfl⟩ := hcs
      exact ⟨zs, .inr ⟨_, rfl, hl, hm, by simpa using hz, hcell, hwz⟩⟩
  obtain ⟨a1, len1, cap1, rfl⟩ := okWide_slice Tryz.underlying22 (hval 1 22 v1 rfl rfl)
  have k1 := h1
  have lt1 : ∀ x ∈ p1, x.block < W.heap.size := by obtain ⟨m, hm⟩ := k1; exact DataW.trod_lt m _ _ _ hm
  obtain ⟨z1, w1⟩ : ∃ zs, IsRow .u8 W a1 len1 cap1 zs := by
    obtain ⟨fuel, hf⟩ := h1
    rcases open_ints Tryz.underlying22 Tryz.underlying5 (by kernel_rfl) hf with ⟨hcs, _⟩ | ⟨x, l, c, zs, hcs, _, hl, hm, hz, _, hcell, hwz⟩
    · simp [Value.cells] at hcs
      obtain ⟨rfl, rfl, rfl⟩ := hcs
      exact ⟨[], .inl ⟨rfl, rfl, rfl, rfl⟩⟩
    · simp [Value.cells] at hcs
      obtain ⟨rfl, rfl, rfl⟩ := hcs
      exact ⟨zs, .inr ⟨_, rfl, hl, hm, by simpa using hz, hcell, hwz⟩⟩
  clear hA0 hval0
  refine (walk a0 len0 cap0 z0 a1 len1 cap1 z1 W w0 w1).mono fun e W' ⟨he, bel⟩ => ?_
  subst he
  exact ⟨_, rfl, _, _, _, [], _, [], hW', trodAll_mk1 (shut_bool Tryz.underlying4 _), (trodAll_cons_mk (Below.trod laidOut (by kernel_rfl) (of_decide_eq_true (by kernel_rfl)) k0 bel lt0) (trodAll_cons_mk (Below.trod laidOut (by kernel_rfl) (of_decide_eq_true (by kernel_rfl)) k1 bel lt1) trodAll_mk0)), rfl, bel.frame _, fun h => by cases h⟩

theorem closed : joinedFacts Tryz.prog 9 Tryz.f9 Rows.fnWorldFallSpec Rows.fnWorldFallRow = true := by
  unfold joinedFacts
  iterate 31 (refine and_t ?_ ?_)
  · kernel_rfl
  · kernel_rfl
  · kernel_rfl
  · kernel_rfl
  · kernel_rfl
  · kernel_rfl
  · kernel_rfl
  · kernel_rfl
  · kernel_rfl
  · kernel_rfl
  · kernel_rfl
  · kernel_rfl
  · kernel_rfl
  · kernel_rfl
  · kernel_rfl
  · kernel_rfl
  · kernel_rfl
  · kernel_rfl
  · kernel_rfl
  · kernel_rfl
  · kernel_rfl
  · kernel_rfl
  · kernel_rfl
  · kernel_rfl
  · kernel_rfl
  · exact may_enter
  · rw [lifts_final]; kernel_rfl
  · rw [make_is]; kernel_rfl
  · kernel_rfl
  · kernel_rfl
  · kernel_rfl
  · kernel_rfl
theorem over : Rows.fnWorldFallRow.holds Tryz.pinned (OpenSpec.ofChange Rows.fnWorldFallSpec) :=
  OpenClaim.holds_of_wide 9 Tryz.f9 rfl rfl rfl rfl rfl rfl rfl ⟨rfl, rfl, rfl, rfl, rfl⟩ rfl rfl rfl rfl rfl (by kernel_rfl) Tryz.func9 closed
    (of_decide_eq_true (by kernel_rfl)) (by unfold Func.isWrapper; first | (rw [if_pos (by decide +kernel)]; kernel_rfl) | (rw [if_neg (by decide +kernel)]; exact ⟨rfl, rfl⟩))
    (fun os started H enc _ => lifted os started H enc)

theorem proved : Rows.FnWorldFallSaid := over
end Go.Proofs.YtkdlkclanlkebaaGreat.fnWorldFall
