/- The law: while nobody meddles who calls is met. -/
import Derived.Test.YtkdlkclanlkebaaGreatRows
import Derived.WalkKit
import Derived.ProofKit
import Derived.OpenShut
import Derived.ShutString
import Derived.ChangeOld
import Derived.Below
import Derived.Test.YtkdlkclanlkebaaGreatA11
import Derived.Test.YtkdlkclanlkebaaGreatA12
import Derived.Test.YtkdlkclanlkebaaGreatA3
import Derived.Test.YtkdlkclanlkebaaGreatA14
set_option linter.unusedVariables false
set_option linter.unusedSectionVars false
set_option linter.unusedSimpArgs false
namespace Go.Proofs.YtkdlkclanlkebaaGreat
open Go Go.Proofs Go.Proofs.YtkdlkclanlkebaaGreat.VE
attribute [local irreducible] Val Op1 WO WR WA WC seqQ blockQ loopQ retQ
noncomputable def o11x20K21 : Array Oper := cops (cl (cr (cr (cr (cr (cr (cr (cr (cr (cr (cr (cr (cr (cr (cr (cr (cr (codeOf Tryz.f11))))))))))))))))))
noncomputable def r11x20K21 : Run := (.st 0 0 (.st 1 0 (.st 2 0 (.st 3 1 (.st 4 0 (.st 5 0 (.st 6 1 (.st 7 0 (.st 8 1 (.st 9 0 (.st 10 1 (.st 11 0 (.st 12 0 (.st 13 0 (.st 14 0 (.st 15 1 (.st 16 0 (.st 17 0 (.st 18 0 (.st 19 0 (.st 20 0 (.st 21 1 (.st 22 0 (.st 23 1 (.st 24 0 (.st 25 0 (.st 26 0 (.st 27 0 (.st 28 0 (.st 29 1 (.st 30 0 (.st 31 1 (.st 32 0 (.st 33 0 (.st 34 0 (.st 35 0 .done))))))))))))))))))))))))))))))))))))
set_option maxHeartbeats 8000000
set_option maxRecDepth 20000
theorem eqT_call_t (x : Call) : EqT Tryz.prog 42 (callV x) (callV x) true := by
  have h := eqT_call x x
  rwa [decide_eq_true rfl] at h
theorem c_FnWorldMeetBig {L : List Ent} (a a' : Option Addr) (n c n' c' : Nat) (hn : 1048576 < n ∨ 1048576 < n') : RO Tryz.prog 11 [.slice a n c, .slice a' n' c'] L (B true) := by
  by_cases h1 : 1048576 < n
  · refine Tri.of Tryz.func11 rfl rfl Tryz.ntmps11 rfl rfl ?_
    (repeat' (first | refine nI ?_ | (refine nA ?_; intro _) | refine nY ?_ | refine WA_alt ?_ ?_ | refine nR ?_ | refine WC_drawL (id := 20) (ops := o11x20K21) r11x20K21 (by kernel_rfl) rfl ?_ | refine WC_cond rfl (fun hc => ?_) (fun hc => ?_)))
    refine ro_ret (by exact kR) (by exact kL) ?_; rfl
  · have h2 : 1048576 < n' := by omega
    refine Tri.of Tryz.func11 rfl rfl Tryz.ntmps11 rfl rfl ?_
    (repeat' (first | refine nI ?_ | (refine nA ?_; intro _) | refine nY ?_ | refine WA_alt ?_ ?_ | refine nR ?_ | refine WC_drawL (id := 20) (ops := o11x20K21) r11x20K21 (by kernel_rfl) rfl ?_ | refine WC_cond rfl (fun hc => ?_) (fun hc => ?_)))
    refine ro_ret (by exact kR) (by exact kL) ?_; rfl
theorem c_FnWorldMeet1 {L : List Ent} (a a' : Option Addr) (n c n' c' : Nat) (bs : List Int) (h : BytesIn L a n c bs) (hlen : n ≤ 1048576) (hlen' : n' ≤ 1048576) : RO Tryz.prog 11 [.slice a n c, .slice a' n' c'] L (B true) := by
  have hat := h.at_ hlen
  have hby := h.byte
  have hn := hat.1
  dsimp only at hn
  subst hn
  refine Tri.of Tryz.func11 rfl rfl Tryz.ntmps11 rfl rfl ?_
  (repeat' (first | refine nI ?_ | (refine nA ?_; intro _) | (refine nW ?_; first | (refine op_call_id ?_; refine op_call rfl (c_drawWorldPlay ⟨a, bs.length, c⟩ bs (hat.mono (by exact kS)) hby) rfl ?_; rintro _ _ ⟨bad, ⟨a2, n2, c2⟩, evs, ee, rfl, ⟨hse, hms⟩, rfl⟩)) | refine nY ?_ | refine WA_alt ?_ ?_ | refine nR ?_ | refine WC_drawL (id := 20) (ops := o11x20K21) r11x20K21 (by kernel_rfl) rfl ?_ | refine WC_cond rfl (fun hc => ?_) (fun hc => ?_)))
  by_cases hgo : within bad 0 3 = true ∧ evs.length ≤ 70
  rotate_left
  · (repeat' (first | refine nI ?_ | (refine nA ?_; intro _) | (refine nW ?_; first | (refine op_call_id ?_; refine op_ro rfl rfl (by first | exact c_worldPlay0 bad ⟨a2, n2, c2⟩ evs (hse.mono (by exact kS)) (not_go hgo) | exact c_sWorldPlay0 bad ⟨a2, n2, c2⟩ evs (hse.mono (by exact kS)) (not_go hgo) | exact c_lbWorldT World.zero WSl.nil WSl.nil [] [] [] [] [] [] (zeroAt _) (zeroAt _)) ?_) | refine op_val rfl (by first | exact val_neqB_f rfl rfl rfl | exact val_eqlB_t rfl rfl rfl) ?_) | (refine WR_id ?_; refine WR_pure rfl rfl rfl (by first | exact val_neqB_f rfl rfl rfl | exact val_eqlB_t rfl rfl rfl) ?_) | refine nY ?_ | refine WA_alt ?_ ?_ | refine nR ?_ | refine WC_drawL (id := 20) (ops := o11x20K21) r11x20K21 (by kernel_rfl) rfl ?_ | refine WC_cond rfl (fun hc => ?_) (fun hc => ?_)))
    refine ro_ret (by exact kR) (by exact kL) ?_; rfl
  obtain ⟨hb, h70⟩ := hgo
  have hn2 := hse.1
  dsimp only at hn2
  subst hn2
  obtain ⟨w, hw⟩ : ∃ w, play (worldNew bad) (evs.map Prod.fst) = w := ⟨_, rfl⟩
  have hplayed := played hb hw
  (repeat' (first | refine nI ?_ | (refine nA ?_; intro _) | (refine nW ?_; first | (refine op_call_id ?_; refine op_ro rfl rfl (by exact c_lbWorldT w q1 q2 ps1 ps2 ss1 ss2 ms1 ms2 (hown1.at.mono (by exact kS)) (hown2.at.mono (by exact kS))) ?_) | (refine op_call_id ?_; refine op_call rfl (c_worldPlayW (sev := ⟨a2, evs.length, c2⟩) (evs := evs) hw (hse.mono (by exact kS)) (fun p hp => (hms p hp).mono (by exact kS)) hb h70) rfl ?_; rintro _ _ ⟨q1, ps1, ss1, ms1, ek1, ec1, ca1, es1, sa1, el1, la1, rfl, hown1, rfl⟩) | (refine op_call_id ?_; refine op_call rfl (c_sWorldPlayW (sev := ⟨a2, evs.length, c2⟩) (evs := evs) hw (hse.mono (by exact kS)) (fun p hp => (hms p hp).mono (by exact kS)) hb h70) rfl ?_; rintro _ _ ⟨q2, ps2, ss2, ms2, ek2, ec2, ca2, es2, sa2, el2, la2, rfl, hown2, rfl⟩) | refine op_val rfl (by first | exact val_neqB_f rfl rfl rfl | exact val_eqlB_t rfl rfl rfl) ?_) | (refine WR_id ?_; refine WR_pure rfl rfl rfl (by first | exact val_neqB_f rfl rfl rfl | exact val_eqlB_t rfl rfl rfl) ?_) | refine nY ?_ | refine WA_alt ?_ ?_ | refine nR ?_ | refine WC_drawL (id := 20) (ops := o11x20K21) r11x20K21 (by kernel_rfl) rfl ?_ | refine WC_cond rfl (fun hc => ?_) (fun hc => ?_)))
  rename_i b7 b9
  have hinv := hplayed.inv
  have hok := hinv.ok
  have htk := hplayed.took.up h70
  have hwn := hok.now
  obtain ⟨kc1, cs1, sv1, ⟨al1, nl1, cl1⟩⟩ := q1
  have hat1 := hown1.at
  have hnl1 := log_len hat1
  subst hnl1
  have hll := hok.ll
  obtain ⟨ra, hra⟩ : ∃ r : Int, (n' : Int) % 3 = r := ⟨_, rfl⟩
  obtain ⟨rq, hrq⟩ : ∃ r : Int, (n' : Int) / 3 = r := ⟨_, rfl⟩
  obtain ⟨rb, hrb⟩ : ∃ r : Int, rq % 2 = r := ⟨_, rfl⟩
  have hra2 : 0 ≤ ra ∧ ra < 3 := by omega
  have hrb2 : 0 ≤ rb ∧ rb < 2 := by omega
  have ha : 1 ≤ 1 + ra ∧ 1 + ra ≤ 3 := by omega
  have hs : 4 ≤ 4 + rb ∧ 4 + rb ≤ 5 := by omega
  obtain ⟨x, hx⟩ : ∃ x, meet w (1 + ra) (4 + rb) = x := ⟨_, rfl⟩
  have hinvx : Inv x := hx ▸ meet_inv hinv
  have hokx := hinvx.ok
  have htkx : TookLe 79 x := hx ▸ meet_took htk
  obtain ⟨g1, o1, cc1, T1, fr1, cap1, s1, rfl, hmem1, hrow1, hcl1⟩ := cli_at hat1 hok ha
  obtain ⟨g2, o2, cc2, T2, fr2, cap2, sc2, st2, rfl, hmem2, hrow2, hss2⟩ := srv_at hat1 hok hs
  have hkn := hat1.kc.1
  have hcn := hss2.c.1
  have hmn := hcl1.m.1
  have htn := hss2.t.1
  have hmn' := hcl1.m.2.2.1
  have htn' := hss2.t.2.2.1
  dsimp only at hkn hcn hmn htn hmn' htn'
  simp only [big] at hmn' htn'
  have hnx := hok.kdc.next
  have hcnum := (clientOf_ok hok ha).1.num
  have hbe := hplayed.bad
  (repeat' (first | refine nI ?_ | (refine nA ?_; intro _) | (refine nW ?_; first | refine op_val rfl (by first | exact val_remE rfl rfl (by omega) (by omega) hra | exact val_quoE rfl rfl (by omega) (by omega) (by omega) hrq | exact val_remE rfl rfl (by omega) (by omega) hrb) ?_) | (refine WR_id ?_; refine WR_pure rfl rfl rfl (by first | exact val_remE rfl rfl (by omega) (by omega) hra | exact val_quoE rfl rfl (by omega) (by omega) (by omega) hrq | exact val_remE rfl rfl (by omega) (by omega) hrb) ?_) | refine nY ?_ | refine WA_alt ?_ ?_ | refine WC_regionN [11] rfl ?_ | refine WC_block ?_ | refine WC_drawL (id := 20) (ops := o11x20K21) r11x20K21 (by kernel_rfl) rfl ?_ | refine WC_cond rfl (fun hc => ?_) (fun hc => ?_)))
  by_cases g1 : 1 + ra = bad
  · (repeat' (first | refine nI ?_ | (refine nA ?_; intro _) | refine nY ?_ | refine WA_alt ?_ ?_ | refine nR ?_ | refine WC_drawL (id := 20) (ops := o11x20K21) r11x20K21 (by kernel_rfl) rfl ?_ | refine WC_cond rfl (fun hc => ?_) (fun hc => ?_)))
    refine ro_ret (by exact kR) (by exact kL) ?_; rfl
  by_cases g2 : w.now = 100
  · (repeat' (first | refine nI ?_ | (refine nA ?_; intro _) | refine nY ?_ | refine WA_alt ?_ ?_ | refine nR ?_ | refine WC_drawL (id := 20) (ops := o11x20K21) r11x20K21 (by kernel_rfl) rfl ?_ | refine WC_cond rfl (fun hc => ?_) (fun hc => ?_)))
    refine ro_ret (by exact kR) (by exact kL) ?_; rfl
  by_cases g3 : 60 < w.kdc.next + 1
  · (repeat' (first | refine nI ?_ | (refine nA ?_; intro _) | refine nY ?_ | refine WA_alt ?_ ?_ | refine nR ?_ | refine WC_drawL (id := 20) (ops := o11x20K21) r11x20K21 (by kernel_rfl) rfl ?_ | refine WC_cond rfl (fun hc => ?_) (fun hc => ?_)))
    refine ro_ret (by exact kR) (by exact kL) ?_; rfl
  by_cases g4 : 60 < (clientOf w (1 + ra)).num + 4
  · (repeat' (first | refine nI ?_ | (refine nA ?_; intro _) | refine nY ?_ | refine WA_alt ?_ ?_ | refine nR ?_ | refine WC_drawL (id := 20) (ops := o11x20K21) r11x20K21 (by kernel_rfl) rfl ?_ | refine WC_cond rfl (fun hc => ?_) (fun hc => ?_)))
    refine ro_ret (by exact kR) (by exact kL) ?_; rfl
  by_cases g5 : 80 < w.log.length + 6
  · (repeat' (first | refine nI ?_ | (refine nA ?_; intro _) | refine nY ?_ | refine WA_alt ?_ ?_ | refine nR ?_ | refine WC_drawL (id := 20) (ops := o11x20K21) r11x20K21 (by kernel_rfl) rfl ?_ | refine WC_cond rfl (fun hc => ?_) (fun hc => ?_)))
    refine ro_ret (by exact kR) (by exact kL) ?_; rfl
  by_cases g6 : w.kdc.cache.length = 20
  · (repeat' (first | refine nI ?_ | (refine nA ?_; intro _) | refine nY ?_ | refine WA_alt ?_ ?_ | refine nR ?_ | refine WC_drawL (id := 20) (ops := o11x20K21) r11x20K21 (by kernel_rfl) rfl ?_ | refine WC_cond rfl (fun hc => ?_) (fun hc => ?_)))
    refine ro_ret (by exact kR) (by exact kL) ?_; rfl
  by_cases g7 : (servOf w (4 + rb)).cache.length = 20
  · (repeat' (first | refine nI ?_ | (refine nA ?_; intro _) | refine nY ?_ | refine WA_alt ?_ ?_ | refine nR ?_ | refine WC_drawL (id := 20) (ops := o11x20K21) r11x20K21 (by kernel_rfl) rfl ?_ | refine WC_cond rfl (fun hc => ?_) (fun hc => ?_)))
    refine ro_ret (by exact kR) (by exact kL) ?_; rfl
  obtain ⟨m1, m2, m3⟩ := meet_good hinv ha (by rw [hbe]; exact g1) hs g2 (by omega) (by omega) (by omega) g6 g7
  rw [hx] at m1 m2 m3
  (repeat' (first | refine nI ?_ | (refine nA ?_; intro _) | (refine nW ?_; first | (refine op_call_id ?_; refine op_call rfl (c_worldMeetU hx _ ps1 ss1 ms1 (hat1.mono (by exact kS)) hok (htk.up (by omega))) rfl ?_; rintro _ _ ⟨kc3, cs3, sv3, al3, cl3, ps3, ss3, ms3, ek3, ec3, ca3, es3, sa3, el3, la3, rfl, ho3, rfl⟩)) | refine nY ?_ | refine WA_alt ?_ ?_ | refine nR ?_ | refine WC_drawL (id := 20) (ops := o11x20K21) r11x20K21 (by kernel_rfl) rfl ?_ | refine WC_cond rfl (fun hc => ?_) (fun hc => ?_)))
  have hat3 := ho3.at
  obtain ⟨g3, o3, cc3, T3, fr3, cap3, s3, rfl, hmem3, hrow3, hcl3⟩ := cli_at hat3 hokx ha
  obtain ⟨g4, o4, cc4, T4, fr4, cap4, sc4, st4, rfl, hmem4, hrow4, hss4⟩ := srv_at hat3 hokx hs
  obtain ⟨s3w, s3c, s3s, ⟨a3, n3, c3⟩⟩ := s3
  obtain ⟨a4, n4, c4⟩ := st4
  have hm3 := hcl3.m
  have ht4 := hss4.t
  dsimp only at hm3 ht4
  rw [m1] at hm3
  rw [m2] at ht4
  obtain ⟨hl3, _, hb3, hr3⟩ := hm3
  obtain ⟨hl4, _, hb4, hr4⟩ := ht4
  dsimp only at hl3 hl4 hr3 hr4
  simp only [big] at hb3 hb4
  subst hl3 hl4
  obtain ⟨g5, o5, cc5, T5, fr5, rfl, hmem5, hrow5⟩ := hr3 (by simp)
  obtain ⟨g6, o6, cc6, T6, fr6, rfl, hmem6, hrow6⟩ := hr4 (by simp)
  have hrow5' := hrow5 (clientOf w (1 + ra)).met.length _ (List.getElem?_concat_length)
  have hrow6' := hrow6 (servOf w (4 + rb)).took.length _ (List.getElem?_concat_length)
  simp only [List.length_append, List.length_cons, List.length_nil] at *
  have e6 : (((servOf w (4 + rb)).took.length + (0 + 1) : Nat) - 1 : Int).toNat = (servOf w (4 + rb)).took.length := by omega
  rw [← hmn] at hrow5'
  rw [← e6] at hrow6'
  (repeat' (first | refine nI ?_ | (refine nA ?_; intro _) | refine nY ?_ | refine WA_alt ?_ ?_ | refine nR ?_ | refine WC_drawL (id := 20) (ops := o11x20K21) r11x20K21 (by kernel_rfl) rfl ?_ | refine WC_cond rfl (fun hc => ?_) (fun hc => ?_)))
  obtain ⟨X, hX⟩ : ∃ X : Call, X = ⟨4 + rb, w.kdc.next + 1, w.now + 1, (clientOf w (1 + ra)).num + 4⟩ := ⟨_, rfl⟩
  refine WR_id ?_; refine WR_pure rfl rfl rfl (v := B true) (by subst hX; exact val_eql_agg (p := callC _) (q := callC _) rfl rfl (eqT_call_t ⟨4 + rb, w.kdc.next + 1, w.now + 1, (clientOf w (1 + ra)).num + 4⟩)) ?_
  (repeat' (first | refine nI ?_ | (refine nA ?_; intro _) | refine nY ?_ | refine WA_alt ?_ ?_ | refine nR ?_ | refine WC_drawL (id := 20) (ops := o11x20K21) r11x20K21 (by kernel_rfl) rfl ?_ | refine WC_cond rfl (fun hc => ?_) (fun hc => ?_)))
  refine ro_ret (by exact kR) (by exact kL) ?_; rfl
end Go.Proofs.YtkdlkclanlkebaaGreat
/- The law FnWorldMeet: for all that comes in the call returns true, and what came in reads as before. No condition. (The frame by the kit's program, the walk by ours.) -/
namespace Go.Proofs.YtkdlkclanlkebaaGreat.fnWorldMeet
open Go.ChangeShapes Go.WideShapes Go.ChangeAt Go.RowKit
open Go.ChangeMaps (open_string shut_string)
set_option linter.unusedVariables false

theorem own : ownKnob Tryz.prog.godebug = none := by kernel_rfl
theorem laidOut : laidOutB Tryz.prog = true := by kernel_rfl

def IsRow (k : IntKind) (w : Go.World) (a : Option Addr) (len cap : Nat) (zs : List Int) : Prop :=
  (a = none ∧ len = 0 ∧ cap = 0 ∧ zs = []) ∨
  ∃ x, a = some x ∧ len ≤ cap ∧ cap ≤ maxLen ∧ zs.length = cap ∧ (∀ i, i < zs.length → w.cell? (x.add i) = some (.int k (zs.getD i 0))) ∧ ∀ n ∈ zs, (Lit.int k n).wf = true

theorem walk (a0 : Option Addr) (len0 cap0 : Nat) (z0 : List Int) (a1 : Option Addr) (len1 cap1 : Nat) (z1 : List Int) (w : Go.World) (w0 : IsRow .u8 w a0 len0 cap0 z0) (w1 : IsRow .u8 w a1 len1 cap1 z1) :
    Calls Tryz.prog 11 #[.slice a0 len0 cap0, .slice a1 len1 cap1] w fun e w' => e = .returned (.bool true) ∧ Below w.heap.size w w' := by
  exact walk_of (by
    by_cases hb : 1048576 < len0 ∨ 1048576 < len1
    · exact c_FnWorldMeetBig a0 a1 len0 cap0 len1 cap1 hb
    · exact c_FnWorldMeet1 a0 a1 len0 cap0 len1 cap1 (z0.take len0) (bytes_at w0) (by omega) (by omega))

set_option maxRecDepth 100000 in
theorem lifted (os : Os) (started : os.Started) (H : Type) (enc : TypeId × Value → H) :
    ReturnsInHanded {} Tryz.checked os 11 .any (Rows.fnWorldMeetSpec.pre6 enc Tryz.prog Tryz.f11 Rows.fnWorldMeetRow.domain false) (Rows.fnWorldMeetSpec.post enc Tryz.prog Tryz.f11 false true false false) := by
  refine returnsInHanded_of_change (C := Tryz.checked) own started (by kernel_rfl) Tryz.func11
    (ChangeSpec.witness6 (enc := enc) (C := Tryz.checked) false ⟨#[], #[.slice none 0 0, .slice none 0 0], []⟩ 8 (by kernel_rfl) (by kernel_rfl) (by kernel_rfl) (by kernel_rfl)) ?_
  intro W base args ds gs before hval0 hW hcnd _
  have hval : ∀ (j : Nat) t v, Tryz.f11.params[j]? = some t → args[j]? = some v → Value.okWide Tryz.prog W .any base t v := hval0
  have hW' := hW
  obtain ⟨p, q, hA0, hV, rfl, hfz, hnd⟩ := hW
  have hA : DataW.TrodAll enc Tryz.prog W 0 (fun _ => true) true Tryz.f11.params.toList args.toList ds p := hA0
  rw [Tryz.params11] at hA hval
  obtain ⟨v0, vs0, d0, ds0, p0, q0, hargs, rfl, rfl, h0, r0⟩ := trodAll_cons hA
  obtain ⟨v1, vs1, d1, ds1, p1, q1, rfl, rfl, rfl, h1, r1⟩ := trodAll_cons r0
  obtain ⟨rfl, rfl, rfl⟩ := trodAll_nil r1
  obtain rfl : args = #[v0, v1] := by cases args; simp_all
  obtain ⟨rfl, rfl⟩ := trodVars_none hV
  obtain ⟨a0, len0, cap0, rfl⟩ := okWide_slice Tryz.underlying22 (hval 0 22 v0 rfl rfl)
  have k0 := h0
  have lt0 : ∀ x ∈ p0, x.block < W.heap.size := by obtain ⟨m, hm⟩ := k0; exact DataW.trod_lt m _ _ _ hm
  obtain ⟨z0, w0⟩ : ∃ zs, IsRow .u8 W a0 len0 cap0 zs := by
    obtain ⟨fuel, hf⟩ := h0
    rcases open_ints Tryz.underlying22 Tryz.underlying5 (by kernel_rfl) hf with ⟨hcs, _⟩ | ⟨x, l, c, zs, hcs, _, hl, hm, hz, _, hcell, hwz⟩
    · simp [Value.cells] at hcs
      obtain ⟨rfl, rfl, rfl⟩ := hcs
      exact ⟨[], .inl ⟨rfl, rfl, rfl, rfl⟩⟩
    · simp [Value.cells] at hcs
      obtain ⟨rfl, rfl, rfl⟩ := hcs
      exact ⟨zs, .inr ⟨_, rfl, hl, hm, by simpa using hz, hcell, hwz⟩⟩
  obtain ⟨a1, len1, cap1, rfl⟩ := okWide_slice Tryz.underlying22 (hval 1 22 v1 rfl rfl)
  have k1 := h1
  have lt1 : ∀ x ∈ p1, x.block < W.heap.size := by obtain ⟨m, hm⟩ := k1; exact DataW.trod_lt m _ _ _ hm
  obtain ⟨z1, w1⟩ : ∃ zs, IsRow .u8 W a1 len1 cap1 zs := by
    obtain ⟨fuel, hf⟩ := h1
    rcases open_ints Tryz.underlying22 Tryz.underlying5 (by kernel_rfl) hf with ⟨hcs, _⟩ | ⟨x, l, c, zs, hcs, _, hl, hm, hz, _, hcell, hwz⟩
    · simp [Value.cells] at hcs
      obtain ⟨rfl, rfl, rfl⟩ := hcs
      exact ⟨[], .inl ⟨rfl, rfl, rfl, rfl⟩⟩
    · simp [Value.cells] at hcs
      obtain ⟨rfl, rfl, rfl⟩ := hcs
      exact ⟨zs, .inr ⟨_, rfl, hl, hm, by simpa using hz, hcell, hwz⟩⟩
  clear hA0 hval0
  refine (walk a0 len0 cap0 z0 a1 len1 cap1 z1 W w0 w1).mono fun e W' ⟨he, bel⟩ => ?_
  subst he
  exact ⟨_, rfl, _, _, _, [], _, [], hW', trodAll_mk1 (shut_bool Tryz.underlying4 _), (trodAll_cons_mk (Below.trod laidOut (by kernel_rfl) (of_decide_eq_true (by kernel_rfl)) k0 bel lt0) (trodAll_cons_mk (Below.trod laidOut (by kernel_rfl) (of_decide_eq_true (by kernel_rfl)) k1 bel lt1) trodAll_mk0)), rfl, bel.frame _, fun h => by cases h⟩

theorem closed : joinedFacts Tryz.prog 11 Tryz.f11 Rows.fnWorldMeetSpec Rows.fnWorldMeetRow = true := by
  unfold joinedFacts
  iterate 31 (refine and_t ?_ ?_)
  · kernel_rfl
  · kernel_rfl
  · kernel_rfl
  · kernel_rfl
  · kernel_rfl
  · kernel_rfl
  · kernel_rfl
  · kernel_rfl
  · kernel_rfl
  · kernel_rfl
  · kernel_rfl
  · kernel_rfl
  · kernel_rfl
  · kernel_rfl
  · kernel_rfl
  · kernel_rfl
  · kernel_rfl
  · kernel_rfl
  · kernel_rfl
  · kernel_rfl
  · kernel_rfl
  · kernel_rfl
  · kernel_rfl
  · kernel_rfl
  · kernel_rfl
  · exact may_enter
  · rw [lifts_final]; kernel_rfl
  · rw [make_is]; kernel_rfl
  · kernel_rfl
  · kernel_rfl
  · kernel_rfl
  · kernel_rfl
theorem over : Rows.fnWorldMeetRow.holds Tryz.pinned (OpenSpec.ofChange Rows.fnWorldMeetSpec) :=
  OpenClaim.holds_of_wide 11 Tryz.f11 rfl rfl rfl rfl rfl rfl rfl ⟨rfl, rfl, rfl, rfl, rfl⟩ rfl rfl rfl rfl rfl (by kernel_rfl) Tryz.func11 closed
    (of_decide_eq_true (by kernel_rfl)) (by unfold Func.isWrapper; first | (rw [if_pos (by decide +kernel)]; kernel_rfl) | (rw [if_neg (by decide +kernel)]; exact ⟨rfl, rfl⟩))
    (fun os started H enc _ => lifted os started H enc)

theorem proved : Rows.FnWorldMeetSaid := over
end Go.Proofs.YtkdlkclanlkebaaGreat.fnWorldMeet
