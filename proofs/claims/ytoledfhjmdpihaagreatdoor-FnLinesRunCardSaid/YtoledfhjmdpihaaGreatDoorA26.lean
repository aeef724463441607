/- The reference: a user meets a service; what was sent is told. -/
import Derived.Test.YtoledfhjmdpihaaGreatDoorA24
import Derived.Test.YtoledfhjmdpihaaGreatDoorA22
import Derived.Test.YtoledfhjmdpihaaGreatDoorA12
import Derived.Test.YtoledfhjmdpihaaGreatDoorA15
import Derived.Test.YtoledfhjmdpihaaGreatDoorA20
import Derived.Test.YtoledfhjmdpihaaGreatDoorA25
set_option linter.unusedVariables false
set_option linter.unusedSectionVars false
set_option linter.unusedSimpArgs false
namespace Go.Proofs.YtoledfhjmdpihaaGreatDoor
open Go Go.Proofs Go.Proofs.YtoledfhjmdpihaaGreatDoor.VE
attribute [local irreducible] Val Op1 WO WR WA WC seqQ blockQ loopQ retQ
noncomputable def o156x3T7 : Array Oper := cops (cl (cr (cr (codeOf Tryz.f156))))
noncomputable def o77x5T7 : Array Oper := cops (cl (cl (cr (cl (cl (cr (cl (cr (cr (codeOf Tryz.f77))))))))))
noncomputable def o78x3T7 : Array Oper := cops (cl (cr (cr (codeOf Tryz.f78))))
noncomputable def r156x3T7 : Run := (.st 0 1 (.st 1 0 (.st 2 1 (.st 3 0 (.st 4 1 (.st 5 0 (.st 6 0 (.st 7 0 (.st 8 1 (.st 9 2 (.st 10 3 (.st 11 3 .done))))))))))))
noncomputable def r77x5T7 : Run := (.st 0 0 (.st 1 0 (.st 5 0 (.st 6 1 (.st 7 0 (.st 8 0 (.st 9 1 (.st 2 2 (.st 3 0 (.st 4 0 (.st 10 3 (.st 11 0 (.st 12 0 .done)))))))))))))
noncomputable def r78x3T7 : Run := (.st 0 1 (.st 2 1 (.st 1 2 (.st 3 3 (.st 4 3 (.st 5 0 .done))))))
set_option maxHeartbeats 8000000
theorem c_sWorldKeys2 {L : List Ent} (w : World) (q : WSl) (ps : List (Client × CSl)) (ss : List (Serv × (Sl × Sl))) (ms : List (Msg × Sl)) (hat : WldAt L w q ps ss ms) (hok : WOk w) :
    Tri Tryz.prog 78 [worldV w q] L (fun v L' => ∃ s es, v = Sl.v s ∧ Row encInt 3 s (keysOf w) es ∧ L' = es ++ L) := by
  have hsl : (w.log.flatMap Msg.seals).length ≤ 1000 := by
    have h1 := seals_len w.log hok.ms
    have h2 := hok.ll
    omega
  refine Tri.of Tryz.func78 rfl rfl Tryz.ntmps78 rfl rfl ?_
  (repeat' (first | refine nI ?_ | (refine nA ?_; intro _) | (refine nW ?_; first | (refine op_call_id ?_; refine op_ro rfl rfl (by exact (c_sWorldOkN w q ps ss ms (hat.mono (by exact kS)) hok.n).eq (congrArg B (worldOk_t hok))) ?_) | (refine op_call_id ?_; refine op_call rfl (c_l21Bad w q) rfl ?_; rintro _ _ ⟨⟨ao, no, co⟩, eo, rfl, hro, rfl⟩) | (refine op_call_id ?_; refine op_call rfl (c_l21Seals w q ms (hat.mr.mono (by exact kS)) hat.me (fun p hp => (hat.ma p hp).mono (by exact kS)) hsl) rfl ?_; rintro _ _ ⟨⟨al, nl, cl⟩, es2, rfl, hrs, rfl⟩) | (refine op_call_id ?_; refine op_call rfl (c_sKnowKeys ⟨ao, no, co⟩ ⟨al, nl, cl⟩ (own w) (worldSeals w) (hro.atL (by exact kS)) (hrs.atL (by exact kS))) rfl ?_; rintro _ _ ⟨sk, ek, rfl, hrk, rfl⟩)) | refine nY ?_ | refine WA_alt ?_ ?_ | refine nR ?_ | refine WC_drawL (id := 3) (ops := o78x3T7) r78x3T7 (by kernel_rfl) rfl ?_ | refine WC_cond rfl (fun hc => ?_) (fun hc => ?_)))
  refine ret_ret (by exact kR) ?_; exact ⟨ek ++ L, by exact kP, sk, ek, rfl, hrk, rfl⟩
theorem c_l21Last {L L0 : List Ent} (w : World) (q : WSl) (ps : List (Client × CSl)) (ss : List (Serv × (Sl × Sl))) (ms : List (Msg × Sl)) (ek ec ca es sa el la : List Ent) (hL : L.Perm (wldE ek ec ca es sa el la ++ L0)) (hw : WOk w) (hown : WldOwn w q ps ss ms ek ec ca es sa el la) (hte : TookLe 1500000 w) (n : Nat) :
    Tri Tryz.prog 156 [worldV w q, I (n : Int)] L (WldV L0 (last n w)) := by
  refine Tri.perm ?_ hL
  have hl := ms_len hown
  have hll := hw.ll
  obtain ⟨kc, cs, ss', ⟨a, nl, cap⟩⟩ := q
  have hn := hown.mr.n
  dsimp only at hn
  rw [hl] at hn
  subst hn
  by_cases hlt : n < w.log.length
  rotate_left
  · rw [last_none (by omega)]
    refine Tri.of Tryz.func156 rfl rfl Tryz.ntmps156 rfl rfl ?_
    (repeat' (first | refine nI ?_ | (refine nA ?_; intro _) | refine nY ?_ | refine WA_alt ?_ ?_ | refine nR ?_ | refine WC_drawL (id := 3) (ops := o156x3T7) r156x3T7 (by kernel_rfl) rfl ?_ | refine WC_cond rfl (fun hc => ?_) (fun hc => ?_)))
    refine ret_ret (by exact kR) ?_; exact ⟨wldE ek ec ca es sa el la ++ L0, by exact kP, _, ps, ss, ms, ek, ec, ca, es, sa, el, la, rfl, hown, rfl⟩
  obtain ⟨m, hm0⟩ : ∃ m, w.log[((w.log.length : Int) - 1).toNat]? = some m := ⟨w.log[((w.log.length : Int) - 1).toNat]'(by omega), List.getElem?_eq_getElem _⟩
  have hmok := hw.ms m (List.mem_of_getElem? hm0)
  have hml := msgOk_len hmok
  have he : last n w = bringMsg w m := by
    unfold last
    rw [if_pos hlt]
    unfold bring
    rw [if_pos (by omega)]
    have h : w.log.getD ((w.log.length : Int) - 1).toNat Msg.zero = m := getD_some hm0
    rw [h]
  rw [he]
  obtain ⟨sm, hms, hsm⟩ := hown.msg hm0
  obtain ⟨b', o', cc, T', fr, ha', hmem, hrow⟩ := hown.mr.at.2.2.2 (by omega)
  replace ha' : a = _ := ha'
  subst ha'
  have hrow' := hrow ((w.log.length : Int) - 1).toNat (m, sm) hms
  have hel : (b', Obj.cells cc.toArray T' fr) ∈ wldE ek ec ca es sa el la ++ L0 := List.mem_append_left _ (by exact kM)
  have hsm' : MsgAt (wldE ek ec ca es sa el la ++ L0) m sm := hsm.mono fun e he => List.mem_append_left _ (by exact kM)
  refine Tri.of Tryz.func156 rfl rfl Tryz.ntmps156 rfl rfl ?_
  (repeat' (first | refine nI ?_ | (refine nA ?_; intro _) | refine nY ?_ | refine WA_alt ?_ ?_ | refine nR ?_ | refine WC_cond rfl (fun hc => ?_) (fun hc => ?_)))
  rename_i b2 b4
  (repeat' (first | refine nI ?_ | (refine nA ?_; intro _) | (refine nW ?_; first | (refine op_call_id ?_; refine op_call rfl (c_l21MsgCopy m sm (hsm'.mono (by exact kS)) (by simp only [lim]; omega)) rfl ?_; rintro _ _ ⟨sm9, em9, rfl, hr9, rfl⟩) | (refine op_call_id ?_; refine op_call rfl (c_l21BringP w ⟨kc, cs, ss', ⟨some ⟨b', o', none⟩, w.log.length, cap⟩⟩ ps ss ms ek ec ca es sa el la (by exact kE) hw hown hte m sm9 (hr9.atL (by exact kS)) hmok) rfl ?_; rintro _ _ ⟨q8, ps8, ss8, ms8, ek8, ec8, ca8, es8, sa8, el8, la8, rfl, ho8, rfl⟩)) | refine nY ?_ | refine WA_alt ?_ ?_ | refine nR ?_ | refine WC_draw (id := 3) (ops := o156x3T7) ([(b2, cellsO (worldC w ⟨kc, cs, ss', ⟨some ⟨b', o', none⟩, w.log.length, cap⟩⟩) 62), (b', Obj.cells cc.toArray T' fr)]) r156x3T7 (by kernel_rfl) rfl ?_ | refine WC_cond rfl (fun hc => ?_) (fun hc => ?_)))
  refine ret_ret (by exact kR) ?_; exact ⟨wldE ek8 ec8 ca8 es8 sa8 el8 la8 ++ L0, by exact kP, q8, ps8, ss8, ms8, ek8, ec8, ca8, es8, sa8, el8, la8, rfl, ho8, rfl⟩
theorem c_l21Round {L L0 : List Ent} (w : World) (q : WSl) (ps : List (Client × CSl)) (ss : List (Serv × (Sl × Sl))) (ms : List (Msg × Sl)) (ek ec ca es sa el la : List Ent) (hL : L.Perm (wldE ek ec ca es sa el la ++ L0)) (hw : WOk w) (hown : WldOwn w q ps ss ms ek ec ca es sa el la) (hte : TookLe 1499990 w) (k a b : Int) (hk : k = 1 ∨ k = 2 ∨ k = 3) {x : World} (hx : phase w k a b = x) :
    Tri Tryz.prog 108 [worldV w q, eventV ⟨k, a, b, Msg.zero⟩ Sl.nil] L (WldV L0 x) := by
  refine Tri.perm ?_ hL
  obtain ⟨x1, hx1⟩ : ∃ x1, asks w k a b = x1 := ⟨_, rfl⟩
  obtain ⟨x2, hx2⟩ : ∃ x2, last w.log.length x1 = x2 := ⟨_, rfl⟩
  have hx3 : last (w.log.length + 1) x2 = x := by rw [← hx, ← hx2, ← hx1]; rfl
  have o1 : WOk x1 := hx1 ▸ asks_ok hw
  have o2 : WOk x2 := hx2 ▸ last_ok o1
  have t1 : TookLe 1499991 x1 := hx1 ▸ asks_took hk hte
  have t2 : TookLe 1499992 x2 := hx2 ▸ last_took t1
  have hdo : ∀ {L1 L0 : List Ent} (q : WSl) (ps : List (Client × CSl)) (ss : List (Serv × (Sl × Sl))) (ms : List (Msg × Sl)) (ek ec ca es sa el la : List Ent) (hL : L1.Perm (wldE ek ec ca es sa el la ++ L0)) (hown : WldOwn w q ps ss ms ek ec ca es sa el la),
      Tri Tryz.prog 80 [worldV w q, eventV ⟨k, a, b, Msg.zero⟩ Sl.nil] L1 (WldV L0 x1) := fun q ps ss ms ek ec ca es sa el la hL hown => by
    have h := c_l21DoP w q ps ss ms ek ec ca es sa el la hL hw hown (hte.up (by omega)) ⟨k, a, b, Msg.zero⟩ Sl.nil SliceAt.nil
    rw [← asks_step hk, hx1] at h
    exact h
  have hl2 : ∀ {L1 L0 : List Ent} (q : WSl) (ps : List (Client × CSl)) (ss : List (Serv × (Sl × Sl))) (ms : List (Msg × Sl)) (ek ec ca es sa el la : List Ent) (hL : L1.Perm (wldE ek ec ca es sa el la ++ L0)) (hown : WldOwn x1 q ps ss ms ek ec ca es sa el la),
      Tri Tryz.prog 156 [worldV x1 q, I (w.log.length : Int)] L1 (WldV L0 x2) := fun q ps ss ms ek ec ca es sa el la hL hown => hx2 ▸ c_l21Last x1 q ps ss ms ek ec ca es sa el la hL o1 hown (t1.up (by omega)) w.log.length
  have hl3 : ∀ {L1 L0 : List Ent} (q : WSl) (ps : List (Client × CSl)) (ss : List (Serv × (Sl × Sl))) (ms : List (Msg × Sl)) (ek ec ca es sa el la : List Ent) (hL : L1.Perm (wldE ek ec ca es sa el la ++ L0)) (hown : WldOwn x2 q ps ss ms ek ec ca es sa el la),
      Tri Tryz.prog 156 [worldV x2 q, I ((w.log.length : Int) + 1)] L1 (WldV L0 x) := fun q ps ss ms ek ec ca es sa el la hL hown => hx3 ▸ c_l21Last x2 q ps ss ms ek ec ca es sa el la hL o2 hown (t2.up (by omega)) (w.log.length + 1)
  clear hx hx1 hx2 hx3
  have hl := ms_len hown
  have hll := hw.ll
  obtain ⟨kc, cs, ss', ⟨al, nl, cap⟩⟩ := q
  have hn := hown.mr.n
  dsimp only at hn
  rw [hl] at hn
  subst hn
  refine Tri.of Tryz.func108 rfl rfl Tryz.ntmps108 rfl rfl ?_
  (repeat' (first | refine nI ?_ | (refine nA ?_; intro _) | (refine nW ?_; first | (refine op_call_id ?_; refine op_call rfl (hdo _ ps ss ms ek ec ca es sa el la (by exact kE) hown) rfl ?_; rintro _ _ ⟨q1, ps1, ss1, ms1, ek1, ec1, ca1, es1, sa1, el1, la1, rfl, ho1, rfl⟩) | (refine op_call_id ?_; refine op_call rfl (hl2 q1 ps1 ss1 ms1 ek1 ec1 ca1 es1 sa1 el1 la1 (by exact kE) ho1) rfl ?_; rintro _ _ ⟨q2, ps2, ss2, ms2, ek2, ec2, ca2, es2, sa2, el2, la2, rfl, ho2, rfl⟩) | (refine op_call_id ?_; refine op_call rfl (hl3 q2 ps2 ss2 ms2 ek2 ec2 ca2 es2 sa2 el2 la2 (by exact kE) ho2) rfl ?_; rintro _ _ ⟨q3, ps3, ss3, ms3, ek3, ec3, ca3, es3, sa3, el3, la3, rfl, ho3, rfl⟩)) | refine nY ?_ | refine nR ?_ | refine WC_cond rfl (fun hc => ?_) (fun hc => ?_)))
  refine ret_ret (by exact kR) ?_; exact ⟨wldE ek3 ec3 ca3 es3 sa3 el3 la3 ++ L0, by exact kP, q3, ps3, ss3, ms3, ek3, ec3, ca3, es3, sa3, el3, la3, rfl, ho3, rfl⟩
theorem phase_as (w : World) (a b : Int) : phase w 1 a b = phase w 1 a 0 := by simp [phase, asks, ask]
theorem c_sWorldMeet {L : List Ent} (w : World) (q : WSl) (ps : List (Client × CSl)) (ss : List (Serv × (Sl × Sl))) (ms : List (Msg × Sl)) (hat : WldAt L w q ps ss ms) (hok : WOk w) (hte : TookLe 1499900 w) (a b : Int) {x : World} (hx : meet w a b = x) :
    Tri Tryz.prog 75 [worldV w q, I a, I b] L (WldV L x) := by
  have hlim := wlim_of hok hte (by omega)
  obtain ⟨x0, hx0⟩ : ∃ x0, tick w = x0 := ⟨_, rfl⟩
  obtain ⟨x1, hx1⟩ : ∃ x1, phase x0 1 a 0 = x1 := ⟨_, rfl⟩
  obtain ⟨x2, hx2⟩ : ∃ x2, phase x1 2 a b = x2 := ⟨_, rfl⟩
  have hx3 : phase x2 3 a b = x := by rw [← hx, ← hx2, ← hx1, ← hx0]; unfold meet; rw [phase_as (tick w) a b]
  have o0 : WOk x0 := hx0 ▸ tick_ok hok
  have o1 : WOk x1 := hx1 ▸ phase_ok o0
  have o2 : WOk x2 := hx2 ▸ phase_ok o1
  have t0 : TookLe 1499900 x0 := hx0 ▸ tick_took hte
  have t1 : TookLe 1499903 x1 := hx1 ▸ phase_took (.inl rfl) t0
  have t2 : TookLe 1499906 x2 := hx2 ▸ phase_took (.inr (.inl rfl)) t1
  have hdo : ∀ {L1 L0 : List Ent} (q : WSl) (ps : List (Client × CSl)) (ss : List (Serv × (Sl × Sl))) (ms : List (Msg × Sl)) (ek ec ca es sa el la : List Ent) (hL : L1.Perm (wldE ek ec ca es sa el la ++ L0)) (hown : WldOwn w q ps ss ms ek ec ca es sa el la),
      Tri Tryz.prog 80 [worldV w q, eventV ⟨6, 0, 0, Msg.zero⟩ Sl.nil] L1 (WldV L0 x0) := fun q ps ss ms ek ec ca es sa el la hL hown => by
    have h := c_l21DoP w q ps ss ms ek ec ca es sa el la hL hok hown (hte.up (by omega)) ⟨6, 0, 0, Msg.zero⟩ Sl.nil SliceAt.nil
    rw [show step w ⟨6, 0, 0, Msg.zero⟩ = x0 by rw [← hx0]; simp [step]] at h
    exact h
  have hr1 : ∀ {L1 L0 : List Ent} (q : WSl) (ps : List (Client × CSl)) (ss : List (Serv × (Sl × Sl))) (ms : List (Msg × Sl)) (ek ec ca es sa el la : List Ent) (hL : L1.Perm (wldE ek ec ca es sa el la ++ L0)) (hown : WldOwn x0 q ps ss ms ek ec ca es sa el la),
      Tri Tryz.prog 108 [worldV x0 q, eventV ⟨1, a, 0, Msg.zero⟩ Sl.nil] L1 (WldV L0 x1) := fun q ps ss ms ek ec ca es sa el la hL hown => c_l21Round x0 q ps ss ms ek ec ca es sa el la hL o0 hown (t0.up (by omega)) 1 a 0 (.inl rfl) hx1
  have hr2 : ∀ {L1 L0 : List Ent} (q : WSl) (ps : List (Client × CSl)) (ss : List (Serv × (Sl × Sl))) (ms : List (Msg × Sl)) (ek ec ca es sa el la : List Ent) (hL : L1.Perm (wldE ek ec ca es sa el la ++ L0)) (hown : WldOwn x1 q ps ss ms ek ec ca es sa el la),
      Tri Tryz.prog 108 [worldV x1 q, eventV ⟨2, a, b, Msg.zero⟩ Sl.nil] L1 (WldV L0 x2) := fun q ps ss ms ek ec ca es sa el la hL hown => c_l21Round x1 q ps ss ms ek ec ca es sa el la hL o1 hown (t1.up (by omega)) 2 a b (.inr (.inl rfl)) hx2
  have hr3 : ∀ {L1 L0 : List Ent} (q : WSl) (ps : List (Client × CSl)) (ss : List (Serv × (Sl × Sl))) (ms : List (Msg × Sl)) (ek ec ca es sa el la : List Ent) (hL : L1.Perm (wldE ek ec ca es sa el la ++ L0)) (hown : WldOwn x2 q ps ss ms ek ec ca es sa el la),
      Tri Tryz.prog 108 [worldV x2 q, eventV ⟨3, a, b, Msg.zero⟩ Sl.nil] L1 (WldV L0 x) := fun q ps ss ms ek ec ca es sa el la hL hown => c_l21Round x2 q ps ss ms ek ec ca es sa el la hL o2 hown (t2.up (by omega)) 3 a b (.inr (.inr rfl)) hx3
  clear hx hx0 hx1 hx2 hx3
  refine Tri.of Tryz.func75 rfl rfl Tryz.ntmps75 rfl rfl ?_
  (repeat' (first | refine nI ?_ | (refine nA ?_; intro _) | (refine nW ?_; first | (refine op_call_id ?_; refine op_ro rfl rfl (by exact (c_sWorldOkN w q ps ss ms (hat.mono (by exact kS)) hok.n).eq (congrArg B (worldOk_t hok))) ?_) | (refine op_call_id ?_; refine op_call rfl (c_l21Copy w q ps ss ms (hat.mono (by exact kS)) hlim) rfl ?_; rintro _ _ ⟨q1, ps1, ss1, ms1, ek1, ec1, ca1, es1, sa1, el1, la1, rfl, ho1, rfl⟩) | (refine op_call_id ?_; refine op_call rfl (hdo q1 ps1 ss1 ms1 ek1 ec1 ca1 es1 sa1 el1 la1 (by exact kE) ho1) rfl ?_; rintro _ _ ⟨q2, ps2, ss2, ms2, ek2, ec2, ca2, es2, sa2, el2, la2, rfl, ho2, rfl⟩) | (refine op_call_id ?_; refine op_call rfl (hr1 q2 ps2 ss2 ms2 ek2 ec2 ca2 es2 sa2 el2 la2 (by exact kE) ho2) rfl ?_; rintro _ _ ⟨q3, ps3, ss3, ms3, ek3, ec3, ca3, es3, sa3, el3, la3, rfl, ho3, rfl⟩) | (refine op_call_id ?_; refine op_call rfl (hr2 q3 ps3 ss3 ms3 ek3 ec3 ca3 es3 sa3 el3 la3 (by exact kE) ho3) rfl ?_; rintro _ _ ⟨q4, ps4, ss4, ms4, ek4, ec4, ca4, es4, sa4, el4, la4, rfl, ho4, rfl⟩) | (refine op_call_id ?_; refine op_call rfl (hr3 q4 ps4 ss4 ms4 ek4 ec4 ca4 es4 sa4 el4 la4 (by exact kE) ho4) rfl ?_; rintro _ _ ⟨q5, ps5, ss5, ms5, ek5, ec5, ca5, es5, sa5, el5, la5, rfl, ho5, rfl⟩)) | refine nY ?_ | refine nR ?_ | refine WC_cond rfl (fun hc => ?_) (fun hc => ?_)))
  refine ret_ret (by exact kR) ?_; exact ⟨wldE ek5 ec5 ca5 es5 sa5 el5 la5 ++ L, by exact kP, q5, ps5, ss5, ms5, ek5, ec5, ca5, es5, sa5, el5, la5, rfl, ho5, rfl⟩
theorem c_l31Log {L : List Ent} (w : World) (q : WSl) (ps : List (Client × CSl)) (ss : List (Serv × (Sl × Sl))) (ms : List (Msg × Sl)) (hat : WldAt L w q ps ss ms) (hw : WOk w) : RO Tryz.prog 77 [worldV w q] L (St (logText w)) := by
  have hnow := hw.now
  have hll := hw.ll
  obtain ⟨kc, cs', ss', ⟨al, nl, cl⟩⟩ := q
  obtain ⟨hnl, hcl, hbl, hrl⟩ := hat.mr
  have hma := hat.ma
  have hme := hat.me
  dsimp only at hnl hcl hrl
  subst hnl
  simp only [big] at hbl
  have hml : ms.length = w.log.length := by rw [← List.length_map (f := Prod.fst), hme]
  refine Tri.of Tryz.func77 rfl rfl Tryz.ntmps77 rfl rfl ?_
  (repeat' (first | refine nI ?_ | (refine nA ?_; intro _) | (refine nW ?_; first | refine op_val rfl (by exact kStr) ?_) | (refine WR_id ?_; refine WR_pure rfl rfl rfl (by exact kStr) ?_) | refine nY ?_ | refine WA_alt ?_ ?_ | refine nR ?_ | refine WC_drawL (id := 5) (ops := o77x5T7) r77x5T7 (by kernel_rfl) rfl ?_ | refine WC_cond rfl (fun hc => ?_) (fun hc => ?_)))
  rename_i b1
  refine WC_loop (fun mz Ez Mz => ∃ (k : Nat) (out : Str), k + mz = (ms).length ∧ Ez = [(1, .pointer (some ⟨b1, 0, none⟩)), (3, St out), (4, I k)] ∧ Mz = (b1, cellsO (worldC w ⟨kc, cs', ss', ⟨al, ms.length, cl⟩⟩) 62) :: L ∧ (out = logFrom 0 ((ms.take k).map Prod.fst) ∧ out.length ≤ 430 * k)) (ms).length (by exact kQ) (by exact kL) ⟨0, [], by omega, rfl, rfl, by exact ⟨rfl, by simp⟩⟩ ?_
  rintro mz Ez Mz ⟨k, out, hk, rfl, rfl, hin⟩
  rcases Nat.lt_or_ge k (ms).length with hlt | hge
  · obtain ⟨ho1, ho2⟩ := hin
    obtain ⟨⟨m, sm⟩, hy⟩ : ∃ y, ms[k]? = some y := ⟨ms[k]'(by omega), by simp [hlt]⟩
    obtain ⟨b', o', cs2, T2, fr2, rfl, hm2, hrw⟩ := hrl (by omega)
    have hrow'' := hrw k _ hy
    have hma1 := hma _ (List.mem_of_getElem? hy)
    have hmt := msgText_len m
    have hd := dec_len (k : Int)
    have hlk : ((ms.take k).map Prod.fst).length = k := by rw [List.length_map, List.length_take]; omega
    (repeat' (first | refine nI ?_ | (refine nA ?_; intro _) | (refine nW ?_; first | (refine op_call_id ?_; refine op_ro rfl rfl (by first | exact c_l6Dec (k : Int) (by omega) (by omega) | exact c_sMsgText m sm (hma1.mono (by exact kS))) ?_) | refine op_val rfl (by exact kStr) ?_) | (refine WR_id ?_; refine WR_pure rfl rfl rfl (by exact kStr) ?_) | refine nY ?_ | refine WA_alt ?_ ?_ | refine nR ?_ | refine WC_draw (id := 5) (ops := o77x5T7) ([(b1, cellsO (worldC w ⟨kc, cs', ss', ⟨some ⟨b', o', none⟩, ms.length, cl⟩⟩) 62), (b', Obj.cells cs2.toArray T2 fr2)]) r77x5T7 (by kernel_rfl) rfl ?_ | refine WC_cond rfl (fun hc => ?_) (fun hc => ?_)))
    exact loopQ_next ⟨mz - 1, _, _, by omega, by exact kQ, by exact kL, k + 1, out ++ dec (k : Int) ++ [58, 32] ++ msgText m, by omega, rfl, rfl, by exact ⟨by rw [take_next hy, List.map_append, List.map_cons, List.map_nil, logFrom_next, ← ho1, Nat.zero_add, hlk]; simp, by simp only [List.length_append, List.length_cons, List.length_nil]; omega⟩⟩
  · obtain ⟨ho1, ho2⟩ := hin
    rw [take_all hge, hme] at ho1
    have hd := dec_len w.now
    have hfin : logText w = out ++ [97, 116, 32] ++ dec w.now ++ [10] := by rw [ho1]; simp [logText]
    rw [hfin]
    (repeat' (first | refine nI ?_ | (refine nA ?_; intro _) | (refine nW ?_; first | (refine op_call_id ?_; refine op_ro rfl rfl (by exact c_l6Dec w.now (by omega) (by omega)) ?_) | refine op_val rfl (by exact kStr) ?_) | (refine WR_id ?_; refine WR_pure rfl rfl rfl (by exact kStr) ?_) | refine nY ?_ | refine WA_alt ?_ ?_ | refine nR ?_ | refine WC_drawL (id := 5) (ops := o77x5T7) r77x5T7 (by kernel_rfl) rfl ?_ | refine WC_cond rfl (fun hc => ?_) (fun hc => ?_)))
    refine ro_ret (by exact kR) (by exact kL) ?_; rfl
end Go.Proofs.YtoledfhjmdpihaaGreatDoor
/- The reference: a line is done. -/
set_option linter.unusedVariables false
set_option linter.unusedSectionVars false
set_option linter.unusedSimpArgs false
namespace Go.Proofs.YtoledfhjmdpihaaGreatDoor
open Go Go.Proofs Go.Proofs.YtoledfhjmdpihaaGreatDoor.VE
attribute [local irreducible] Val Op1 WO WR WA WC seqQ blockQ loopQ retQ
noncomputable def o39x4T8 : Array Oper := cops (cl (cl (cr (cl (cr (cl (cr (cr (codeOf Tryz.f39)))))))))
noncomputable def o39x6T8 : Array Oper := cops (cl (cl (cr (cr (cr (cl (cr (cl (cr (cr (codeOf Tryz.f39)))))))))))
noncomputable def r39x4T8 : Run := (.st 0 1 (.st 1 0 (.st 3 0 (.st 2 2 (.st 4 2 (.st 5 3 (.st 6 3 (.st 7 0 .done))))))))
noncomputable def r39x6T8 : Run := (.st 0 1 (.st 1 1 (.st 2 2 (.st 3 3 (.st 4 0 .done)))))
set_option maxHeartbeats 8000000
theorem c_l31At1 {L : List Ent} (s : Sl) (ws : List Str) (h : SliceAt L encTx s ws) (hmax : ∀ w ∈ ws, w.length ≤ 1000000) : RO Tryz.prog 76 [s.v, I 1] L (I (numAt ws 1)) := c_l31At s ws 1 h hmax
theorem c_l31At2 {L : List Ent} (s : Sl) (ws : List Str) (h : SliceAt L encTx s ws) (hmax : ∀ w ∈ ws, w.length ≤ 1000000) : RO Tryz.prog 76 [s.v, I 2] L (I (numAt ws 2)) := c_l31At s ws 2 h hmax
/-- Where the first word lies. -/
theorem first_wordS {L : List Ent} {a : Option Addr} {n c : Nat} {ws : List Str} {x : Str} (h : SliceAt L encTx ⟨a, n, c⟩ ws) (h0 : ws.headD [] = x) (hp : 0 < ws.length) : n = ws.length ∧ ws.length ≤ big ∧ ∃ (b o : Nat) (cs : List Value) (T : TypeId) (fr : Nat × Nat), a = some ⟨b, o, none⟩ ∧ (b, .cells cs.toArray T fr) ∈ L ∧ cs[o + (0 : Int).toNat * 1]? = some (St x) := by
  have hn : n = ws.length := h.1
  have hx : ws[0]? = some x := by
    cases ws with
    | nil => simp at hp
    | cons y ys => simpa using h0
  obtain ⟨b, o, cs, T, fr, ha, hm, htk⟩ := h.cell hx
  have hget := takeC_get (k := 0) htk (v := St x) rfl
  refine ⟨hn, h.2.2.1, b, o, cs, T, fr, ha, hm, ?_⟩
  have he : o + 0 * encTx.sz + 0 = o + (0 : Int).toNat * 1 := by simp [encTx]
  rw [he] at hget
  exact hget
def LineV (L0 : List Ent) (x : World) (s : Str) (v : Value) (L' : List Ent) : Prop := ∃ q ps ss ms ek ec ca es sa el la, v = .tuple [worldV x q, St s].toArray ∧ WldOwn x q ps ss ms ek ec ca es sa el la ∧ L' = wldE ek ec ca es sa el la ++ L0
section
variable {L L0 : List Ent} (w : World) (q : WSl) (ps : List (Client × CSl)) (ss : List (Serv × (Sl × Sl))) (ms : List (Msg × Sl)) (ek ec ca es sa el la : List Ent) (hL : L.Perm (wldE ek ec ca es sa el la ++ L0)) (hw : WOk w) (hown : WldOwn w q ps ss ms ek ec ca es sa el la) (hte : TookLe 1499900 w) (u : Str) (hu : u.length ≤ 1900)
include hL hw hown hte hu
theorem c_slAs (hh : (cutAt 32 u).headD [] = wAs) : Tri Tryz.prog 39 [worldV w q, St u] L (LineV L0 (lineW w (cutAt 32 u)) (lineS w (cutAt 32 u))) := by
  obtain ⟨ws, hws⟩ : ∃ ws, cutAt 32 u = ws := ⟨_, rfl⟩
  have h0 : 0 < ws.length := by rw [← hws]; exact List.length_pos_iff.2 (cutAt_ne 32 u)
  have hmax : ∀ x ∈ ws, x.length ≤ 1000000 := fun x hx => by have := cutAt_pieces 32 u x (by rw [hws]; exact hx); omega
  have hcut : ∀ {L : List Ent}, Tri Tryz.prog 14 [St u, u8 32] L (fun v L' => ∃ sl es, v = Sl.v sl ∧ Row encTx 9 sl ws es ∧ L' = es ++ L) := fun {L} => hws ▸ c_l1Cut u 32 hu
  rw [hws] at hh ⊢
  clear hws
  have hS : lineS w ws = [] := lineS_known (by rw [hh]; rfl)
  obtain ⟨x, hx⟩ : ∃ x, lineW w ws = x := ⟨_, rfl⟩
  have hW : step w ⟨1, numAt ws 1, numAt ws 2, Msg.zero⟩ = x := by rw [← hx, lineW_as hh]; rw [← asks_step (by omega)]; simp [asks, ask]
  rw [hS, hx]
  have hdo : ∀ {L1 L0 : List Ent}, L1.Perm (wldE ek ec ca es sa el la ++ L0) → Tri Tryz.prog 80 [worldV w q, eventV ⟨1, numAt ws 1, numAt ws 2, Msg.zero⟩ Sl.nil] L1 (WldV L0 x) := fun hL => hW ▸ c_l21DoP w q ps ss ms ek ec ca es sa el la hL hw hown (hte.up (by omega)) ⟨1, numAt ws 1, numAt ws 2, Msg.zero⟩ Sl.nil SliceAt.nil
  clear hx hW hS
  refine Tri.perm ?_ hL
  refine Tri.of Tryz.func39 rfl rfl Tryz.ntmps39 rfl rfl ?_
  (repeat' (first | refine nI ?_ | (refine nA ?_; intro _) | (refine nW ?_; first | (refine op_call_id ?_; refine op_call rfl (hcut) rfl ?_; rintro _ _ ⟨⟨aw, nw, cw⟩, ew, rfl, hrw, rfl⟩) | refine op_val rfl (by exact kStr) ?_) | (refine WR_id ?_; refine WR_pure rfl rfl rfl (by exact kStr) ?_) | refine nY ?_ | refine WA_alt ?_ ?_ | refine WC_regionN [2] rfl ?_ | refine WC_block ?_ | refine WC_drawL (id := 4) (ops := o39x4T8) r39x4T8 (by kernel_rfl) rfl ?_ | refine WC_drawL (id := 6) (ops := o39x6T8) r39x6T8 (by kernel_rfl) rfl ?_ | refine WC_cond rfl (fun hc => ?_) (fun hc => ?_)))
  rename_i b2 b4
  obtain ⟨rfl, hbig, bz, oz, cz, Tz, fz, rfl, hmz, hgz⟩ := first_wordS hrw.at hh h0
  simp only [big] at hbig
  (repeat' (first | refine nI ?_ | (refine nA ?_; intro _) | (refine nW ?_; first | (refine op_call_id ?_; refine op_ro rfl rfl (by first | exact (c_l31Kind wAs).eq (congrArg I (show kindOf wAs = 1 by decide)) | exact c_l31At1 ⟨_, _, _⟩ ws (hrw.atL (by exact kS)) hmax | exact c_l31At2 ⟨_, _, _⟩ ws (hrw.atL (by exact kS)) hmax) ?_) | (refine op_load_id ?_; refine op_val rfl (by exact val_load1 rfl rfl rfl (by exact kM) hgz) ?_) | (refine op_call_id ?_; refine op_call rfl (hdo (by exact kE)) rfl ?_; rintro _ _ ⟨q9, ps9, ss9, ms9, ek9, ec9, ca9, es9, sa9, el9, la9, rfl, ho9, rfl⟩) | refine op_val rfl (by exact kStr) ?_) | (refine WR_id ?_; refine WR_pure rfl rfl rfl (by exact kStr) ?_) | (refine WR_id ?_; refine WR_load rfl rfl rfl (by exact val_load1 rfl rfl rfl (by exact kM) hgz) (by exact kS) ?_) | refine nY ?_ | refine WA_alt ?_ ?_ | refine nR ?_ | refine WC_drawL (id := 4) (ops := o39x4T8) r39x4T8 (by kernel_rfl) rfl ?_ | refine WC_drawL (id := 6) (ops := o39x6T8) r39x6T8 (by kernel_rfl) rfl ?_ | refine WC_cond rfl (fun hc => ?_) (fun hc => ?_)))
  refine ret_ret (by exact kR) ?_; exact ⟨wldE ek9 ec9 ca9 es9 sa9 el9 la9 ++ L0, by exact kP, q9, ps9, ss9, ms9, ek9, ec9, ca9, es9, sa9, el9, la9, rfl, ho9, rfl⟩
theorem c_slTgs (hh : (cutAt 32 u).headD [] = wTgs) : Tri Tryz.prog 39 [worldV w q, St u] L (LineV L0 (lineW w (cutAt 32 u)) (lineS w (cutAt 32 u))) := by
  obtain ⟨ws, hws⟩ : ∃ ws, cutAt 32 u = ws := ⟨_, rfl⟩
  have h0 : 0 < ws.length := by rw [← hws]; exact List.length_pos_iff.2 (cutAt_ne 32 u)
  have hmax : ∀ x ∈ ws, x.length ≤ 1000000 := fun x hx => by have := cutAt_pieces 32 u x (by rw [hws]; exact hx); omega
  have hcut : ∀ {L : List Ent}, Tri Tryz.prog 14 [St u, u8 32] L (fun v L' => ∃ sl es, v = Sl.v sl ∧ Row encTx 9 sl ws es ∧ L' = es ++ L) := fun {L} => hws ▸ c_l1Cut u 32 hu
  rw [hws] at hh ⊢
  clear hws
  have hS : lineS w ws = [] := lineS_known (by rw [hh]; rfl)
  obtain ⟨x, hx⟩ : ∃ x, lineW w ws = x := ⟨_, rfl⟩
  have hW : step w ⟨2, numAt ws 1, numAt ws 2, Msg.zero⟩ = x := by rw [← hx, lineW_tgs hh]; rw [asks_step (by omega)]
  rw [hS, hx]
  have hdo : ∀ {L1 L0 : List Ent}, L1.Perm (wldE ek ec ca es sa el la ++ L0) → Tri Tryz.prog 80 [worldV w q, eventV ⟨2, numAt ws 1, numAt ws 2, Msg.zero⟩ Sl.nil] L1 (WldV L0 x) := fun hL => hW ▸ c_l21DoP w q ps ss ms ek ec ca es sa el la hL hw hown (hte.up (by omega)) ⟨2, numAt ws 1, numAt ws 2, Msg.zero⟩ Sl.nil SliceAt.nil
  clear hx hW hS
  refine Tri.perm ?_ hL
  refine Tri.of Tryz.func39 rfl rfl Tryz.ntmps39 rfl rfl ?_
  (repeat' (first | refine nI ?_ | (refine nA ?_; intro _) | (refine nW ?_; first | (refine op_call_id ?_; refine op_call rfl (hcut) rfl ?_; rintro _ _ ⟨⟨aw, nw, cw⟩, ew, rfl, hrw, rfl⟩) | refine op_val rfl (by exact kStr) ?_) | (refine WR_id ?_; refine WR_pure rfl rfl rfl (by exact kStr) ?_) | refine nY ?_ | refine WA_alt ?_ ?_ | refine WC_regionN [2] rfl ?_ | refine WC_block ?_ | refine WC_drawL (id := 4) (ops := o39x4T8) r39x4T8 (by kernel_rfl) rfl ?_ | refine WC_drawL (id := 6) (ops := o39x6T8) r39x6T8 (by kernel_rfl) rfl ?_ | refine WC_cond rfl (fun hc => ?_) (fun hc => ?_)))
  rename_i b2 b4
  obtain ⟨rfl, hbig, bz, oz, cz, Tz, fz, rfl, hmz, hgz⟩ := first_wordS hrw.at hh h0
  simp only [big] at hbig
  (repeat' (first | refine nI ?_ | (refine nA ?_; intro _) | (refine nW ?_; first | (refine op_call_id ?_; refine op_ro rfl rfl (by first | exact (c_l31Kind wTgs).eq (congrArg I (show kindOf wTgs = 2 by decide)) | exact c_l31At1 ⟨_, _, _⟩ ws (hrw.atL (by exact kS)) hmax | exact c_l31At2 ⟨_, _, _⟩ ws (hrw.atL (by exact kS)) hmax) ?_) | (refine op_load_id ?_; refine op_val rfl (by exact val_load1 rfl rfl rfl (by exact kM) hgz) ?_) | (refine op_call_id ?_; refine op_call rfl (hdo (by exact kE)) rfl ?_; rintro _ _ ⟨q9, ps9, ss9, ms9, ek9, ec9, ca9, es9, sa9, el9, la9, rfl, ho9, rfl⟩) | refine op_val rfl (by exact kStr) ?_) | (refine WR_id ?_; refine WR_pure rfl rfl rfl (by exact kStr) ?_) | (refine WR_id ?_; refine WR_load rfl rfl rfl (by exact val_load1 rfl rfl rfl (by exact kM) hgz) (by exact kS) ?_) | refine nY ?_ | refine WA_alt ?_ ?_ | refine nR ?_ | refine WC_drawL (id := 4) (ops := o39x4T8) r39x4T8 (by kernel_rfl) rfl ?_ | refine WC_drawL (id := 6) (ops := o39x6T8) r39x6T8 (by kernel_rfl) rfl ?_ | refine WC_cond rfl (fun hc => ?_) (fun hc => ?_)))
  refine ret_ret (by exact kR) ?_; exact ⟨wldE ek9 ec9 ca9 es9 sa9 el9 la9 ++ L0, by exact kP, q9, ps9, ss9, ms9, ek9, ec9, ca9, es9, sa9, el9, la9, rfl, ho9, rfl⟩
theorem c_slAp (hh : (cutAt 32 u).headD [] = wAp) : Tri Tryz.prog 39 [worldV w q, St u] L (LineV L0 (lineW w (cutAt 32 u)) (lineS w (cutAt 32 u))) := by
  obtain ⟨ws, hws⟩ : ∃ ws, cutAt 32 u = ws := ⟨_, rfl⟩
  have h0 : 0 < ws.length := by rw [← hws]; exact List.length_pos_iff.2 (cutAt_ne 32 u)
  have hmax : ∀ x ∈ ws, x.length ≤ 1000000 := fun x hx => by have := cutAt_pieces 32 u x (by rw [hws]; exact hx); omega
  have hcut : ∀ {L : List Ent}, Tri Tryz.prog 14 [St u, u8 32] L (fun v L' => ∃ sl es, v = Sl.v sl ∧ Row encTx 9 sl ws es ∧ L' = es ++ L) := fun {L} => hws ▸ c_l1Cut u 32 hu
  rw [hws] at hh ⊢
  clear hws
  have hS : lineS w ws = [] := lineS_known (by rw [hh]; rfl)
  obtain ⟨x, hx⟩ : ∃ x, lineW w ws = x := ⟨_, rfl⟩
  have hW : step w ⟨3, numAt ws 1, numAt ws 2, Msg.zero⟩ = x := by rw [← hx, lineW_ap hh]; rw [asks_step (by omega)]
  rw [hS, hx]
  have hdo : ∀ {L1 L0 : List Ent}, L1.Perm (wldE ek ec ca es sa el la ++ L0) → Tri Tryz.prog 80 [worldV w q, eventV ⟨3, numAt ws 1, numAt ws 2, Msg.zero⟩ Sl.nil] L1 (WldV L0 x) := fun hL => hW ▸ c_l21DoP w q ps ss ms ek ec ca es sa el la hL hw hown (hte.up (by omega)) ⟨3, numAt ws 1, numAt ws 2, Msg.zero⟩ Sl.nil SliceAt.nil
  clear hx hW hS
  refine Tri.perm ?_ hL
  refine Tri.of Tryz.func39 rfl rfl Tryz.ntmps39 rfl rfl ?_
  (repeat' (first | refine nI ?_ | (refine nA ?_; intro _) | (refine nW ?_; first | (refine op_call_id ?_; refine op_call rfl (hcut) rfl ?_; rintro _ _ ⟨⟨aw, nw, cw⟩, ew, rfl, hrw, rfl⟩) | refine op_val rfl (by exact kStr) ?_) | (refine WR_id ?_; refine WR_pure rfl rfl rfl (by exact kStr) ?_) | refine nY ?_ | refine WA_alt ?_ ?_ | refine WC_regionN [2] rfl ?_ | refine WC_block ?_ | refine WC_drawL (id := 4) (ops := o39x4T8) r39x4T8 (by kernel_rfl) rfl ?_ | refine WC_drawL (id := 6) (ops := o39x6T8) r39x6T8 (by kernel_rfl) rfl ?_ | refine WC_cond rfl (fun hc => ?_) (fun hc => ?_)))
  rename_i b2 b4
  obtain ⟨rfl, hbig, bz, oz, cz, Tz, fz, rfl, hmz, hgz⟩ := first_wordS hrw.at hh h0
  simp only [big] at hbig
  (repeat' (first | refine nI ?_ | (refine nA ?_; intro _) | (refine nW ?_; first | (refine op_call_id ?_; refine op_ro rfl rfl (by first | exact (c_l31Kind wAp).eq (congrArg I (show kindOf wAp = 3 by decide)) | exact c_l31At1 ⟨_, _, _⟩ ws (hrw.atL (by exact kS)) hmax | exact c_l31At2 ⟨_, _, _⟩ ws (hrw.atL (by exact kS)) hmax) ?_) | (refine op_load_id ?_; refine op_val rfl (by exact val_load1 rfl rfl rfl (by exact kM) hgz) ?_) | (refine op_call_id ?_; refine op_call rfl (hdo (by exact kE)) rfl ?_; rintro _ _ ⟨q9, ps9, ss9, ms9, ek9, ec9, ca9, es9, sa9, el9, la9, rfl, ho9, rfl⟩) | refine op_val rfl (by exact kStr) ?_) | (refine WR_id ?_; refine WR_pure rfl rfl rfl (by exact kStr) ?_) | (refine WR_id ?_; refine WR_load rfl rfl rfl (by exact val_load1 rfl rfl rfl (by exact kM) hgz) (by exact kS) ?_) | refine nY ?_ | refine WA_alt ?_ ?_ | refine nR ?_ | refine WC_drawL (id := 4) (ops := o39x4T8) r39x4T8 (by kernel_rfl) rfl ?_ | refine WC_drawL (id := 6) (ops := o39x6T8) r39x6T8 (by kernel_rfl) rfl ?_ | refine WC_cond rfl (fun hc => ?_) (fun hc => ?_)))
  refine ret_ret (by exact kR) ?_; exact ⟨wldE ek9 ec9 ca9 es9 sa9 el9 la9 ++ L0, by exact kP, q9, ps9, ss9, ms9, ek9, ec9, ca9, es9, sa9, el9, la9, rfl, ho9, rfl⟩
theorem c_slBring (hh : (cutAt 32 u).headD [] = wBring) : Tri Tryz.prog 39 [worldV w q, St u] L (LineV L0 (lineW w (cutAt 32 u)) (lineS w (cutAt 32 u))) := by
  obtain ⟨ws, hws⟩ : ∃ ws, cutAt 32 u = ws := ⟨_, rfl⟩
  have h0 : 0 < ws.length := by rw [← hws]; exact List.length_pos_iff.2 (cutAt_ne 32 u)
  have hmax : ∀ x ∈ ws, x.length ≤ 1000000 := fun x hx => by have := cutAt_pieces 32 u x (by rw [hws]; exact hx); omega
  have hcut : ∀ {L : List Ent}, Tri Tryz.prog 14 [St u, u8 32] L (fun v L' => ∃ sl es, v = Sl.v sl ∧ Row encTx 9 sl ws es ∧ L' = es ++ L) := fun {L} => hws ▸ c_l1Cut u 32 hu
  rw [hws] at hh ⊢
  clear hws
  have hS : lineS w ws = [] := lineS_known (by rw [hh]; rfl)
  obtain ⟨x, hx⟩ : ∃ x, lineW w ws = x := ⟨_, rfl⟩
  have hW : step w ⟨4, numAt ws 1, numAt ws 2, Msg.zero⟩ = x := by rw [← hx, lineW_bring hh]; simp [step]
  rw [hS, hx]
  have hdo : ∀ {L1 L0 : List Ent}, L1.Perm (wldE ek ec ca es sa el la ++ L0) → Tri Tryz.prog 80 [worldV w q, eventV ⟨4, numAt ws 1, numAt ws 2, Msg.zero⟩ Sl.nil] L1 (WldV L0 x) := fun hL => hW ▸ c_l21DoP w q ps ss ms ek ec ca es sa el la hL hw hown (hte.up (by omega)) ⟨4, numAt ws 1, numAt ws 2, Msg.zero⟩ Sl.nil SliceAt.nil
  clear hx hW hS
  refine Tri.perm ?_ hL
  refine Tri.of Tryz.func39 rfl rfl Tryz.ntmps39 rfl rfl ?_
  (repeat' (first | refine nI ?_ | (refine nA ?_; intro _) | (refine nW ?_; first | (refine op_call_id ?_; refine op_call rfl (hcut) rfl ?_; rintro _ _ ⟨⟨aw, nw, cw⟩, ew, rfl, hrw, rfl⟩) | refine op_val rfl (by exact kStr) ?_) | (refine WR_id ?_; refine WR_pure rfl rfl rfl (by exact kStr) ?_) | refine nY ?_ | refine WA_alt ?_ ?_ | refine WC_regionN [2] rfl ?_ | refine WC_block ?_ | refine WC_drawL (id := 4) (ops := o39x4T8) r39x4T8 (by kernel_rfl) rfl ?_ | refine WC_drawL (id := 6) (ops := o39x6T8) r39x6T8 (by kernel_rfl) rfl ?_ | refine WC_cond rfl (fun hc => ?_) (fun hc => ?_)))
  rename_i b2 b4
  obtain ⟨rfl, hbig, bz, oz, cz, Tz, fz, rfl, hmz, hgz⟩ := first_wordS hrw.at hh h0
  simp only [big] at hbig
  (repeat' (first | refine nI ?_ | (refine nA ?_; intro _) | (refine nW ?_; first | (refine op_call_id ?_; refine op_ro rfl rfl (by first | exact (c_l31Kind wBring).eq (congrArg I (show kindOf wBring = 4 by decide)) | exact c_l31At1 ⟨_, _, _⟩ ws (hrw.atL (by exact kS)) hmax | exact c_l31At2 ⟨_, _, _⟩ ws (hrw.atL (by exact kS)) hmax) ?_) | (refine op_load_id ?_; refine op_val rfl (by exact val_load1 rfl rfl rfl (by exact kM) hgz) ?_) | (refine op_call_id ?_; refine op_call rfl (hdo (by exact kE)) rfl ?_; rintro _ _ ⟨q9, ps9, ss9, ms9, ek9, ec9, ca9, es9, sa9, el9, la9, rfl, ho9, rfl⟩) | refine op_val rfl (by exact kStr) ?_) | (refine WR_id ?_; refine WR_pure rfl rfl rfl (by exact kStr) ?_) | (refine WR_id ?_; refine WR_load rfl rfl rfl (by exact val_load1 rfl rfl rfl (by exact kM) hgz) (by exact kS) ?_) | refine nY ?_ | refine WA_alt ?_ ?_ | refine nR ?_ | refine WC_drawL (id := 4) (ops := o39x4T8) r39x4T8 (by kernel_rfl) rfl ?_ | refine WC_drawL (id := 6) (ops := o39x6T8) r39x6T8 (by kernel_rfl) rfl ?_ | refine WC_cond rfl (fun hc => ?_) (fun hc => ?_)))
  refine ret_ret (by exact kR) ?_; exact ⟨wldE ek9 ec9 ca9 es9 sa9 el9 la9 ++ L0, by exact kP, q9, ps9, ss9, ms9, ek9, ec9, ca9, es9, sa9, el9, la9, rfl, ho9, rfl⟩
theorem c_slTick (hh : (cutAt 32 u).headD [] = wTick) : Tri Tryz.prog 39 [worldV w q, St u] L (LineV L0 (lineW w (cutAt 32 u)) (lineS w (cutAt 32 u))) := by
  obtain ⟨ws, hws⟩ : ∃ ws, cutAt 32 u = ws := ⟨_, rfl⟩
  have h0 : 0 < ws.length := by rw [← hws]; exact List.length_pos_iff.2 (cutAt_ne 32 u)
  have hmax : ∀ x ∈ ws, x.length ≤ 1000000 := fun x hx => by have := cutAt_pieces 32 u x (by rw [hws]; exact hx); omega
  have hcut : ∀ {L : List Ent}, Tri Tryz.prog 14 [St u, u8 32] L (fun v L' => ∃ sl es, v = Sl.v sl ∧ Row encTx 9 sl ws es ∧ L' = es ++ L) := fun {L} => hws ▸ c_l1Cut u 32 hu
  rw [hws] at hh ⊢
  clear hws
  have hS : lineS w ws = [] := lineS_known (by rw [hh]; rfl)
  obtain ⟨x, hx⟩ : ∃ x, lineW w ws = x := ⟨_, rfl⟩
  have hW : step w ⟨6, numAt ws 1, numAt ws 2, Msg.zero⟩ = x := by rw [← hx, lineW_tick hh]; simp [step]
  rw [hS, hx]
  have hdo : ∀ {L1 L0 : List Ent}, L1.Perm (wldE ek ec ca es sa el la ++ L0) → Tri Tryz.prog 80 [worldV w q, eventV ⟨6, numAt ws 1, numAt ws 2, Msg.zero⟩ Sl.nil] L1 (WldV L0 x) := fun hL => hW ▸ c_l21DoP w q ps ss ms ek ec ca es sa el la hL hw hown (hte.up (by omega)) ⟨6, numAt ws 1, numAt ws 2, Msg.zero⟩ Sl.nil SliceAt.nil
  clear hx hW hS
  refine Tri.perm ?_ hL
  refine Tri.of Tryz.func39 rfl rfl Tryz.ntmps39 rfl rfl ?_
  (repeat' (first | refine nI ?_ | (refine nA ?_; intro _) | (refine nW ?_; first | (refine op_call_id ?_; refine op_call rfl (hcut) rfl ?_; rintro _ _ ⟨⟨aw, nw, cw⟩, ew, rfl, hrw, rfl⟩) | refine op_val rfl (by exact kStr) ?_) | (refine WR_id ?_; refine WR_pure rfl rfl rfl (by exact kStr) ?_) | refine nY ?_ | refine WA_alt ?_ ?_ | refine WC_regionN [2] rfl ?_ | refine WC_block ?_ | refine WC_drawL (id := 4) (ops := o39x4T8) r39x4T8 (by kernel_rfl) rfl ?_ | refine WC_drawL (id := 6) (ops := o39x6T8) r39x6T8 (by kernel_rfl) rfl ?_ | refine WC_cond rfl (fun hc => ?_) (fun hc => ?_)))
  rename_i b2 b4
  obtain ⟨rfl, hbig, bz, oz, cz, Tz, fz, rfl, hmz, hgz⟩ := first_wordS hrw.at hh h0
  simp only [big] at hbig
  (repeat' (first | refine nI ?_ | (refine nA ?_; intro _) | (refine nW ?_; first | (refine op_call_id ?_; refine op_ro rfl rfl (by first | exact (c_l31Kind wTick).eq (congrArg I (show kindOf wTick = 6 by decide)) | exact c_l31At1 ⟨_, _, _⟩ ws (hrw.atL (by exact kS)) hmax | exact c_l31At2 ⟨_, _, _⟩ ws (hrw.atL (by exact kS)) hmax) ?_) | (refine op_load_id ?_; refine op_val rfl (by exact val_load1 rfl rfl rfl (by exact kM) hgz) ?_) | (refine op_call_id ?_; refine op_call rfl (hdo (by exact kE)) rfl ?_; rintro _ _ ⟨q9, ps9, ss9, ms9, ek9, ec9, ca9, es9, sa9, el9, la9, rfl, ho9, rfl⟩) | refine op_val rfl (by exact kStr) ?_) | (refine WR_id ?_; refine WR_pure rfl rfl rfl (by exact kStr) ?_) | (refine WR_id ?_; refine WR_load rfl rfl rfl (by exact val_load1 rfl rfl rfl (by exact kM) hgz) (by exact kS) ?_) | refine nY ?_ | refine WA_alt ?_ ?_ | refine nR ?_ | refine WC_drawL (id := 4) (ops := o39x4T8) r39x4T8 (by kernel_rfl) rfl ?_ | refine WC_drawL (id := 6) (ops := o39x6T8) r39x6T8 (by kernel_rfl) rfl ?_ | refine WC_cond rfl (fun hc => ?_) (fun hc => ?_)))
  refine ret_ret (by exact kR) ?_; exact ⟨wldE ek9 ec9 ca9 es9 sa9 el9 la9 ++ L0, by exact kP, q9, ps9, ss9, ms9, ek9, ec9, ca9, es9, sa9, el9, la9, rfl, ho9, rfl⟩
theorem c_slFall (hh : (cutAt 32 u).headD [] = wFall) : Tri Tryz.prog 39 [worldV w q, St u] L (LineV L0 (lineW w (cutAt 32 u)) (lineS w (cutAt 32 u))) := by
  obtain ⟨ws, hws⟩ : ∃ ws, cutAt 32 u = ws := ⟨_, rfl⟩
  have h0 : 0 < ws.length := by rw [← hws]; exact List.length_pos_iff.2 (cutAt_ne 32 u)
  have hmax : ∀ x ∈ ws, x.length ≤ 1000000 := fun x hx => by have := cutAt_pieces 32 u x (by rw [hws]; exact hx); omega
  have hcut : ∀ {L : List Ent}, Tri Tryz.prog 14 [St u, u8 32] L (fun v L' => ∃ sl es, v = Sl.v sl ∧ Row encTx 9 sl ws es ∧ L' = es ++ L) := fun {L} => hws ▸ c_l1Cut u 32 hu
  rw [hws] at hh ⊢
  clear hws
  have hS : lineS w ws = [] := lineS_known (by rw [hh]; rfl)
  obtain ⟨x, hx⟩ : ∃ x, lineW w ws = x := ⟨_, rfl⟩
  have hW : step w ⟨7, numAt ws 1, numAt ws 1, Msg.zero⟩ = x := by rw [← hx, lineW_fall hh]; simp [step]
  rw [hS, hx]
  have hdo : ∀ {L1 L0 : List Ent}, L1.Perm (wldE ek ec ca es sa el la ++ L0) → Tri Tryz.prog 80 [worldV w q, eventV ⟨7, numAt ws 1, numAt ws 1, Msg.zero⟩ Sl.nil] L1 (WldV L0 x) := fun hL => hW ▸ c_l21DoP w q ps ss ms ek ec ca es sa el la hL hw hown (hte.up (by omega)) ⟨7, numAt ws 1, numAt ws 1, Msg.zero⟩ Sl.nil SliceAt.nil
  clear hx hW hS
  refine Tri.perm ?_ hL
  refine Tri.of Tryz.func39 rfl rfl Tryz.ntmps39 rfl rfl ?_
  (repeat' (first | refine nI ?_ | (refine nA ?_; intro _) | (refine nW ?_; first | (refine op_call_id ?_; refine op_call rfl (hcut) rfl ?_; rintro _ _ ⟨⟨aw, nw, cw⟩, ew, rfl, hrw, rfl⟩) | refine op_val rfl (by exact kStr) ?_) | (refine WR_id ?_; refine WR_pure rfl rfl rfl (by exact kStr) ?_) | refine nY ?_ | refine WA_alt ?_ ?_ | refine WC_regionN [2] rfl ?_ | refine WC_block ?_ | refine WC_drawL (id := 4) (ops := o39x4T8) r39x4T8 (by kernel_rfl) rfl ?_ | refine WC_drawL (id := 6) (ops := o39x6T8) r39x6T8 (by kernel_rfl) rfl ?_ | refine WC_cond rfl (fun hc => ?_) (fun hc => ?_)))
  rename_i b2 b4
  obtain ⟨rfl, hbig, bz, oz, cz, Tz, fz, rfl, hmz, hgz⟩ := first_wordS hrw.at hh h0
  simp only [big] at hbig
  (repeat' (first | refine nI ?_ | (refine nA ?_; intro _) | (refine nW ?_; first | (refine op_call_id ?_; refine op_ro rfl rfl (by first | exact (c_l31Kind wFall).eq (congrArg I (show kindOf wFall = 7 by decide)) | exact c_l31At1 ⟨_, _, _⟩ ws (hrw.atL (by exact kS)) hmax | exact c_l31At2 ⟨_, _, _⟩ ws (hrw.atL (by exact kS)) hmax) ?_) | (refine op_load_id ?_; refine op_val rfl (by exact val_load1 rfl rfl rfl (by exact kM) hgz) ?_) | (refine op_call_id ?_; refine op_call rfl (hdo (by exact kE)) rfl ?_; rintro _ _ ⟨q9, ps9, ss9, ms9, ek9, ec9, ca9, es9, sa9, el9, la9, rfl, ho9, rfl⟩) | refine op_val rfl (by exact kStr) ?_) | (refine WR_id ?_; refine WR_pure rfl rfl rfl (by exact kStr) ?_) | (refine WR_id ?_; refine WR_load rfl rfl rfl (by exact val_load1 rfl rfl rfl (by exact kM) hgz) (by exact kS) ?_) | refine nY ?_ | refine WA_alt ?_ ?_ | refine nR ?_ | refine WC_drawL (id := 4) (ops := o39x4T8) r39x4T8 (by kernel_rfl) rfl ?_ | refine WC_drawL (id := 6) (ops := o39x6T8) r39x6T8 (by kernel_rfl) rfl ?_ | refine WC_cond rfl (fun hc => ?_) (fun hc => ?_)))
  refine ret_ret (by exact kR) ?_; exact ⟨wldE ek9 ec9 ca9 es9 sa9 el9 la9 ++ L0, by exact kP, q9, ps9, ss9, ms9, ek9, ec9, ca9, es9, sa9, el9, la9, rfl, ho9, rfl⟩
theorem c_slMeet (hh : (cutAt 32 u).headD [] = wMeet) : Tri Tryz.prog 39 [worldV w q, St u] L (LineV L0 (lineW w (cutAt 32 u)) (lineS w (cutAt 32 u))) := by
  obtain ⟨ws, hws⟩ : ∃ ws, cutAt 32 u = ws := ⟨_, rfl⟩
  have h0 : 0 < ws.length := by rw [← hws]; exact List.length_pos_iff.2 (cutAt_ne 32 u)
  have hmax : ∀ x ∈ ws, x.length ≤ 1000000 := fun x hx => by have := cutAt_pieces 32 u x (by rw [hws]; exact hx); omega
  have hcut : ∀ {L : List Ent}, Tri Tryz.prog 14 [St u, u8 32] L (fun v L' => ∃ sl es, v = Sl.v sl ∧ Row encTx 9 sl ws es ∧ L' = es ++ L) := fun {L} => hws ▸ c_l1Cut u 32 hu
  rw [hws] at hh ⊢
  clear hws
  have hS : lineS w ws = [] := lineS_known (by rw [hh]; rfl)
  obtain ⟨x, hx⟩ : ∃ x, lineW w ws = x := ⟨_, rfl⟩
  have hW : meet w (numAt ws 1) (numAt ws 2) = x := by rw [← hx, lineW_meet hh]
  rw [hS, hx]
  clear hx hS
  refine Tri.perm ?_ hL
  refine Tri.of Tryz.func39 rfl rfl Tryz.ntmps39 rfl rfl ?_
  (repeat' (first | refine nI ?_ | (refine nA ?_; intro _) | (refine nW ?_; first | (refine op_call_id ?_; refine op_call rfl (hcut) rfl ?_; rintro _ _ ⟨⟨aw, nw, cw⟩, ew, rfl, hrw, rfl⟩) | refine op_val rfl (by exact kStr) ?_) | (refine WR_id ?_; refine WR_pure rfl rfl rfl (by exact kStr) ?_) | refine nY ?_ | refine WA_alt ?_ ?_ | refine WC_regionN [2] rfl ?_ | refine WC_block ?_ | refine WC_drawL (id := 4) (ops := o39x4T8) r39x4T8 (by kernel_rfl) rfl ?_ | refine WC_drawL (id := 6) (ops := o39x6T8) r39x6T8 (by kernel_rfl) rfl ?_ | refine WC_cond rfl (fun hc => ?_) (fun hc => ?_)))
  rename_i b2 b4
  obtain ⟨rfl, hbig, bz, oz, cz, Tz, fz, rfl, hmz, hgz⟩ := first_wordS hrw.at hh h0
  simp only [big] at hbig
  (repeat' (first | refine nI ?_ | (refine nA ?_; intro _) | (refine nW ?_; first | (refine op_call_id ?_; refine op_ro rfl rfl (by first | exact c_l31At1 ⟨_, _, _⟩ ws (hrw.atL (by exact kS)) hmax | exact c_l31At2 ⟨_, _, _⟩ ws (hrw.atL (by exact kS)) hmax) ?_) | (refine op_load_id ?_; refine op_val rfl (by exact val_load1 rfl rfl rfl (by exact kM) hgz) ?_) | (refine op_call_id ?_; refine op_call rfl (c_sWorldMeet w q ps ss ms (hown.at.mono (by exact kS)) hw hte _ _ hW) rfl ?_; rintro _ _ ⟨q9, ps9, ss9, ms9, ek9, ec9, ca9, es9, sa9, el9, la9, rfl, ho9, rfl⟩) | refine op_val rfl (by exact kStr) ?_) | (refine WR_id ?_; refine WR_pure rfl rfl rfl (by exact kStr) ?_) | (refine WR_id ?_; refine WR_load rfl rfl rfl (by exact val_load1 rfl rfl rfl (by exact kM) hgz) (by exact kS) ?_) | refine nY ?_ | refine WA_alt ?_ ?_ | refine nR ?_ | refine WC_draw (id := 4) (ops := o39x4T8) ([(b2, cellsO (worldC w q) 62)]) r39x4T8 (by kernel_rfl) rfl ?_ | refine WC_drawL (id := 6) (ops := o39x6T8) r39x6T8 (by kernel_rfl) rfl ?_ | refine WC_cond rfl (fun hc => ?_) (fun hc => ?_)))
  refine ret_ret (by exact kR) ?_; exact ⟨wldE ek9 ec9 ca9 es9 sa9 el9 la9 ++ L0, by exact kP, q9, ps9, ss9, ms9, ek9, ec9, ca9, es9, sa9, el9, la9, rfl, ho9, rfl⟩
theorem c_slLog (hh : (cutAt 32 u).headD [] = wLog) : Tri Tryz.prog 39 [worldV w q, St u] L (LineV L0 (lineW w (cutAt 32 u)) (lineS w (cutAt 32 u))) := by
  obtain ⟨ws, hws⟩ : ∃ ws, cutAt 32 u = ws := ⟨_, rfl⟩
  have h0 : 0 < ws.length := by rw [← hws]; exact List.length_pos_iff.2 (cutAt_ne 32 u)
  have hmax : ∀ x ∈ ws, x.length ≤ 1000000 := fun x hx => by have := cutAt_pieces 32 u x (by rw [hws]; exact hx); omega
  have hcut : ∀ {L : List Ent}, Tri Tryz.prog 14 [St u, u8 32] L (fun v L' => ∃ sl es, v = Sl.v sl ∧ Row encTx 9 sl ws es ∧ L' = es ++ L) := fun {L} => hws ▸ c_l1Cut u 32 hu
  rw [hws] at hh ⊢
  clear hws
  have hS : lineS w ws = logText w := lineS_log hh
  have hW : lineW w ws = w := lineW_none (by rw [hh]; rfl)
  rw [hS, hW]
  clear hW hS
  refine Tri.perm ?_ hL
  refine Tri.of Tryz.func39 rfl rfl Tryz.ntmps39 rfl rfl ?_
  (repeat' (first | refine nI ?_ | (refine nA ?_; intro _) | (refine nW ?_; first | (refine op_call_id ?_; refine op_call rfl (hcut) rfl ?_; rintro _ _ ⟨⟨aw, nw, cw⟩, ew, rfl, hrw, rfl⟩) | refine op_val rfl (by exact kStr) ?_) | (refine WR_id ?_; refine WR_pure rfl rfl rfl (by exact kStr) ?_) | refine nY ?_ | refine WA_alt ?_ ?_ | refine WC_regionN [2] rfl ?_ | refine WC_block ?_ | refine WC_drawL (id := 4) (ops := o39x4T8) r39x4T8 (by kernel_rfl) rfl ?_ | refine WC_drawL (id := 6) (ops := o39x6T8) r39x6T8 (by kernel_rfl) rfl ?_ | refine WC_cond rfl (fun hc => ?_) (fun hc => ?_)))
  rename_i b2 b4
  obtain ⟨rfl, hbig, bz, oz, cz, Tz, fz, rfl, hmz, hgz⟩ := first_wordS hrw.at hh h0
  simp only [big] at hbig
  (repeat' (first | refine nI ?_ | (refine nA ?_; intro _) | (refine nW ?_; first | (refine op_call_id ?_; refine op_ro rfl rfl (by exact c_l31Log w q ps ss ms (hown.at.mono (by exact kS)) hw) ?_) | (refine op_load_id ?_; refine op_val rfl (by exact val_load1 rfl rfl rfl (by exact kM) hgz) ?_) | refine op_val rfl (by exact kStr) ?_) | (refine WR_id ?_; refine WR_pure rfl rfl rfl (by exact kStr) ?_) | (refine WR_id ?_; refine WR_load rfl rfl rfl (by exact val_load1 rfl rfl rfl (by exact kM) hgz) (by exact kS) ?_) | refine nY ?_ | refine WA_alt ?_ ?_ | refine nR ?_ | refine WC_drawL (id := 4) (ops := o39x4T8) r39x4T8 (by kernel_rfl) rfl ?_ | refine WC_draw (id := 6) (ops := o39x6T8) ([(b2, cellsO (worldC w q) 62)]) r39x6T8 (by kernel_rfl) rfl ?_ | refine WC_cond rfl (fun hc => ?_) (fun hc => ?_)))
  refine ret_ret (by exact kR) ?_; exact ⟨wldE ek ec ca es sa el la ++ L0, by exact kP, q, ps, ss, ms, ek, ec, ca, es, sa, el, la, rfl, hown, rfl⟩
theorem c_slKeys (hh : (cutAt 32 u).headD [] = wKeys) : Tri Tryz.prog 39 [worldV w q, St u] L (LineV L0 (lineW w (cutAt 32 u)) (lineS w (cutAt 32 u))) := by
  obtain ⟨ws, hws⟩ : ∃ ws, cutAt 32 u = ws := ⟨_, rfl⟩
  have h0 : 0 < ws.length := by rw [← hws]; exact List.length_pos_iff.2 (cutAt_ne 32 u)
  have hmax : ∀ x ∈ ws, x.length ≤ 1000000 := fun x hx => by have := cutAt_pieces 32 u x (by rw [hws]; exact hx); omega
  have hcut : ∀ {L : List Ent}, Tri Tryz.prog 14 [St u, u8 32] L (fun v L' => ∃ sl es, v = Sl.v sl ∧ Row encTx 9 sl ws es ∧ L' = es ++ L) := fun {L} => hws ▸ c_l1Cut u 32 hu
  rw [hws] at hh ⊢
  clear hws
  have hS : lineS w ws = keysText (keysOf w) := lineS_keys hh
  have hW : lineW w ws = w := lineW_none (by rw [hh]; rfl)
  rw [hS, hW]
  clear hW hS
  obtain ⟨ks, hks⟩ : ∃ ks, keysOf w = ks := ⟨_, rfl⟩
  have hkl := keysOf_len w
  have hkr := keysOf_range w
  have hwk : ∀ {L1 : List Ent}, WldAt L1 w q ps ss ms → Tri Tryz.prog 78 [worldV w q] L1 (fun v L' => ∃ s es, v = Sl.v s ∧ Row encInt 3 s ks es ∧ L' = es ++ L1) := fun hat => hks ▸ c_sWorldKeys2 w q ps ss ms hat hw
  rw [hks] at hkl hkr ⊢
  clear hks
  refine Tri.perm ?_ hL
  refine Tri.of Tryz.func39 rfl rfl Tryz.ntmps39 rfl rfl ?_
  (repeat' (first | refine nI ?_ | (refine nA ?_; intro _) | (refine nW ?_; first | (refine op_call_id ?_; refine op_call rfl (hcut) rfl ?_; rintro _ _ ⟨⟨aw, nw, cw⟩, ew, rfl, hrw, rfl⟩) | refine op_val rfl (by exact kStr) ?_) | (refine WR_id ?_; refine WR_pure rfl rfl rfl (by exact kStr) ?_) | refine nY ?_ | refine WA_alt ?_ ?_ | refine WC_regionN [2] rfl ?_ | refine WC_block ?_ | refine WC_drawL (id := 4) (ops := o39x4T8) r39x4T8 (by kernel_rfl) rfl ?_ | refine WC_drawL (id := 6) (ops := o39x6T8) r39x6T8 (by kernel_rfl) rfl ?_ | refine WC_cond rfl (fun hc => ?_) (fun hc => ?_)))
  rename_i b2 b4
  obtain ⟨rfl, hbig, bz, oz, cz, Tz, fz, rfl, hmz, hgz⟩ := first_wordS hrw.at hh h0
  simp only [big] at hbig
  (repeat' (first | refine nI ?_ | (refine nA ?_; intro _) | (refine nW ?_; first | (refine op_load_id ?_; refine op_val rfl (by exact val_load1 rfl rfl rfl (by exact kM) hgz) ?_) | (refine op_call_id ?_; refine op_call rfl (hwk (hown.at.mono (by exact kS))) rfl ?_; rintro _ _ ⟨⟨ak, nk, ck⟩, ek9, rfl, hrk, rfl⟩) | refine op_val rfl (by exact kStr) ?_) | (refine WR_id ?_; refine WR_pure rfl rfl rfl (by exact kStr) ?_) | (refine WR_id ?_; refine WR_load rfl rfl rfl (by exact val_load1 rfl rfl rfl (by exact kM) hgz) (by exact kS) ?_) | refine nY ?_ | refine WA_alt ?_ ?_ | refine nR ?_ | refine WC_drawL (id := 4) (ops := o39x4T8) r39x4T8 (by kernel_rfl) rfl ?_ | refine WC_drawL (id := 6) (ops := o39x6T8) r39x6T8 (by kernel_rfl) rfl ?_ | refine WC_cond rfl (fun hc => ?_) (fun hc => ?_)))
  obtain ⟨hnk, _, hbk, hrk3⟩ := hrk.at
  dsimp only at hrk3 hnk
  subst hnk
  simp only [big] at hbk
  refine WC_loop (fun mz Ez Mz => ∃ (k : Nat) (out : Str), k + mz = (ks).length ∧ Ez = [(2, .pointer (some ⟨b2, 0, none⟩)), (4, .pointer (some ⟨b4, 0, none⟩)), (7, .slice ak ks.length ck), (8, St out), (9, I k)] ∧ Mz = (b4, cellsO (worldC World.zero WSl.nil) 62) :: (b2, cellsO (worldC w q) 62) :: (ek9 ++ (wldE ek ec ca es sa el la ++ L0)) ∧ (out = wKeys ++ keyWords (ks.take k) ∧ out.length ≤ 10 + 21 * k)) (ks).length (by exact kQ) (by exact kL) ⟨0, wKeys, by omega, rfl, rfl, by exact ⟨by simp, by simp⟩⟩ ?_
  rintro mz Ez Mz ⟨k, out, hk, rfl, rfl, hin⟩
  rcases Nat.lt_or_ge k (ks).length with hlt | hge
  · obtain ⟨ho1, ho2⟩ := hin
    obtain ⟨y, hy⟩ : ∃ y, ks[k]? = some y := ⟨ks[k]'(by omega), by simp [hlt]⟩
    obtain ⟨b', o', cs2, T2, fr2, rfl, hm2, hrw⟩ := hrk3 (by omega)
    have hrow'' := hrw k _ hy
    have hyr := hkr y (List.mem_of_getElem? hy)
    have hd := dec_len y
    (repeat' (first | refine nI ?_ | (refine nA ?_; intro _) | (refine nW ?_; first | (refine op_call_id ?_; refine op_ro rfl rfl (by exact c_l6Dec y (by omega) (by omega)) ?_) | refine op_val rfl (by exact kStr) ?_) | (refine WR_id ?_; refine WR_pure rfl rfl rfl (by exact kStr) ?_) | refine nY ?_ | refine WA_alt ?_ ?_ | refine nR ?_ | refine WC_drawL (id := 4) (ops := o39x4T8) r39x4T8 (by kernel_rfl) rfl ?_ | refine WC_drawL (id := 6) (ops := o39x6T8) r39x6T8 (by kernel_rfl) rfl ?_ | refine WC_cond rfl (fun hc => ?_) (fun hc => ?_)))
    exact loopQ_next ⟨mz - 1, _, _, by omega, by exact kQ, by exact kL, k + 1, out ++ [32] ++ dec y, by omega, rfl, rfl, by exact ⟨by rw [take_next hy, keyWords_next, ho1]; simp, by simp only [List.length_append, List.length_cons, List.length_nil]; omega⟩⟩
  · obtain ⟨ho1, ho2⟩ := hin
    rw [take_all hge] at ho1
    have hfin : keysText ks = out ++ [10] := by rw [ho1]; simp [keysText]
    rw [hfin]
    (repeat' (first | refine nI ?_ | (refine nA ?_; intro _) | (refine nW ?_; first | refine op_val rfl (by exact kStr) ?_) | (refine WR_id ?_; refine WR_pure rfl rfl rfl (by exact kStr) ?_) | refine nY ?_ | refine WA_alt ?_ ?_ | refine nR ?_ | refine WC_drawL (id := 4) (ops := o39x4T8) r39x4T8 (by kernel_rfl) rfl ?_ | refine WC_drawL (id := 6) (ops := o39x6T8) r39x6T8 (by kernel_rfl) rfl ?_ | refine WC_cond rfl (fun hc => ?_) (fun hc => ?_)))
    refine ret_ret (by exact kR) ?_; exact ⟨wldE ek ec ca es sa el la ++ L0, by exact kP, q, ps, ss, ms, ek, ec, ca, es, sa, el, la, rfl, hown, rfl⟩
theorem c_slWhat (hk : known ((cutAt 32 u).headD []) = false) (h1 : (cutAt 32 u).headD [] ≠ wLog) (h2 : (cutAt 32 u).headD [] ≠ wKeys) : Tri Tryz.prog 39 [worldV w q, St u] L (LineV L0 (lineW w (cutAt 32 u)) (lineS w (cutAt 32 u))) := by
  obtain ⟨y, hh⟩ : ∃ y, (cutAt 32 u).headD [] = y := ⟨_, rfl⟩
  have hS : lineS w (cutAt 32 u) = tWhat := lineS_what hk h1 h2
  have hW : lineW w (cutAt 32 u) = w := lineW_none hk
  obtain ⟨n1, n2, n3, n4, n5, n6, n7⟩ := known_false hk
  rw [hh] at n1 n2 n3 n4 n5 n6 n7 h1 h2
  clear hk
  obtain ⟨ws, hws⟩ : ∃ ws, cutAt 32 u = ws := ⟨_, rfl⟩
  have h0 : 0 < ws.length := by rw [← hws]; exact List.length_pos_iff.2 (cutAt_ne 32 u)
  have hmax : ∀ x ∈ ws, x.length ≤ 1000000 := fun x hx => by have := cutAt_pieces 32 u x (by rw [hws]; exact hx); omega
  have hcut : ∀ {L : List Ent}, Tri Tryz.prog 14 [St u, u8 32] L (fun v L' => ∃ sl es, v = Sl.v sl ∧ Row encTx 9 sl ws es ∧ L' = es ++ L) := fun {L} => hws ▸ c_l1Cut u 32 hu
  rw [hws] at hh hS hW ⊢
  clear hws
  rw [hS, hW]
  clear hW hS
  have hk0 : kindOf y = 0 := by simp [kindOf, n1, n2, n3, n4, n5, n6]
  refine Tri.perm ?_ hL
  refine Tri.of Tryz.func39 rfl rfl Tryz.ntmps39 rfl rfl ?_
  (repeat' (first | refine nI ?_ | (refine nA ?_; intro _) | (refine nW ?_; first | (refine op_call_id ?_; refine op_call rfl (hcut) rfl ?_; rintro _ _ ⟨⟨aw, nw, cw⟩, ew, rfl, hrw, rfl⟩) | refine op_val rfl (by exact kStr) ?_) | (refine WR_id ?_; refine WR_pure rfl rfl rfl (by exact kStr) ?_) | refine nY ?_ | refine WA_alt ?_ ?_ | refine WC_regionN [2] rfl ?_ | refine WC_block ?_ | refine WC_drawL (id := 4) (ops := o39x4T8) r39x4T8 (by kernel_rfl) rfl ?_ | refine WC_drawL (id := 6) (ops := o39x6T8) r39x6T8 (by kernel_rfl) rfl ?_ | refine WC_cond rfl (fun hc => ?_) (fun hc => ?_)))
  rename_i b2 b4
  obtain ⟨rfl, hbig, bz, oz, cz, Tz, fz, rfl, hmz, hgz⟩ := first_wordS hrw.at hh h0
  simp only [big] at hbig
  (repeat' (first | refine nI ?_ | (refine nA ?_; intro _) | (refine nW ?_; first | (refine op_call_id ?_; refine op_ro rfl rfl (by exact (c_l31Kind y).eq (congrArg I hk0)) ?_) | (refine op_load_id ?_; refine op_val rfl (by exact val_load1 rfl rfl rfl (by exact kM) hgz) ?_) | refine op_val rfl (by exact kStr) ?_) | (refine WR_id ?_; refine WR_pure rfl rfl rfl (by exact kStr) ?_) | (refine WR_id ?_; refine WR_load rfl rfl rfl (by exact val_load1 rfl rfl rfl (by exact kM) hgz) (by exact kS) ?_) | refine nY ?_ | refine WA_alt ?_ ?_ | refine nR ?_ | refine WC_drawL (id := 4) (ops := o39x4T8) r39x4T8 (by kernel_rfl) rfl ?_ | refine WC_drawL (id := 6) (ops := o39x6T8) r39x6T8 (by kernel_rfl) rfl ?_ | refine WC_cond rfl (fun hc => ?_) (fun hc => ?_)))
  refine ret_ret (by exact kR) ?_; exact ⟨wldE ek ec ca es sa el la ++ L0, by exact kP, q, ps, ss, ms, ek, ec, ca, es, sa, el, la, rfl, hown, rfl⟩
theorem c_l31Line : Tri Tryz.prog 39 [worldV w q, St u] L (LineV L0 (lineW w (cutAt 32 u)) (lineS w (cutAt 32 u))) := by
  cases hk : known ((cutAt 32 u).headD []) with
  | true =>
    rcases known_iff.1 hk with h | h | h | h | h | h | h
    · exact c_slAs w q ps ss ms ek ec ca es sa el la hL hw hown hte u hu h
    · exact c_slTgs w q ps ss ms ek ec ca es sa el la hL hw hown hte u hu h
    · exact c_slAp w q ps ss ms ek ec ca es sa el la hL hw hown hte u hu h
    · exact c_slBring w q ps ss ms ek ec ca es sa el la hL hw hown hte u hu h
    · exact c_slTick w q ps ss ms ek ec ca es sa el la hL hw hown hte u hu h
    · exact c_slFall w q ps ss ms ek ec ca es sa el la hL hw hown hte u hu h
    · exact c_slMeet w q ps ss ms ek ec ca es sa el la hL hw hown hte u hu h
  | false =>
    by_cases h1 : (cutAt 32 u).headD [] = wLog
    · exact c_slLog w q ps ss ms ek ec ca es sa el la hL hw hown hte u hu h1
    · by_cases h2 : (cutAt 32 u).headD [] = wKeys
      · exact c_slKeys w q ps ss ms ek ec ca es sa el la hL hw hown hte u hu h2
      · exact c_slWhat w q ps ss ms ek ec ca es sa el la hL hw hown hte u hu hk h1 h2
end
end Go.Proofs.YtoledfhjmdpihaaGreatDoor
/- The reference: lines are done, the whole of it. -/
set_option linter.unusedVariables false
set_option linter.unusedSectionVars false
set_option linter.unusedSimpArgs false
namespace Go.Proofs.YtoledfhjmdpihaaGreatDoor
open Go Go.Proofs Go.Proofs.YtoledfhjmdpihaaGreatDoor.VE
attribute [local irreducible] Val Op1 WO WR WA WC seqQ blockQ loopQ retQ
noncomputable def o13x11T9 : Array Oper := cops (cl (cl (cl (cr (cl (cl (cr (cl (cr (cr (cr (cr (cr (cr (codeOf Tryz.f13)))))))))))))))
noncomputable def o13x21T9 : Array Oper := cops (cr (cl (cl (cr (cl (cl (cr (cl (cl (cr (cl (cl (cr (cl (cr (cr (cr (cr (cr (cr (cr (codeOf Tryz.f13))))))))))))))))))))))
noncomputable def o13x25T9 : Array Oper := cops (cl (cl (cr (cl (cl (cr (cl (cr (cr (cr (cr (cr (cr (cr (cr (codeOf Tryz.f13))))))))))))))))
noncomputable def r13x11T9 : Run := (.st 0 1 (.st 1 0 (.st 2 0 (.st 3 0 (.st 4 1 (.alt (.st 5 3 (.st 6 0 (.st 7 0 (.st 8 0 (.st 9 3 (.st 10 3 (.st 11 0 .done))))))) (.st 9 2 (.st 5 3 (.st 6 0 (.st 7 0 (.st 8 0 (.st 10 3 (.st 11 0 .done)))))))))))))
noncomputable def r13x21T9 : Run := (.st 0 0 (.st 1 0 (.st 2 1 (.st 6 0 (.st 7 1 (.st 8 0 (.st 9 0 (.st 10 0 (.st 11 1 (.st 15 0 (.st 16 1 (.st 3 2 (.st 4 0 (.st 5 0 (.st 12 2 (.st 13 0 (.st 14 0 (.st 17 3 (.st 18 0 (.st 19 0 (.st 20 0 .done)))))))))))))))))))))
noncomputable def r13x25T9 : Run := (.st 0 0 (.st 1 0 (.st 2 1 (.st 3 0 (.st 4 0 (.st 5 0 (.st 6 1 (.st 10 0 (.st 11 1 (.st 12 0 (.st 13 0 (.st 14 0 (.st 15 1 (.st 16 0 (.st 7 2 (.st 8 0 (.st 9 0 (.st 17 3 (.st 18 0 (.st 19 0 (.st 20 0 .done)))))))))))))))))))))
set_option maxHeartbeats 8000000
theorem lines_cut {t u : Str} {k : Nat} (h : (linesOf t)[k]? = some u) : (cutAt 10 t)[k]? = some u := by
  unfold linesOf at h
  have hk := (List.getElem?_eq_some_iff.1 h).1
  rw [List.length_dropLast] at hk
  rw [List.dropLast_eq_take, List.getElem?_take_of_lt (by omega)] at h
  exact h
theorem c_sLinesRun0 {L : List Ent} (bad : Int) (text : Str) (hb : within bad 0 3 = false) : RO Tryz.prog 13 [I bad, St text] L (St tNoWorld) := by
  refine Tri.of Tryz.func13 rfl rfl Tryz.ntmps13 rfl rfl ?_
  (repeat' (first | refine nI ?_ | (refine nA ?_; intro _) | (refine nW ?_; first | (refine op_call_id ?_; refine op_ro rfl rfl (by exact c_sWorldNew0 bad hb) ?_) | refine op_val rfl (by exact kStr) ?_) | (refine WR_id ?_; refine WR_pure rfl rfl rfl (by exact kStr) ?_) | refine nY ?_ | refine WA_alt ?_ ?_ | refine nR ?_ | refine WC_drawL (id := 11) (ops := o13x11T9) r13x11T9 (by kernel_rfl) rfl ?_ | refine WC_drawL (id := 21) (ops := o13x21T9) r13x21T9 (by kernel_rfl) rfl ?_ | refine WC_drawL (id := 25) (ops := o13x25T9) r13x25T9 (by kernel_rfl) rfl ?_ | refine WC_cond rfl (fun hc => ?_) (fun hc => ?_)))
  refine ro_ret (by exact kR) (by exact kL) ?_; rfl
theorem c_sLinesRun1 {L : List Ent} (bad : Int) (text : Str) (hb : within bad 0 3 = true) (h600 : 600 < text.length) : RO Tryz.prog 13 [I bad, St text] L (St tTooLong) := by
  refine Tri.of Tryz.func13 rfl rfl Tryz.ntmps13 rfl rfl ?_
  (repeat' (first | refine nI ?_ | (refine nA ?_; intro _) | (refine nW ?_; first | (refine op_call_id ?_; refine op_call rfl (c_sWorldNew1 bad hb) rfl ?_; rintro _ _ ⟨q, ps, ss, ms, ek, ec, ca, es, sa, el, la, rfl, hown, rfl⟩) | refine op_val rfl (by exact kStr) ?_) | (refine WR_id ?_; refine WR_pure rfl rfl rfl (by exact kStr) ?_) | refine nY ?_ | refine WA_alt ?_ ?_ | refine nR ?_ | refine WC_drawL (id := 11) (ops := o13x11T9) r13x11T9 (by kernel_rfl) rfl ?_ | refine WC_drawL (id := 21) (ops := o13x21T9) r13x21T9 (by kernel_rfl) rfl ?_ | refine WC_drawL (id := 25) (ops := o13x25T9) r13x25T9 (by kernel_rfl) rfl ?_ | refine WC_cond rfl (fun hc => ?_) (fun hc => ?_)))
  refine ro_ret (by exact kR) (by exact kL) ?_; rfl
theorem c_sLinesRun2 {L : List Ent} (bad : Int) (text : Str) (hb : within bad 0 3 = true) (h600 : text.length ≤ 600) : RO Tryz.prog 13 [I bad, St text] L (St (linesRun bad text)) := by
  have hbb := within_iff.1 hb
  rw [lo_3 hbb h600]
  have hnl := linesOf_len text
  have hlo : (cutAt 10 text).length ≤ 601 := by
    rw [cutAt_len]
    have := List.count_le_length (a := (10 : UInt8)) (l := text)
    omega
  have hcpos : 0 < (cutAt 10 text).length := List.length_pos_iff.2 (cutAt_ne 10 text)
  refine Tri.of Tryz.func13 rfl rfl Tryz.ntmps13 rfl rfl ?_
  (repeat' (first | refine nI ?_ | (refine nA ?_; intro _) | (refine nW ?_; first | (refine op_call_id ?_; refine op_call rfl (c_sWorldNew1 bad hb) rfl ?_; rintro _ _ ⟨q0, ps0, ss0, ms0, ek0, ec0, ca0, es0, sa0, el0, la0, rfl, hown0, rfl⟩) | (refine op_call_id ?_; refine op_call rfl (c_l1Cut text 10 (by omega)) rfl ?_; rintro _ _ ⟨⟨aw, nw, cw⟩, ew, rfl, hrw, rfl⟩) | refine op_val rfl (by exact kStr) ?_) | (refine WR_id ?_; refine WR_pure rfl rfl rfl (by exact kStr) ?_) | refine nY ?_ | refine WA_alt ?_ ?_ | refine nR ?_ | refine WC_drawL (id := 11) (ops := o13x11T9) r13x11T9 (by kernel_rfl) rfl ?_ | refine WC_drawL (id := 21) (ops := o13x21T9) r13x21T9 (by kernel_rfl) rfl ?_ | refine WC_drawL (id := 25) (ops := o13x25T9) r13x25T9 (by kernel_rfl) rfl ?_ | refine WC_cond rfl (fun hc => ?_) (fun hc => ?_)))
  rename_i b5
  obtain ⟨hnw, hcw, hbw, hatw⟩ := hrw.at
  dsimp only at hnw hcw hatw
  subst hnw
  simp only [big] at hbw
  refine WC_loop (fun mz Ez Mz => ∃ (k : Nat) (rest : Str) (w : World) (q : WSl) (ps : List (Client × CSl)) (ss : List (Serv × (Sl × Sl))) (ms : List (Msg × Sl)) (ek ec ca es sa el la : List Ent) (o : Str), k + mz = (linesOf text).length ∧ Ez = [(5, .pointer (some ⟨b5, 0, none⟩)), (7, St o), (8, .slice aw (cutAt 10 text).length cw), (9, I k)] ∧ Mz = (b5, cellsO (worldC w q) 62) :: (wldE ek ec ca es sa el la ++ (ew ++ L)) ∧ (cutAt 10 rest = (cutAt 10 text).drop k ∧ rest.length ≤ text.length ∧ linesFrom (worldNew bad) ((linesOf text).take k) = (w, o) ∧ WOk w ∧ TookLe (2 * (text.length - rest.length)) w ∧ WldOwn w q ps ss ms ek ec ca es sa el la ∧ o.length ≤ 40000 * k)) (linesOf text).length (by exact kQ) (by exact kL) ⟨0, text, worldNew bad, q0, ps0, ss0, ms0, ek0, ec0, ca0, es0, sa0, el0, la0, [], by omega, rfl, rfl, by exact ⟨rfl, Nat.le_refl _, linesFrom_none, new_ok hbb, (fun s hs => by simp [worldNew, servNew] at hs; rcases hs with rfl | rfl <;> simp), hown0, by simp⟩⟩ ?_
  rintro mz Ez Mz ⟨k, rest, w, q, ps, ss, ms, ek, ec, ca, es, sa, el, la, o, hk, rfl, rfl, hin⟩
  rcases Nat.lt_or_ge k (linesOf text).length with hlt | hge
  · obtain ⟨hcut, hrl, hfr, hok, htk, hown, hol⟩ := hin
    obtain ⟨u, r, rfl, hu, hku, hr⟩ := text_step hcut hlt
    have hlen : (u ++ 10 :: r).length = u.length + 1 + r.length := by simp; omega
    rw [hlen] at hrl htk
    have hsl := lineS_len hok (cutAt 32 u)
    have hkc := lines_cut hku
    obtain ⟨b', o', cs2, T2, fr2, rfl, hm2, hrw2⟩ := hatw (by omega)
    have hrow2 := hrw2 k _ hkc
    have hget2 := takeC_get (k := 0) hrow2 (v := St u) rfl
    have he2 : o' + k * encTx.sz + 0 = o' + ((k : Int)).toNat * 1 := by simp [encTx]
    rw [he2] at hget2
    (repeat' (first | refine nI ?_ | (refine nA ?_; intro _) | (refine nW ?_; first | (refine op_load_id ?_; refine op_val rfl (by exact val_load1 rfl rfl rfl (by exact kM) hget2) ?_) | (refine op_call_id ?_; refine op_call rfl (c_l31Line w q ps ss ms ek ec ca es sa el la (by exact kE) hok hown (htk.up (by omega)) u (by omega)) rfl ?_; rintro _ _ ⟨q9, ps9, ss9, ms9, ek9, ec9, ca9, es9, sa9, el9, la9, rfl, ho9, rfl⟩) | refine op_val rfl (by exact kStr) ?_) | (refine WR_id ?_; refine WR_pure rfl rfl rfl (by exact kStr) ?_) | (refine WR_id ?_; refine WR_load rfl rfl rfl (by exact val_load1 rfl rfl rfl (by exact kM) hget2) (by exact kS) ?_) | refine nY ?_ | refine WA_alt ?_ ?_ | refine nR ?_ | refine WC_draw (id := 11) (ops := o13x11T9) ([(b5, cellsO (worldC w q) 62), (b', Obj.cells cs2.toArray T2 fr2)]) r13x11T9 (by kernel_rfl) rfl ?_ | refine WC_drawL (id := 21) (ops := o13x21T9) r13x21T9 (by kernel_rfl) rfl ?_ | refine WC_drawL (id := 25) (ops := o13x25T9) r13x25T9 (by kernel_rfl) rfl ?_ | refine WC_cond rfl (fun hc => ?_) (fun hc => ?_)))
    all_goals (exact loopQ_next ⟨mz - 1, _, _, by omega, by exact kQ, by exact kL, k + 1, r, lineW w (cutAt 32 u), q9, ps9, ss9, ms9, ek9, ec9, ca9, es9, sa9, el9, la9, o ++ lineS w (cutAt 32 u), by omega, rfl, rfl, by exact ⟨hr, by omega, by rw [linesFrom_next hku, hfr]; rfl, lineW_ok hok _, (lineW_took htk).up (by omega), ho9, by rw [List.length_append]; omega⟩⟩)
  obtain ⟨hcut, hrl, hfr, hok, htk, hown, hol⟩ := hin
  rw [linesFrom_all hge] at hfr
  have hkl : k ≤ 601 := by omega
  have ho9 : o.length ≤ 24040000 := by omega
  rw [hfr]
  dsimp only
  have hat := hown.at
  obtain ⟨kc, ⟨ac, nc, cc⟩, ⟨av, nv, cv⟩, ls⟩ := q
  obtain ⟨hnP, hcP, hbP, hrP⟩ := hat.pr
  obtain ⟨hnS, hcS, hbS, hrS⟩ := hat.sr
  have hpa := hat.pa
  have hsa := hat.sa
  have hpe := hat.pe
  have hsE := hat.se
  dsimp only at hnP hnS hcP hcS hrP hrS
  subst hnP hnS
  simp only [big] at hbP hbS
  have hp3 : ps.length = 3 := by rw [← List.length_map (f := Prod.fst), hpe]; exact hok.cl
  have hs2 : ss.length = 2 := by rw [← List.length_map (f := Prod.fst), hsE]; exact hok.sl
  have htk2 : TookLe 1200 w := htk.up (by omega)
  have hkw : (linesOf text).length ≤ k := hge
  (repeat' (first | refine nI ?_ | (refine nA ?_; intro _) | (refine nW ?_; first | refine op_val rfl (by exact kStr) ?_) | (refine WR_id ?_; refine WR_pure rfl rfl rfl (by exact kStr) ?_) | refine nY ?_ | refine WA_alt ?_ ?_ | refine nR ?_ | refine WC_drawL (id := 11) (ops := o13x11T9) r13x11T9 (by kernel_rfl) rfl ?_ | refine WC_drawL (id := 21) (ops := o13x21T9) r13x21T9 (by kernel_rfl) rfl ?_ | refine WC_drawL (id := 25) (ops := o13x25T9) r13x25T9 (by kernel_rfl) rfl ?_ | refine WC_cond rfl (fun hc => ?_) (fun hc => ?_)))
  clear htk hol hkl hk hcut hrl hfr hge hkw
  refine WC_loop (fun mz Ez Mz => ∃ (k : Nat) (o2 : Str), k + mz = (ss).length ∧ Ez = [(5, .pointer (some ⟨b5, 0, none⟩)), (7, St o2), (12, I k)] ∧ Mz = (b5, cellsO (worldC w ⟨kc, ⟨ac, ps.length, cc⟩, ⟨av, ss.length, cv⟩, ls⟩) 62) :: (wldE ek ec ca es sa el la ++ L) ∧ (o2 = o ++ servLines ((ss.take k).map Prod.fst) ∧ o2.length ≤ 24040000 + 100000 * k)) (ss).length (by exact kQ) (by exact kL) ⟨0, o, by omega, rfl, rfl, by exact ⟨by simp, by omega⟩⟩ ?_
  rintro mz Ez Mz ⟨k, o2, hk, rfl, rfl, hin⟩
  rcases Nat.lt_or_ge k (ss).length with hlt | hge
  · obtain ⟨he2, hl2⟩ := hin
    obtain ⟨⟨s, ⟨sc, ⟨ta, tn, tc⟩⟩⟩, hy⟩ : ∃ y, ss[k]? = some y := ⟨ss[k]'(by omega), by simp [hlt]⟩
    obtain ⟨b'2, o'2, cs2, T2, fr2, rfl, hm2, hrw⟩ := hrS (by omega)
    have hrow'' := hrw k _ hy
    have hs : s ∈ w.servs := by rw [← hsE]; exact List.mem_map_of_mem (List.mem_of_getElem? hy)
    have hsk : w.servs[k]? = some s := by rw [← hsE, List.getElem?_map, hy]; rfl
    have hsok := (hok.ss k s hsk).1
    have hsid := hsok.id
    have htk3 := htk2 s hs
    obtain ⟨hnT, hcT, hbT, hrT⟩ := (hsa _ (List.mem_of_getElem? hy)).t
    dsimp only at hnT hrT
    subst hnT
    simp only [big] at hbT
    (repeat' (first | refine nI ?_ | (refine nA ?_; intro _) | (refine nW ?_; first | refine op_val rfl (by exact kStr) ?_) | (refine WR_id ?_; refine WR_pure rfl rfl rfl (by exact kStr) ?_) | refine nY ?_ | refine WA_alt ?_ ?_ | refine nR ?_ | refine WC_drawL (id := 11) (ops := o13x11T9) r13x11T9 (by kernel_rfl) rfl ?_ | refine WC_drawL (id := 21) (ops := o13x21T9) r13x21T9 (by kernel_rfl) rfl ?_ | refine WC_drawL (id := 25) (ops := o13x25T9) r13x25T9 (by kernel_rfl) rfl ?_ | refine WC_cond rfl (fun hc => ?_) (fun hc => ?_)))
    refine WC_loop (fun mzj Ezj Mzj => ∃ (kj : Nat) (o3 : Str), kj + mzj = (s.took).length ∧ Ezj = [(5, .pointer (some ⟨b5, 0, none⟩)), (7, St o3), (12, I k), (13, I kj)] ∧ Mzj = (b5, cellsO (worldC w ⟨kc, ⟨ac, ps.length, cc⟩, ⟨some ⟨b'2, o'2, none⟩, ss.length, cv⟩, ls⟩) 62) :: (wldE ek ec ca es sa el la ++ L) ∧ (o3 = o2 ++ tookLines s.id (s.took.take kj) ∧ o3.length ≤ 24040000 + 100000 * k + 80 * kj)) (s.took).length (by exact kQ) (by exact kL) ⟨0, o2, by omega, rfl, rfl, by exact ⟨by simp, by omega⟩⟩ ?_
    rintro mzj Ezj Mzj ⟨kj, o3, hkj, rfl, rfl, hinj⟩
    rcases Nat.lt_or_ge kj (s.took).length with hltj | hgej
    · obtain ⟨he4, hl4⟩ := hinj
      obtain ⟨x, hx⟩ : ∃ x, s.took[kj]? = some x := ⟨s.took[kj]'(by omega), by simp [hltj]⟩
      obtain ⟨b'3, o'3, cs3, T3, fr3, rfl, hm3, hrw3⟩ := hrT (by omega)
      have hrow3 := hrw3 kj _ hx
      obtain ⟨x1, x2, x3, x4⟩ := tookOk_cases (hsok.took x (List.mem_of_getElem? hx))
      have d1 := dec_len x.peer
      have d2 := dec_len s.id
      have d3 := dec_len x.time
      have hl5 := tookLine_len s.id x
      (repeat' (first | refine nI ?_ | (refine nA ?_; intro _) | (refine nW ?_; first | refine op_val rfl (by exact kStr) ?_) | (refine WR_id ?_; refine WR_pure rfl rfl rfl (by exact kStr) ?_) | refine nY ?_ | refine WA_alt ?_ ?_ | refine nR ?_ | refine WC_drawL (id := 11) (ops := o13x11T9) r13x11T9 (by kernel_rfl) rfl ?_ | refine WC_drawL (id := 25) (ops := o13x25T9) r13x25T9 (by kernel_rfl) rfl ?_ | refine WC_cond rfl (fun hc => ?_) (fun hc => ?_)))
      rename_i b14
      (repeat' (first | refine nI ?_ | (refine nA ?_; intro _) | (refine nW ?_; first | (refine op_call_id ?_; refine op_ro rfl rfl (by first | exact c_l6Dec x.peer (by omega) (by omega) | exact c_l6Dec s.id (by omega) (by omega) | exact c_l6Dec x.time (by omega) (by omega)) ?_) | refine op_val rfl (by exact kStr) ?_) | (refine WR_id ?_; refine WR_pure rfl rfl rfl (by exact kStr) ?_) | refine nY ?_ | refine WA_alt ?_ ?_ | refine nR ?_ | refine WC_drawL (id := 11) (ops := o13x11T9) r13x11T9 (by kernel_rfl) rfl ?_ | refine WC_draw (id := 21) (ops := o13x21T9) ([(b14, cellsO (callC x) 79), (b5, cellsO (worldC w ⟨kc, ⟨ac, ps.length, cc⟩, ⟨some ⟨b'2, o'2, none⟩, ss.length, cv⟩, ls⟩) 62), (b'2, Obj.cells cs2.toArray T2 fr2)]) r13x21T9 (by kernel_rfl) rfl ?_ | refine WC_drawL (id := 25) (ops := o13x25T9) r13x25T9 (by kernel_rfl) rfl ?_ | refine WC_cond rfl (fun hc => ?_) (fun hc => ?_)))
      exact loopQ_next ⟨mzj - 1, _, _, by omega, by exact kQ, by exact kL, kj + 1, o3 ++ dec x.peer ++ [32, 99, 97, 108, 108, 101, 100, 32] ++ dec s.id ++ [32, 97, 116, 32] ++ dec x.time ++ [10], by omega, rfl, rfl, by exact ⟨by rw [take_next hx, tookLines_next, he4]; simp [tookLine], by simp only [List.length_append, List.length_cons, List.length_nil] at hl4 ⊢; simp only [tookLine, List.length_append, List.length_cons, List.length_nil] at hl5; omega⟩⟩
    · obtain ⟨he4, hl4⟩ := hinj
      rw [take_all hgej] at he4
      (repeat' (first | refine nI ?_ | (refine nA ?_; intro _) | (refine nW ?_; first | refine op_val rfl (by exact kStr) ?_) | (refine WR_id ?_; refine WR_pure rfl rfl rfl (by exact kStr) ?_) | refine nY ?_ | refine WA_alt ?_ ?_ | refine nR ?_ | refine WC_drawL (id := 11) (ops := o13x11T9) r13x11T9 (by kernel_rfl) rfl ?_ | refine WC_drawL (id := 21) (ops := o13x21T9) r13x21T9 (by kernel_rfl) rfl ?_ | refine WC_drawL (id := 25) (ops := o13x25T9) r13x25T9 (by kernel_rfl) rfl ?_ | refine WC_cond rfl (fun hc => ?_) (fun hc => ?_)))
      exact loopQ_next ⟨mz - 1, _, _, by omega, by exact kQ, by exact kL, k + 1, o3, by omega, rfl, rfl, by exact ⟨by rw [take_next hy, List.map_append, List.map_cons, List.map_nil, servLines_next, he4, he2, List.append_assoc], by omega⟩⟩
  obtain ⟨he2, hl2⟩ := hin
  rw [take_all hge, hsE] at he2
  have hl3 : o2.length ≤ 24040000 + 200000 := by omega
  (repeat' (first | refine nI ?_ | (refine nA ?_; intro _) | (refine nW ?_; first | refine op_val rfl (by exact kStr) ?_) | (refine WR_id ?_; refine WR_pure rfl rfl rfl (by exact kStr) ?_) | refine nY ?_ | refine WA_alt ?_ ?_ | refine nR ?_ | refine WC_drawL (id := 11) (ops := o13x11T9) r13x11T9 (by kernel_rfl) rfl ?_ | refine WC_drawL (id := 21) (ops := o13x21T9) r13x21T9 (by kernel_rfl) rfl ?_ | refine WC_drawL (id := 25) (ops := o13x25T9) r13x25T9 (by kernel_rfl) rfl ?_ | refine WC_cond rfl (fun hc => ?_) (fun hc => ?_)))
  clear hl2 hk hge
  refine WC_loop (fun mz Ez Mz => ∃ (k : Nat) (o3 : Str), k + mz = (ps).length ∧ Ez = [(5, .pointer (some ⟨b5, 0, none⟩)), (7, St o3), (15, I k)] ∧ Mz = (b5, cellsO (worldC w ⟨kc, ⟨ac, ps.length, cc⟩, ⟨av, ss.length, cv⟩, ls⟩) 62) :: (wldE ek ec ca es sa el la ++ L) ∧ (o3 = o2 ++ metLines ((ps.take k).map Prod.fst) ∧ o3.length ≤ 24240000 + 60 * k)) (ps).length (by exact kQ) (by exact kL) ⟨0, o2, by omega, rfl, rfl, by exact ⟨by simp, by omega⟩⟩ ?_
  rintro mz Ez Mz ⟨k, o3, hk, rfl, rfl, hin⟩
  rcases Nat.lt_or_ge k (ps).length with hlt | hge
  · obtain ⟨he4, hl4⟩ := hin
    obtain ⟨⟨u, ⟨sw, scr, sst, ⟨ma, mn, mc⟩⟩⟩, hy⟩ : ∃ y, ps[k]? = some y := ⟨ps[k]'(by omega), by simp [hlt]⟩
    obtain ⟨b'3, o'3, cs3, T3, fr3, rfl, hm3, hrw3⟩ := hrP (by omega)
    have hrow3 := hrw3 k _ hy
    have huk : w.clients[k]? = some u := by rw [← hpe, List.getElem?_map, hy]; rfl
    have huok := (hok.cs k u huk).1
    have huid := huok.id
    have hml := huok.ml
    have hsl9 := huok.sl
    obtain ⟨hnM, _, hbM, _⟩ := (hpa _ (List.mem_of_getElem? hy)).m
    dsimp only at hnM
    subst hnM
    have d1 := dec_len u.id
    have d2 := dec_len (u.met.length : Int)
    have hl5 := metLine_len u
    (repeat' (first | refine nI ?_ | (refine nA ?_; intro _) | (refine nW ?_; first | (refine op_call_id ?_; refine op_ro rfl rfl (by first | exact c_l6Dec u.id (by omega) (by omega) | exact c_l6Dec (u.met.length : Int) (by omega) (by omega)) ?_) | refine op_val rfl (by exact kStr) ?_) | (refine WR_id ?_; refine WR_pure rfl rfl rfl (by exact kStr) ?_) | refine nY ?_ | refine WA_alt ?_ ?_ | refine nR ?_ | refine WC_drawL (id := 11) (ops := o13x11T9) r13x11T9 (by kernel_rfl) rfl ?_ | refine WC_drawL (id := 21) (ops := o13x21T9) r13x21T9 (by kernel_rfl) rfl ?_ | refine WC_draw (id := 25) (ops := o13x25T9) ([(b5, cellsO (worldC w ⟨kc, ⟨some ⟨b'3, o'3, none⟩, ps.length, cc⟩, ⟨av, ss.length, cv⟩, ls⟩) 62), (b'3, Obj.cells cs3.toArray T3 fr3)]) r13x25T9 (by kernel_rfl) rfl ?_ | refine WC_cond rfl (fun hc => ?_) (fun hc => ?_)))
    exact loopQ_next ⟨mz - 1, _, _, by omega, by exact kQ, by exact kL, k + 1, o3 ++ dec u.id ++ [32, 109, 101, 116, 32] ++ dec (u.met.length : Int) ++ [10], by omega, rfl, rfl, by exact ⟨by rw [take_next hy, List.map_append, List.map_cons, List.map_nil, metLines_next, he4]; simp [metLine], by simp only [List.length_append, List.length_cons, List.length_nil] at hl4 ⊢; simp only [metLine, List.length_append, List.length_cons, List.length_nil] at hl5; omega⟩⟩
  obtain ⟨he4, hl4⟩ := hin
  rw [take_all hge, hpe] at he4
  have hfin : o ++ (tookText w ++ metText w) = o3 := by rw [he4, he2, tookText_eq, metText_eq, List.append_assoc]
  rw [hfin]
  (repeat' (first | refine nI ?_ | (refine nA ?_; intro _) | (refine nW ?_; first | refine op_val rfl (by exact kStr) ?_) | (refine WR_id ?_; refine WR_pure rfl rfl rfl (by exact kStr) ?_) | refine nY ?_ | refine WA_alt ?_ ?_ | refine nR ?_ | refine WC_drawL (id := 11) (ops := o13x11T9) r13x11T9 (by kernel_rfl) rfl ?_ | refine WC_drawL (id := 21) (ops := o13x21T9) r13x21T9 (by kernel_rfl) rfl ?_ | refine WC_drawL (id := 25) (ops := o13x25T9) r13x25T9 (by kernel_rfl) rfl ?_ | refine WC_cond rfl (fun hc => ?_) (fun hc => ?_)))
  refine ro_ret (by exact kR) (by exact kL) ?_; rfl
theorem c_sLinesRun {L : List Ent} (bad : Int) (text : Str) : RO Tryz.prog 13 [I bad, St text] L (St (linesRun bad text)) := by
  cases hb : within bad 0 3 with
  | false =>
    rw [lo_1 (within_false.1 hb)]
    exact c_sLinesRun0 bad text hb
  | true =>
    by_cases h : 600 < text.length
    · rw [lo_2 (within_iff.1 hb) h]
      exact c_sLinesRun1 bad text hb h
    · exact c_sLinesRun2 bad text hb (by omega)
end Go.Proofs.YtoledfhjmdpihaaGreatDoor
