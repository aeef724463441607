/- The reference: a user meets a service. -/
import Derived.Test.YtoledfhjmdpihaaGreatA12
import Derived.Test.YtoledfhjmdpihaaGreatA15
import Derived.Test.YtoledfhjmdpihaaGreatA20
set_option linter.unusedVariables false
set_option linter.unusedSectionVars false
set_option linter.unusedSimpArgs false
namespace Go.Proofs.YtoledfhjmdpihaaGreat
open Go Go.Proofs Go.Proofs.YtoledfhjmdpihaaGreat.VE
attribute [local irreducible] Val Op1 WO WR WA WC seqQ blockQ loopQ retQ
noncomputable def o121x3U3 : Array Oper := cops (cl (cr (cr (codeOf Tryz.f121))))
noncomputable def r121x3U3 : Run := (.st 0 1 (.st 1 0 (.st 2 1 (.st 3 0 (.st 4 1 (.st 5 0 (.st 6 0 (.st 7 0 (.st 8 1 (.st 9 2 (.st 10 3 (.st 11 3 .done))))))))))))
set_option maxHeartbeats 8000000
theorem c_l21Last {L L0 : List Ent} (w : World) (q : WSl) (ps : List (Client × CSl)) (ss : List (Serv × (Sl × Sl))) (ms : List (Msg × Sl)) (ek ec ca es sa el la : List Ent) (hL : L.Perm (wldE ek ec ca es sa el la ++ L0)) (hw : WOk w) (hown : WldOwn w q ps ss ms ek ec ca es sa el la) (hte : TookLe 1500000 w) (n : Nat) :
    Tri Tryz.prog 121 [worldV w q, I (n : Int)] L (WldV L0 (last n w)) := by
  refine Tri.perm ?_ hL
  have hl := ms_len hown
  have hll := hw.ll
  obtain ⟨kc, cs, ss', ⟨a, nl, cap⟩⟩ := q
  have hn := hown.mr.n
  dsimp only at hn
  rw [hl] at hn
  subst hn
  by_cases hlt : n < w.log.length
  rotate_left
  · rw [last_none (by omega)]
    refine Tri.of Tryz.func121 rfl rfl Tryz.ntmps121 rfl rfl ?_
    (repeat' (first | refine nI ?_ | (refine nA ?_; intro _) | refine nY ?_ | refine WA_alt ?_ ?_ | refine nR ?_ | refine WC_drawL (id := 3) (ops := o121x3U3) r121x3U3 (by kernel_rfl) rfl ?_ | refine WC_cond rfl (fun hc => ?_) (fun hc => ?_)))
    refine ret_ret (by exact kR) ?_; exact ⟨wldE ek ec ca es sa el la ++ L0, by exact kP, _, ps, ss, ms, ek, ec, ca, es, sa, el, la, rfl, hown, rfl⟩
  obtain ⟨m, hm0⟩ : ∃ m, w.log[((w.log.length : Int) - 1).toNat]? = some m := ⟨w.log[((w.log.length : Int) - 1).toNat]'(by omega), List.getElem?_eq_getElem _⟩
  have hmok := hw.ms m (List.mem_of_getElem? hm0)
  have hml := msgOk_len hmok
  have he : last n w = bringMsg w m := by
    unfold last
    rw [if_pos hlt]
    unfold bring
    rw [if_pos (by omega)]
    have h : w.log.getD ((w.log.length : Int) - 1).toNat Msg.zero = m := getD_some hm0
    rw [h]
  rw [he]
  obtain ⟨sm, hms, hsm⟩ := hown.msg hm0
  obtain ⟨b', o', cc, T', fr, ha', hmem, hrow⟩ := hown.mr.at.2.2.2 (by omega)
  replace ha' : a = _ := ha'
  subst ha'
  have hrow' := hrow ((w.log.length : Int) - 1).toNat (m, sm) hms
  have hel : (b', Obj.cells cc.toArray T' fr) ∈ wldE ek ec ca es sa el la ++ L0 := List.mem_append_left _ (by exact kM)
  have hsm' : MsgAt (wldE ek ec ca es sa el la ++ L0) m sm := hsm.mono fun e he => List.mem_append_left _ (by exact kM)
  refine Tri.of Tryz.func121 rfl rfl Tryz.ntmps121 rfl rfl ?_
  (repeat' (first | refine nI ?_ | (refine nA ?_; intro _) | refine nY ?_ | refine WA_alt ?_ ?_ | refine nR ?_ | refine WC_cond rfl (fun hc => ?_) (fun hc => ?_)))
  rename_i b2 b4
  (repeat' (first | refine nI ?_ | (refine nA ?_; intro _) | (refine nW ?_; first | (refine op_call_id ?_; refine op_call rfl (c_l21MsgCopy m sm (hsm'.mono (by exact kS)) (by simp only [lim]; omega)) rfl ?_; rintro _ _ ⟨sm9, em9, rfl, hr9, rfl⟩) | (refine op_call_id ?_; refine op_call rfl (c_l21BringP w ⟨kc, cs, ss', ⟨some ⟨b', o', none⟩, w.log.length, cap⟩⟩ ps ss ms ek ec ca es sa el la (by exact kE) hw hown hte m sm9 (hr9.atL (by exact kS)) hmok) rfl ?_; rintro _ _ ⟨q8, ps8, ss8, ms8, ek8, ec8, ca8, es8, sa8, el8, la8, rfl, ho8, rfl⟩)) | refine nY ?_ | refine WA_alt ?_ ?_ | refine nR ?_ | refine WC_draw (id := 3) (ops := o121x3U3) ([(b2, cellsO (worldC w ⟨kc, cs, ss', ⟨some ⟨b', o', none⟩, w.log.length, cap⟩⟩) 43), (b', Obj.cells cc.toArray T' fr)]) r121x3U3 (by kernel_rfl) rfl ?_ | refine WC_cond rfl (fun hc => ?_) (fun hc => ?_)))
  refine ret_ret (by exact kR) ?_; exact ⟨wldE ek8 ec8 ca8 es8 sa8 el8 la8 ++ L0, by exact kP, q8, ps8, ss8, ms8, ek8, ec8, ca8, es8, sa8, el8, la8, rfl, ho8, rfl⟩
theorem c_l21Round {L L0 : List Ent} (w : World) (q : WSl) (ps : List (Client × CSl)) (ss : List (Serv × (Sl × Sl))) (ms : List (Msg × Sl)) (ek ec ca es sa el la : List Ent) (hL : L.Perm (wldE ek ec ca es sa el la ++ L0)) (hw : WOk w) (hown : WldOwn w q ps ss ms ek ec ca es sa el la) (hte : TookLe 1499990 w) (k a b : Int) (hk : k = 1 ∨ k = 2 ∨ k = 3) {x : World} (hx : phase w k a b = x) :
    Tri Tryz.prog 58 [worldV w q, eventV ⟨k, a, b, Msg.zero⟩ Sl.nil] L (WldV L0 x) := by
  refine Tri.perm ?_ hL
  obtain ⟨x1, hx1⟩ : ∃ x1, asks w k a b = x1 := ⟨_, rfl⟩
  obtain ⟨x2, hx2⟩ : ∃ x2, last w.log.length x1 = x2 := ⟨_, rfl⟩
  have hx3 : last (w.log.length + 1) x2 = x := by rw [← hx, ← hx2, ← hx1]; rfl
  have o1 : WOk x1 := hx1 ▸ asks_ok hw
  have o2 : WOk x2 := hx2 ▸ last_ok o1
  have t1 : TookLe 1499991 x1 := hx1 ▸ asks_took hk hte
  have t2 : TookLe 1499992 x2 := hx2 ▸ last_took t1
  have hdo : ∀ {L1 L0 : List Ent} (q : WSl) (ps : List (Client × CSl)) (ss : List (Serv × (Sl × Sl))) (ms : List (Msg × Sl)) (ek ec ca es sa el la : List Ent) (hL : L1.Perm (wldE ek ec ca es sa el la ++ L0)) (hown : WldOwn w q ps ss ms ek ec ca es sa el la),
      Tri Tryz.prog 31 [worldV w q, eventV ⟨k, a, b, Msg.zero⟩ Sl.nil] L1 (WldV L0 x1) := fun q ps ss ms ek ec ca es sa el la hL hown => by
    have h := c_l21DoP w q ps ss ms ek ec ca es sa el la hL hw hown (hte.up (by omega)) ⟨k, a, b, Msg.zero⟩ Sl.nil SliceAt.nil
    rw [← asks_step hk, hx1] at h
    exact h
  have hl2 : ∀ {L1 L0 : List Ent} (q : WSl) (ps : List (Client × CSl)) (ss : List (Serv × (Sl × Sl))) (ms : List (Msg × Sl)) (ek ec ca es sa el la : List Ent) (hL : L1.Perm (wldE ek ec ca es sa el la ++ L0)) (hown : WldOwn x1 q ps ss ms ek ec ca es sa el la),
      Tri Tryz.prog 121 [worldV x1 q, I (w.log.length : Int)] L1 (WldV L0 x2) := fun q ps ss ms ek ec ca es sa el la hL hown => hx2 ▸ c_l21Last x1 q ps ss ms ek ec ca es sa el la hL o1 hown (t1.up (by omega)) w.log.length
  have hl3 : ∀ {L1 L0 : List Ent} (q : WSl) (ps : List (Client × CSl)) (ss : List (Serv × (Sl × Sl))) (ms : List (Msg × Sl)) (ek ec ca es sa el la : List Ent) (hL : L1.Perm (wldE ek ec ca es sa el la ++ L0)) (hown : WldOwn x2 q ps ss ms ek ec ca es sa el la),
      Tri Tryz.prog 121 [worldV x2 q, I ((w.log.length : Int) + 1)] L1 (WldV L0 x) := fun q ps ss ms ek ec ca es sa el la hL hown => hx3 ▸ c_l21Last x2 q ps ss ms ek ec ca es sa el la hL o2 hown (t2.up (by omega)) (w.log.length + 1)
  clear hx hx1 hx2 hx3
  have hl := ms_len hown
  have hll := hw.ll
  obtain ⟨kc, cs, ss', ⟨al, nl, cap⟩⟩ := q
  have hn := hown.mr.n
  dsimp only at hn
  rw [hl] at hn
  subst hn
  refine Tri.of Tryz.func58 rfl rfl Tryz.ntmps58 rfl rfl ?_
  (repeat' (first | refine nI ?_ | (refine nA ?_; intro _) | (refine nW ?_; first | (refine op_call_id ?_; refine op_call rfl (hdo _ ps ss ms ek ec ca es sa el la (by exact kE) hown) rfl ?_; rintro _ _ ⟨q1, ps1, ss1, ms1, ek1, ec1, ca1, es1, sa1, el1, la1, rfl, ho1, rfl⟩) | (refine op_call_id ?_; refine op_call rfl (hl2 q1 ps1 ss1 ms1 ek1 ec1 ca1 es1 sa1 el1 la1 (by exact kE) ho1) rfl ?_; rintro _ _ ⟨q2, ps2, ss2, ms2, ek2, ec2, ca2, es2, sa2, el2, la2, rfl, ho2, rfl⟩) | (refine op_call_id ?_; refine op_call rfl (hl3 q2 ps2 ss2 ms2 ek2 ec2 ca2 es2 sa2 el2 la2 (by exact kE) ho2) rfl ?_; rintro _ _ ⟨q3, ps3, ss3, ms3, ek3, ec3, ca3, es3, sa3, el3, la3, rfl, ho3, rfl⟩)) | refine nY ?_ | refine nR ?_ | refine WC_cond rfl (fun hc => ?_) (fun hc => ?_)))
  refine ret_ret (by exact kR) ?_; exact ⟨wldE ek3 ec3 ca3 es3 sa3 el3 la3 ++ L0, by exact kP, q3, ps3, ss3, ms3, ek3, ec3, ca3, es3, sa3, el3, la3, rfl, ho3, rfl⟩
theorem phase_as (w : World) (a b : Int) : phase w 1 a b = phase w 1 a 0 := by simp [phase, asks, ask]
theorem c_sWorldMeet {L : List Ent} (w : World) (q : WSl) (ps : List (Client × CSl)) (ss : List (Serv × (Sl × Sl))) (ms : List (Msg × Sl)) (hat : WldAt L w q ps ss ms) (hok : WOk w) (hte : TookLe 1499900 w) (a b : Int) {x : World} (hx : meet w a b = x) :
    Tri Tryz.prog 23 [worldV w q, I a, I b] L (WldV L x) := by
  have hlim := wlim_of hok hte (by omega)
  obtain ⟨x0, hx0⟩ : ∃ x0, tick w = x0 := ⟨_, rfl⟩
  obtain ⟨x1, hx1⟩ : ∃ x1, phase x0 1 a 0 = x1 := ⟨_, rfl⟩
  obtain ⟨x2, hx2⟩ : ∃ x2, phase x1 2 a b = x2 := ⟨_, rfl⟩
  have hx3 : phase x2 3 a b = x := by rw [← hx, ← hx2, ← hx1, ← hx0]; unfold meet; rw [phase_as (tick w) a b]
  have o0 : WOk x0 := hx0 ▸ tick_ok hok
  have o1 : WOk x1 := hx1 ▸ phase_ok o0
  have o2 : WOk x2 := hx2 ▸ phase_ok o1
  have t0 : TookLe 1499900 x0 := hx0 ▸ tick_took hte
  have t1 : TookLe 1499903 x1 := hx1 ▸ phase_took (.inl rfl) t0
  have t2 : TookLe 1499906 x2 := hx2 ▸ phase_took (.inr (.inl rfl)) t1
  have hdo : ∀ {L1 L0 : List Ent} (q : WSl) (ps : List (Client × CSl)) (ss : List (Serv × (Sl × Sl))) (ms : List (Msg × Sl)) (ek ec ca es sa el la : List Ent) (hL : L1.Perm (wldE ek ec ca es sa el la ++ L0)) (hown : WldOwn w q ps ss ms ek ec ca es sa el la),
      Tri Tryz.prog 31 [worldV w q, eventV ⟨6, 0, 0, Msg.zero⟩ Sl.nil] L1 (WldV L0 x0) := fun q ps ss ms ek ec ca es sa el la hL hown => by
    have h := c_l21DoP w q ps ss ms ek ec ca es sa el la hL hok hown (hte.up (by omega)) ⟨6, 0, 0, Msg.zero⟩ Sl.nil SliceAt.nil
    rw [show step w ⟨6, 0, 0, Msg.zero⟩ = x0 by rw [← hx0]; simp [step]] at h
    exact h
  have hr1 : ∀ {L1 L0 : List Ent} (q : WSl) (ps : List (Client × CSl)) (ss : List (Serv × (Sl × Sl))) (ms : List (Msg × Sl)) (ek ec ca es sa el la : List Ent) (hL : L1.Perm (wldE ek ec ca es sa el la ++ L0)) (hown : WldOwn x0 q ps ss ms ek ec ca es sa el la),
      Tri Tryz.prog 58 [worldV x0 q, eventV ⟨1, a, 0, Msg.zero⟩ Sl.nil] L1 (WldV L0 x1) := fun q ps ss ms ek ec ca es sa el la hL hown => c_l21Round x0 q ps ss ms ek ec ca es sa el la hL o0 hown (t0.up (by omega)) 1 a 0 (.inl rfl) hx1
  have hr2 : ∀ {L1 L0 : List Ent} (q : WSl) (ps : List (Client × CSl)) (ss : List (Serv × (Sl × Sl))) (ms : List (Msg × Sl)) (ek ec ca es sa el la : List Ent) (hL : L1.Perm (wldE ek ec ca es sa el la ++ L0)) (hown : WldOwn x1 q ps ss ms ek ec ca es sa el la),
      Tri Tryz.prog 58 [worldV x1 q, eventV ⟨2, a, b, Msg.zero⟩ Sl.nil] L1 (WldV L0 x2) := fun q ps ss ms ek ec ca es sa el la hL hown => c_l21Round x1 q ps ss ms ek ec ca es sa el la hL o1 hown (t1.up (by omega)) 2 a b (.inr (.inl rfl)) hx2
  have hr3 : ∀ {L1 L0 : List Ent} (q : WSl) (ps : List (Client × CSl)) (ss : List (Serv × (Sl × Sl))) (ms : List (Msg × Sl)) (ek ec ca es sa el la : List Ent) (hL : L1.Perm (wldE ek ec ca es sa el la ++ L0)) (hown : WldOwn x2 q ps ss ms ek ec ca es sa el la),
      Tri Tryz.prog 58 [worldV x2 q, eventV ⟨3, a, b, Msg.zero⟩ Sl.nil] L1 (WldV L0 x) := fun q ps ss ms ek ec ca es sa el la hL hown => c_l21Round x2 q ps ss ms ek ec ca es sa el la hL o2 hown (t2.up (by omega)) 3 a b (.inr (.inr rfl)) hx3
  clear hx hx0 hx1 hx2 hx3
  refine Tri.of Tryz.func23 rfl rfl Tryz.ntmps23 rfl rfl ?_
  (repeat' (first | refine nI ?_ | (refine nA ?_; intro _) | (refine nW ?_; first | (refine op_call_id ?_; refine op_ro rfl rfl (by exact (c_sWorldOkN w q ps ss ms (hat.mono (by exact kS)) hok.n).eq (congrArg B (worldOk_t hok))) ?_) | (refine op_call_id ?_; refine op_call rfl (c_l21Copy w q ps ss ms (hat.mono (by exact kS)) hlim) rfl ?_; rintro _ _ ⟨q1, ps1, ss1, ms1, ek1, ec1, ca1, es1, sa1, el1, la1, rfl, ho1, rfl⟩) | (refine op_call_id ?_; refine op_call rfl (hdo q1 ps1 ss1 ms1 ek1 ec1 ca1 es1 sa1 el1 la1 (by exact kE) ho1) rfl ?_; rintro _ _ ⟨q2, ps2, ss2, ms2, ek2, ec2, ca2, es2, sa2, el2, la2, rfl, ho2, rfl⟩) | (refine op_call_id ?_; refine op_call rfl (hr1 q2 ps2 ss2 ms2 ek2 ec2 ca2 es2 sa2 el2 la2 (by exact kE) ho2) rfl ?_; rintro _ _ ⟨q3, ps3, ss3, ms3, ek3, ec3, ca3, es3, sa3, el3, la3, rfl, ho3, rfl⟩) | (refine op_call_id ?_; refine op_call rfl (hr2 q3 ps3 ss3 ms3 ek3 ec3 ca3 es3 sa3 el3 la3 (by exact kE) ho3) rfl ?_; rintro _ _ ⟨q4, ps4, ss4, ms4, ek4, ec4, ca4, es4, sa4, el4, la4, rfl, ho4, rfl⟩) | (refine op_call_id ?_; refine op_call rfl (hr3 q4 ps4 ss4 ms4 ek4 ec4 ca4 es4 sa4 el4 la4 (by exact kE) ho4) rfl ?_; rintro _ _ ⟨q5, ps5, ss5, ms5, ek5, ec5, ca5, es5, sa5, el5, la5, rfl, ho5, rfl⟩)) | refine nY ?_ | refine nR ?_ | refine WC_cond rfl (fun hc => ?_) (fun hc => ?_)))
  refine ret_ret (by exact kR) ?_; exact ⟨wldE ek5 ec5 ca5 es5 sa5 el5 la5 ++ L, by exact kP, q5, ps5, ss5, ms5, ek5, ec5, ca5, es5, sa5, el5, la5, rfl, ho5, rfl⟩
end Go.Proofs.YtoledfhjmdpihaaGreat
