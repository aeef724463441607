/- Users, worlds: whether they are ok, as the program tells, whatever they are. -/
import Derived.Test.YtoledfhjmdpihaaGreatA12
set_option linter.unusedVariables false
set_option linter.unusedSectionVars false
set_option linter.unusedSimpArgs false
namespace Go.Proofs.YtoledfhjmdpihaaGreat
open Go Go.Proofs Go.Proofs.YtoledfhjmdpihaaGreat.VE
attribute [local irreducible] Val Op1 WO WR WA WC seqQ blockQ loopQ retQ
noncomputable def o86x28U1 : Array Oper := cops (cl (cr (cl (cl (cr (cr (cl (cl (cr (cl (cr (cr (cr (cr (cr (cr (cr (codeOf Tryz.f86))))))))))))))))))
noncomputable def r86x28U1 : Run := (.st 0 0 (.st 1 1 (.st 2 1 (.st 3 3 (.st 4 0 (.st 5 0 (.st 6 0 (.st 7 1 (.st 8 0 (.st 9 0 (.st 10 1 (.st 11 3 (.st 12 0 .done)))))))))))))
set_option maxHeartbeats 8000000
theorem c_clientOk {L : List Ent} (cl : Client) (s : CSl) (h : CliAt L (cl, s)) : RO Tryz.prog 86 [clientV cl s] L (B (clientOk cl)) := by
  obtain ⟨⟨aw, nw, cw⟩, ⟨ac, nc, cc⟩, ⟨as_, ns, cs⟩, ⟨am, nm, cm⟩⟩ := s
  have hw : SliceAt L encWant ⟨aw, nw, cw⟩ cl.wants := h.w
  have hc : SliceAt L encCred ⟨ac, nc, cc⟩ cl.creds := h.c
  have hs : SliceAt L encCall ⟨as_, ns, cs⟩ cl.sent := h.s
  have hm : SliceAt L encCall ⟨am, nm, cm⟩ cl.met := h.m
  clear h
  obtain ⟨hnw, hcw, hbw, hatw⟩ := id hw
  obtain ⟨hnc, hcc, hbc, hatc⟩ := id hc
  obtain ⟨hns, hcs, hbs, hats⟩ := id hs
  obtain ⟨hnm, hcm, hbm, hatm⟩ := id hm
  dsimp only at hnw hnc hns hnm hcw hcc hcs hcm hatw hatc hats hatm
  subst hnw hnc hns hnm
  simp only [big] at hbw hbc hbs hbm
  cases hu : userOk cl.id with
  | false =>
    refine Tri.of Tryz.func86 rfl rfl Tryz.ntmps86 rfl rfl ?_
    (repeat' (first | refine nI ?_ | (refine nA ?_; intro _) | (refine nW ?_; first | (refine op_call_id ?_; refine op_ro rfl rfl (by exact (c_userOk _).eq (congrArg B hu)) ?_)) | refine nY ?_ | refine WA_alt ?_ ?_ | refine nR ?_ | refine WC_drawL (id := 28) (ops := o86x28U1) r86x28U1 (by kernel_rfl) rfl ?_ | refine WC_cond rfl (fun hc => ?_) (fun hc => ?_)))
    refine ro_ret (by exact kR) (by exact kL) ?_; simp [packR, clientOk, hu]
  | true =>
  cases hn : within cl.num 0 60 with
  | false =>
    refine Tri.of Tryz.func86 rfl rfl Tryz.ntmps86 rfl rfl ?_
    (repeat' (first | refine nI ?_ | (refine nA ?_; intro _) | (refine nW ?_; first | (refine op_call_id ?_; refine op_ro rfl rfl (by first | exact (c_userOk _).eq (congrArg B hu) | exact (c_within _ _ _).eq (congrArg B hn)) ?_)) | refine nY ?_ | refine WA_alt ?_ ?_ | refine nR ?_ | refine WC_drawL (id := 28) (ops := o86x28U1) r86x28U1 (by kernel_rfl) rfl ?_ | refine WC_cond rfl (fun hc => ?_) (fun hc => ?_)))
    refine ro_ret (by exact kR) (by exact kL) ?_; simp [packR, clientOk, hn]
  | true =>
  have hnum := within_iff.1 hn
  refine Tri.of Tryz.func86 rfl rfl Tryz.ntmps86 rfl rfl ?_
  (repeat' (first | refine nI ?_ | (refine nA ?_; intro _) | (refine nW ?_; first | (refine op_call_id ?_; refine op_ro rfl rfl (by first | exact (c_userOk _).eq (congrArg B hu) | exact (c_within _ _ _).eq (congrArg B hn)) ?_)) | refine nY ?_ | refine WA_alt ?_ ?_ | refine nR ?_ | refine WC_drawL (id := 28) (ops := o86x28U1) r86x28U1 (by kernel_rfl) rfl ?_ | refine WC_cond rfl (fun hc => ?_) (fun hc => ?_)))
  rename_i bx
  refine WC_loop (fun mz Ez Mz => ∃ (k : Nat) (last : Int), k + mz = (cl.wants).length ∧ Ez = [(1, .pointer (some ⟨bx, 0, none⟩)), (3, I last), (23, .slice aw cl.wants.length cw), (24, I cl.wants.length), (25, I k)] ∧ Mz = (bx, cellsO (clientC cl ⟨⟨aw, cl.wants.length, cw⟩, ⟨ac, cl.creds.length, cc⟩, ⟨as_, cl.sent.length, cs⟩, ⟨am, cl.met.length, cm⟩⟩) 112) :: L ∧ (wantsOk cl.num 0 cl.wants = wantsOk cl.num last (cl.wants.drop k) ∧ 0 ≤ last ∧ last ≤ 60)) (cl.wants).length (by exact kQ) (by exact kL) ⟨0, 0, by omega, rfl, rfl, by exact ⟨by simp, by omega, by omega⟩⟩ ?_
  rintro mz Ez Mz ⟨k, last, hk, rfl, rfl, hin⟩
  rcases Nat.lt_or_ge k (cl.wants).length with hlt | hge
  · obtain ⟨y2, hy2⟩ : ∃ y, (cl.wants)[k]? = some y := ⟨(cl.wants)[k]'(by omega), by simp [hlt]⟩; obtain ⟨b'2, o2, cs2, T2, fr2, rfl, hm2, hrow2⟩ := hatw (by omega); have hrow'2 := hrow2 k y2 hy2; have htk2 := take_next hy2
    obtain ⟨hd, hl0, hl1⟩ := hin
    rw [drop_cons' hy2] at hd
    cases g1 : giverOk y2.serv with
    | false =>
      have he : clientOk cl = false := cl_f1 (by rw [hd]; simp [wantsOk, g1])
      (repeat' (first | refine nI ?_ | (refine nA ?_; intro _) | (refine nW ?_; first | (refine op_call_id ?_; refine op_ro rfl rfl (by exact (c_giverOk _).eq (congrArg B g1)) ?_)) | refine nY ?_ | refine WA_alt ?_ ?_ | refine nR ?_ | refine WC_drawL (id := 28) (ops := o86x28U1) r86x28U1 (by kernel_rfl) rfl ?_ | refine WC_cond rfl (fun hc => ?_) (fun hc => ?_)))
      refine ro_ret (by exact kR) (by exact kL) ?_; rw [he]; rfl
    | true =>
    cases g2 : within y2.nonce (last + 1) cl.num with
    | false =>
      have he : clientOk cl = false := cl_f1 (by rw [hd]; simp [wantsOk, g2])
      (repeat' (first | refine nI ?_ | (refine nA ?_; intro _) | (refine nW ?_; first | (refine op_call_id ?_; refine op_ro rfl rfl (by first | exact (c_giverOk _).eq (congrArg B g1) | exact (c_within _ _ _).eq (congrArg B g2)) ?_)) | refine nY ?_ | refine WA_alt ?_ ?_ | refine nR ?_ | refine WC_drawL (id := 28) (ops := o86x28U1) r86x28U1 (by kernel_rfl) rfl ?_ | refine WC_cond rfl (fun hc => ?_) (fun hc => ?_)))
      refine ro_ret (by exact kR) (by exact kL) ?_; rw [he]; rfl
    | true =>
    (repeat' (first | refine nI ?_ | (refine nA ?_; intro _) | (refine nW ?_; first | (refine op_call_id ?_; refine op_ro rfl rfl (by first | exact (c_giverOk _).eq (congrArg B g1) | exact (c_within _ _ _).eq (congrArg B g2)) ?_)) | refine nY ?_ | refine WA_alt ?_ ?_ | refine nR ?_ | refine WC_drawL (id := 28) (ops := o86x28U1) r86x28U1 (by kernel_rfl) rfl ?_ | refine WC_cond rfl (fun hc => ?_) (fun hc => ?_)))
    have g3 := within_iff.1 g2
    exact loopQ_next ⟨mz - 1, _, _, by omega, by exact kQ, by exact kL, k + 1, y2.nonce, by omega, rfl, rfl, by exact ⟨by rw [hd]; simp [wantsOk, g1, g2], by omega, by omega⟩⟩
  have hwok : wantsOk cl.num 0 cl.wants = true := by rw [hin.1, List.drop_of_length_le (by omega)]; rfl
  (repeat' (first | refine nI ?_ | (refine nA ?_; intro _) | refine nY ?_ | refine WA_alt ?_ ?_ | refine nR ?_ | refine WC_drawL (id := 28) (ops := o86x28U1) r86x28U1 (by kernel_rfl) rfl ?_ | refine WC_cond rfl (fun hc => ?_) (fun hc => ?_)))
  clear hk hge hin
  refine WC_loop (fun mz Ez Mz => ∃ k : Nat, k + mz = (cl.creds).length ∧ Ez = [(1, .pointer (some ⟨bx, 0, none⟩)), (47, .slice ac cl.creds.length cc), (48, I cl.creds.length), (49, I k)] ∧ Mz = (bx, cellsO (clientC cl ⟨⟨aw, cl.wants.length, cw⟩, ⟨ac, cl.creds.length, cc⟩, ⟨as_, cl.sent.length, cs⟩, ⟨am, cl.met.length, cm⟩⟩) 112) :: L ∧ ((∀ z ∈ cl.creds.take k, credOk z = true) ∧ ((cl.creds.take k).map Cred.serv).Nodup)) (cl.creds).length (by exact kQ) (by exact kL) ⟨0, by omega, rfl, rfl, by simp⟩ ?_
  rintro mz Ez Mz ⟨k, hk, rfl, rfl, hin⟩
  rcases Nat.lt_or_ge k (cl.creds).length with hlt | hge
  · obtain ⟨y3, hy3⟩ : ∃ y, (cl.creds)[k]? = some y := ⟨(cl.creds)[k]'(by omega), by simp [hlt]⟩; obtain ⟨b'3, o3, cs3, T3, fr3, rfl, hm3, hrow3⟩ := hatc (by omega); have hrow'3 := hrow3 k y3 hy3; have htk3 := take_next hy3
    obtain ⟨ci, hx⟩ : ∃ ci, credIdx cl y3.serv = ci := ⟨_, rfl⟩
    cases g1 : giverOk y3.serv with
    | false =>
      have he : clientOk cl = false := cl_f2 (creds_stop hy3 (.inl (by simp [credOk, g1])))
      (repeat' (first | refine nI ?_ | (refine nA ?_; intro _) | (refine nW ?_; first | (refine op_call_id ?_; refine op_ro rfl rfl (by exact (c_giverOk _).eq (congrArg B g1)) ?_)) | refine nY ?_ | refine WA_alt ?_ ?_ | refine nR ?_ | refine WC_drawL (id := 28) (ops := o86x28U1) r86x28U1 (by kernel_rfl) rfl ?_ | refine WC_cond rfl (fun hc => ?_) (fun hc => ?_)))
      refine ro_ret (by exact kR) (by exact kL) ?_; rw [he]; rfl
    | true =>
    by_cases hci : ci = (k : Int)
    rotate_left
    · have hdup : y3.serv ∈ (cl.creds.take k).map Cred.serv := Classical.byContradiction fun h => hci (by rw [← hx]; exact (credIdx_at hy3).2 h)
      have he : clientOk cl = false := cl_f2 (creds_stop hy3 (.inr hdup))
      (repeat' (first | refine nI ?_ | (refine nA ?_; intro _) | (refine nW ?_; first | (refine op_call_id ?_; refine op_ro rfl rfl (by first | exact (c_giverOk _).eq (congrArg B g1) | exact (c_credB bx _ cl ⟨⟨aw, cl.wants.length, cw⟩, ⟨some ⟨b'3, o3, none⟩, cl.creds.length, cc⟩, ⟨as_, cl.sent.length, cs⟩, ⟨am, cl.met.length, cm⟩⟩ y3.serv (by exact kM) (hc.mono (by exact kS))).eq (congrArg I hx)) ?_)) | refine nY ?_ | refine WA_alt ?_ ?_ | refine nR ?_ | refine WC_drawL (id := 28) (ops := o86x28U1) r86x28U1 (by kernel_rfl) rfl ?_ | refine WC_cond rfl (fun hc => ?_) (fun hc => ?_)))
      refine ro_ret (by exact kR) (by exact kL) ?_; rw [he]; rfl
    have hno := (credIdx_at hy3).1 (hx.trans hci)
    cases g2 : madeOk y3.key with
    | false =>
      have he : clientOk cl = false := cl_f2 (creds_stop hy3 (.inl (by simp [credOk, g2])))
      (repeat' (first | refine nI ?_ | (refine nA ?_; intro _) | (refine nW ?_; first | (refine op_call_id ?_; refine op_ro rfl rfl (by first | exact (c_giverOk _).eq (congrArg B g1) | exact (c_credB bx _ cl ⟨⟨aw, cl.wants.length, cw⟩, ⟨some ⟨b'3, o3, none⟩, cl.creds.length, cc⟩, ⟨as_, cl.sent.length, cs⟩, ⟨am, cl.met.length, cm⟩⟩ y3.serv (by exact kM) (hc.mono (by exact kS))).eq (congrArg I hx) | exact (c_madeOk _).eq (congrArg B g2)) ?_)) | refine nY ?_ | refine WA_alt ?_ ?_ | refine nR ?_ | refine WC_drawL (id := 28) (ops := o86x28U1) r86x28U1 (by kernel_rfl) rfl ?_ | refine WC_cond rfl (fun hc => ?_) (fun hc => ?_)))
      refine ro_ret (by exact kR) (by exact kL) ?_; rw [he]; rfl
    | true =>
    cases g3 : timeOk y3.til with
    | false =>
      have he : clientOk cl = false := cl_f2 (creds_stop hy3 (.inl (by simp [credOk, g3])))
      (repeat' (first | refine nI ?_ | (refine nA ?_; intro _) | (refine nW ?_; first | (refine op_call_id ?_; refine op_ro rfl rfl (by first | exact (c_giverOk _).eq (congrArg B g1) | exact (c_credB bx _ cl ⟨⟨aw, cl.wants.length, cw⟩, ⟨some ⟨b'3, o3, none⟩, cl.creds.length, cc⟩, ⟨as_, cl.sent.length, cs⟩, ⟨am, cl.met.length, cm⟩⟩ y3.serv (by exact kM) (hc.mono (by exact kS))).eq (congrArg I hx) | exact (c_madeOk _).eq (congrArg B g2) | exact (c_timeOk _).eq (congrArg B g3)) ?_)) | refine nY ?_ | refine WA_alt ?_ ?_ | refine nR ?_ | refine WC_drawL (id := 28) (ops := o86x28U1) r86x28U1 (by kernel_rfl) rfl ?_ | refine WC_cond rfl (fun hc => ?_) (fun hc => ?_)))
      refine ro_ret (by exact kR) (by exact kL) ?_; rw [he]; rfl
    | true =>
    cases g4 : sealOk y3.ticket with
    | false =>
      have he : clientOk cl = false := cl_f2 (creds_stop hy3 (.inl (by simp [credOk, g4])))
      (repeat' (first | refine nI ?_ | (refine nA ?_; intro _) | (refine nW ?_; first | (refine op_call_id ?_; refine op_ro rfl rfl (by first | exact (c_giverOk _).eq (congrArg B g1) | exact (c_credB bx _ cl ⟨⟨aw, cl.wants.length, cw⟩, ⟨some ⟨b'3, o3, none⟩, cl.creds.length, cc⟩, ⟨as_, cl.sent.length, cs⟩, ⟨am, cl.met.length, cm⟩⟩ y3.serv (by exact kM) (hc.mono (by exact kS))).eq (congrArg I hx) | exact (c_madeOk _).eq (congrArg B g2) | exact (c_timeOk _).eq (congrArg B g3) | exact (c_sealOk y3.ticket).eq (congrArg B g4)) ?_)) | refine nY ?_ | refine WA_alt ?_ ?_ | refine nR ?_ | refine WC_drawL (id := 28) (ops := o86x28U1) r86x28U1 (by kernel_rfl) rfl ?_ | refine WC_cond rfl (fun hc => ?_) (fun hc => ?_)))
      refine ro_ret (by exact kR) (by exact kL) ?_; rw [he]; rfl
    | true =>
    (repeat' (first | refine nI ?_ | (refine nA ?_; intro _) | (refine nW ?_; first | (refine op_call_id ?_; refine op_ro rfl rfl (by first | exact (c_giverOk _).eq (congrArg B g1) | exact (c_credB bx _ cl ⟨⟨aw, cl.wants.length, cw⟩, ⟨some ⟨b'3, o3, none⟩, cl.creds.length, cc⟩, ⟨as_, cl.sent.length, cs⟩, ⟨am, cl.met.length, cm⟩⟩ y3.serv (by exact kM) (hc.mono (by exact kS))).eq (congrArg I hx) | exact (c_madeOk _).eq (congrArg B g2) | exact (c_timeOk _).eq (congrArg B g3) | exact (c_sealOk y3.ticket).eq (congrArg B g4)) ?_)) | refine nY ?_ | refine WA_alt ?_ ?_ | refine nR ?_ | refine WC_drawL (id := 28) (ops := o86x28U1) r86x28U1 (by kernel_rfl) rfl ?_ | refine WC_cond rfl (fun hc => ?_) (fun hc => ?_)))
    exact loopQ_next ⟨mz - 1, _, _, by omega, by exact kQ, by exact kL, k + 1, by omega, rfl, rfl, by exact creds_step hy3 (by simp [credOk, g1, g2, g3, g4]) hno hin⟩
  have hcok : credsOk cl.creds = true := by
    rw [List.take_of_length_le (by omega)] at hin
    simp only [credsOk, Bool.and_eq_true, decide_eq_true_eq, List.all_eq_true]
    exact hin
  (repeat' (first | refine nI ?_ | (refine nA ?_; intro _) | refine nY ?_ | refine WA_alt ?_ ?_ | refine nR ?_ | refine WC_drawL (id := 28) (ops := o86x28U1) r86x28U1 (by kernel_rfl) rfl ?_ | refine WC_cond rfl (fun hc => ?_) (fun hc => ?_)))
  clear hk hge hin
  refine WC_loop (fun mz Ez Mz => ∃ (k : Nat) (last : Int), k + mz = (cl.sent).length ∧ Ez = [(1, .pointer (some ⟨bx, 0, none⟩)), (3, I last), (85, .slice as_ cl.sent.length cs), (86, I cl.sent.length), (87, I k)] ∧ Mz = (bx, cellsO (clientC cl ⟨⟨aw, cl.wants.length, cw⟩, ⟨ac, cl.creds.length, cc⟩, ⟨as_, cl.sent.length, cs⟩, ⟨am, cl.met.length, cm⟩⟩) 112) :: L ∧ (sentOk cl.num 0 cl.sent = sentOk cl.num last (cl.sent.drop k) ∧ 0 ≤ last ∧ last ≤ 60)) (cl.sent).length (by exact kQ) (by exact kL) ⟨0, 0, by omega, rfl, rfl, by exact ⟨by simp, by omega, by omega⟩⟩ ?_
  rintro mz Ez Mz ⟨k, last, hk, rfl, rfl, hin⟩
  rcases Nat.lt_or_ge k (cl.sent).length with hlt | hge
  · obtain ⟨y4, hy4⟩ : ∃ y, (cl.sent)[k]? = some y := ⟨(cl.sent)[k]'(by omega), by simp [hlt]⟩; obtain ⟨b'4, o4, cs4, T4, fr4, rfl, hm4, hrow4⟩ := hats (by omega); have hrow'4 := hrow4 k y4 hy4; have htk4 := take_next hy4
    obtain ⟨hd, hl0, hl1⟩ := hin
    rw [drop_cons' hy4] at hd
    cases g1 : servOk y4.peer with
    | false =>
      have he : clientOk cl = false := cl_f3 (by rw [hd]; simp [sentOk, g1])
      (repeat' (first | refine nI ?_ | (refine nA ?_; intro _) | (refine nW ?_; first | (refine op_call_id ?_; refine op_ro rfl rfl (by exact (c_servOk _).eq (congrArg B g1)) ?_)) | refine nY ?_ | refine WA_alt ?_ ?_ | refine nR ?_ | refine WC_drawL (id := 28) (ops := o86x28U1) r86x28U1 (by kernel_rfl) rfl ?_ | refine WC_cond rfl (fun hc => ?_) (fun hc => ?_)))
      refine ro_ret (by exact kR) (by exact kL) ?_; rw [he]; rfl
    | true =>
    cases g2 : madeOk y4.key with
    | false =>
      have he : clientOk cl = false := cl_f3 (by rw [hd]; simp [sentOk, g2])
      (repeat' (first | refine nI ?_ | (refine nA ?_; intro _) | (refine nW ?_; first | (refine op_call_id ?_; refine op_ro rfl rfl (by first | exact (c_servOk _).eq (congrArg B g1) | exact (c_madeOk _).eq (congrArg B g2)) ?_)) | refine nY ?_ | refine WA_alt ?_ ?_ | refine nR ?_ | refine WC_drawL (id := 28) (ops := o86x28U1) r86x28U1 (by kernel_rfl) rfl ?_ | refine WC_cond rfl (fun hc => ?_) (fun hc => ?_)))
      refine ro_ret (by exact kR) (by exact kL) ?_; rw [he]; rfl
    | true =>
    cases g3 : timeOk y4.time with
    | false =>
      have he : clientOk cl = false := cl_f3 (by rw [hd]; simp [sentOk, g3])
      (repeat' (first | refine nI ?_ | (refine nA ?_; intro _) | (refine nW ?_; first | (refine op_call_id ?_; refine op_ro rfl rfl (by first | exact (c_servOk _).eq (congrArg B g1) | exact (c_madeOk _).eq (congrArg B g2) | exact (c_timeOk _).eq (congrArg B g3)) ?_)) | refine nY ?_ | refine WA_alt ?_ ?_ | refine nR ?_ | refine WC_drawL (id := 28) (ops := o86x28U1) r86x28U1 (by kernel_rfl) rfl ?_ | refine WC_cond rfl (fun hc => ?_) (fun hc => ?_)))
      refine ro_ret (by exact kR) (by exact kL) ?_; rw [he]; rfl
    | true =>
    cases g4 : within y4.num (last + 1) cl.num with
    | false =>
      have he : clientOk cl = false := cl_f3 (by rw [hd]; simp [sentOk, g4])
      (repeat' (first | refine nI ?_ | (refine nA ?_; intro _) | (refine nW ?_; first | (refine op_call_id ?_; refine op_ro rfl rfl (by first | exact (c_servOk _).eq (congrArg B g1) | exact (c_madeOk _).eq (congrArg B g2) | exact (c_timeOk _).eq (congrArg B g3) | exact (c_within _ _ _).eq (congrArg B g4)) ?_)) | refine nY ?_ | refine WA_alt ?_ ?_ | refine nR ?_ | refine WC_drawL (id := 28) (ops := o86x28U1) r86x28U1 (by kernel_rfl) rfl ?_ | refine WC_cond rfl (fun hc => ?_) (fun hc => ?_)))
      refine ro_ret (by exact kR) (by exact kL) ?_; rw [he]; rfl
    | true =>
    (repeat' (first | refine nI ?_ | (refine nA ?_; intro _) | (refine nW ?_; first | (refine op_call_id ?_; refine op_ro rfl rfl (by first | exact (c_servOk _).eq (congrArg B g1) | exact (c_madeOk _).eq (congrArg B g2) | exact (c_timeOk _).eq (congrArg B g3) | exact (c_within _ _ _).eq (congrArg B g4)) ?_)) | refine nY ?_ | refine WA_alt ?_ ?_ | refine nR ?_ | refine WC_drawL (id := 28) (ops := o86x28U1) r86x28U1 (by kernel_rfl) rfl ?_ | refine WC_cond rfl (fun hc => ?_) (fun hc => ?_)))
    have g5 := within_iff.1 g4
    exact loopQ_next ⟨mz - 1, _, _, by omega, by exact kQ, by exact kL, k + 1, y4.num, by omega, rfl, rfl, by exact ⟨by rw [hd]; simp [sentOk, g1, g2, g3, g4], by omega, by omega⟩⟩
  have hsok : sentOk cl.num 0 cl.sent = true := by rw [hin.1, List.drop_of_length_le (by omega)]; rfl
  (repeat' (first | refine nI ?_ | (refine nA ?_; intro _) | refine nY ?_ | refine WA_alt ?_ ?_ | refine nR ?_ | refine WC_drawL (id := 28) (ops := o86x28U1) r86x28U1 (by kernel_rfl) rfl ?_ | refine WC_cond rfl (fun hc => ?_) (fun hc => ?_)))
  clear hk hge hin
  refine WC_loop (fun mz Ez Mz => ∃ k : Nat, k + mz = (cl.met).length ∧ Ez = [(1, .pointer (some ⟨bx, 0, none⟩)), (121, .slice am cl.met.length cm), (122, I cl.met.length), (123, I k)] ∧ Mz = (bx, cellsO (clientC cl ⟨⟨aw, cl.wants.length, cw⟩, ⟨ac, cl.creds.length, cc⟩, ⟨as_, cl.sent.length, cs⟩, ⟨am, cl.met.length, cm⟩⟩) 112) :: L ∧ ((∀ z ∈ cl.met.take k, z ∈ cl.sent) ∧ (cl.met.take k).Nodup)) (cl.met).length (by exact kQ) (by exact kL) ⟨0, by omega, rfl, rfl, by simp⟩ ?_
  rintro mz Ez Mz ⟨k, hk, rfl, rfl, hin⟩
  rcases Nat.lt_or_ge k (cl.met).length with hlt | hge
  · have hcut := hm.take (k := k) (by omega)
    obtain ⟨y5, hy5⟩ : ∃ y, (cl.met)[k]? = some y := ⟨(cl.met)[k]'(by omega), by simp [hlt]⟩; obtain ⟨b'5, o5, cs5, T5, fr5, rfl, hm5, hrow5⟩ := hatm (by omega); have hrow'5 := hrow5 k y5 hy5; have htk5 := take_next hy5
    cases g1 : decide (y5 ∈ cl.sent) with
    | false =>
      have he : clientOk cl = false := cl_f4 (met_stop hy5 (.inl (of_decide_eq_false g1)))
      (repeat' (first | refine nI ?_ | (refine nA ?_; intro _) | (refine nW ?_; first | (refine op_call_id ?_; refine op_ro rfl rfl (by exact (c_containsimpl.Call ⟨as_, cl.sent.length, cs⟩ cl.sent y5 (hs.mono (by exact kS))).eq (congrArg B g1)) ?_)) | refine nY ?_ | refine WA_alt ?_ ?_ | refine nR ?_ | refine WC_drawL (id := 28) (ops := o86x28U1) r86x28U1 (by kernel_rfl) rfl ?_ | refine WC_cond rfl (fun hc => ?_) (fun hc => ?_)))
      refine ro_ret (by exact kR) (by exact kL) ?_; rw [he]; rfl
    | true =>
    cases g2 : decide (y5 ∈ cl.met.take k) with
    | true =>
      have he : clientOk cl = false := cl_f4 (met_stop hy5 (.inr (of_decide_eq_true g2)))
      (repeat' (first | refine nI ?_ | (refine nA ?_; intro _) | (refine nW ?_; first | (refine op_call_id ?_; refine op_ro rfl rfl (by first | exact (c_containsimpl.Call ⟨as_, cl.sent.length, cs⟩ cl.sent y5 (hs.mono (by exact kS))).eq (congrArg B g1) | exact (c_containsimpl.Call ⟨_, _, _⟩ (cl.met.take k) y5 (hcut.mono (by exact kS))).eq (congrArg B g2)) ?_)) | refine nY ?_ | refine WA_alt ?_ ?_ | refine nR ?_ | refine WC_drawL (id := 28) (ops := o86x28U1) r86x28U1 (by kernel_rfl) rfl ?_ | refine WC_cond rfl (fun hc => ?_) (fun hc => ?_)))
      refine ro_ret (by exact kR) (by exact kL) ?_; rw [he]; rfl
    | false =>
    (repeat' (first | refine nI ?_ | (refine nA ?_; intro _) | (refine nW ?_; first | (refine op_call_id ?_; refine op_ro rfl rfl (by first | exact (c_containsimpl.Call ⟨as_, cl.sent.length, cs⟩ cl.sent y5 (hs.mono (by exact kS))).eq (congrArg B g1) | exact (c_containsimpl.Call ⟨_, _, _⟩ (cl.met.take k) y5 (hcut.mono (by exact kS))).eq (congrArg B g2)) ?_)) | refine nY ?_ | refine WA_alt ?_ ?_ | refine nR ?_ | refine WC_drawL (id := 28) (ops := o86x28U1) r86x28U1 (by kernel_rfl) rfl ?_ | refine WC_cond rfl (fun hc => ?_) (fun hc => ?_)))
    exact loopQ_next ⟨mz - 1, _, _, by omega, by exact kQ, by exact kL, k + 1, by omega, rfl, rfl, by exact met_step hy5 (of_decide_eq_true g1) (of_decide_eq_false g2) hin⟩
  have hmok : metOk cl.sent cl.met = true := by
    rw [List.take_of_length_le (by omega)] at hin
    simp only [metOk, Bool.and_eq_true, decide_eq_true_eq, List.all_eq_true]
    exact hin
  (repeat' (first | refine nI ?_ | (refine nA ?_; intro _) | refine nY ?_ | refine WA_alt ?_ ?_ | refine nR ?_ | refine WC_drawL (id := 28) (ops := o86x28U1) r86x28U1 (by kernel_rfl) rfl ?_ | refine WC_cond rfl (fun hc => ?_) (fun hc => ?_)))
  refine ro_ret (by exact kR) (by exact kL) ?_; simp [packR, clientOk, hu, hn, hwok, hcok, hsok, hmok]
section
variable {L : List Ent} (w : World) (kc : Sl) (ac av al : Option Addr) (nc nv nl cc cv cl : Nat) (ps : List (Client × CSl)) (ss : List (Serv × (Sl × Sl))) (ms : List (Msg × Sl)) (hat : WldAt L w ⟨kc, ⟨ac, nc, cc⟩, ⟨av, nv, cv⟩, ⟨al, nl, cl⟩⟩ ps ss ms)
include hat
theorem c_worldOkA0 : RO Tryz.prog 38 [worldV w ⟨kc, ⟨ac, nc, cc⟩, ⟨av, nv, cv⟩, ⟨al, nl, cl⟩⟩] L (B (worldOk w)) := by
  obtain ⟨hkc, hpe, hpr, hpa, hsE, hsr, hsa, hme, hmr, hma⟩ := hat
  have hmr0 := hmr
  obtain ⟨hnP, hc1, hb1, hat1⟩ := hpr
  obtain ⟨hnS, hc2, hb2, hat2⟩ := hsr
  obtain ⟨hnM, hc3, hb3, hat3⟩ := hmr
  dsimp only at hnP hnS hnM hat1 hat2 hat3 hc1 hc2 hc3
  subst hnP hnS hnM
  simp only [big] at hb1 hb2 hb3
  have hpl : ps.length = w.clients.length := by rw [← List.length_map (f := Prod.fst), hpe]
  have hsl : ss.length = w.servs.length := by rw [← List.length_map (f := Prod.fst), hsE]
  have hml : ms.length = w.log.length := by rw [← List.length_map (f := Prod.fst), hme]
  cases h1 : timeOk w.now with
  | false =>
    have he : worldOk w = false := worldOk_f fun h => by have := within_false.1 h1; have := h.now; omega
    refine Tri.of Tryz.func38 rfl rfl Tryz.ntmps38 rfl rfl ?_
    (repeat' (first | refine nI ?_ | (refine nA ?_; intro _) | (refine nW ?_; first | (refine op_call_id ?_; refine op_ro rfl rfl (by exact (c_timeOk _).eq (congrArg B h1)) ?_)) | refine nY ?_ | refine nR ?_ | refine WC_cond rfl (fun hc => ?_) (fun hc => ?_)))
    refine ro_ret (by exact kR) (by exact kL) ?_; rw [he]; rfl
  | true =>
  cases hkk : kdcOk w.kdc with
  | false =>
    have he : worldOk w = false := worldOk_f fun h => by rw [kdcOk_iff.2 h.kdc] at hkk; cases hkk
    refine Tri.of Tryz.func38 rfl rfl Tryz.ntmps38 rfl rfl ?_
    (repeat' (first | refine nI ?_ | (refine nA ?_; intro _) | (refine nW ?_; first | (refine op_call_id ?_; refine op_ro rfl rfl (by first | exact (c_timeOk _).eq (congrArg B h1) | exact (c_impl.KdcOk w.kdc kc (hkc.mono (by exact kS))).eq (congrArg B hkk)) ?_)) | refine nY ?_ | refine nR ?_ | refine WC_cond rfl (fun hc => ?_) (fun hc => ?_)))
    refine ro_ret (by exact kR) (by exact kL) ?_; rw [he]; rfl
  | true =>
  by_cases h2 : w.clients.length = 3
  rotate_left
  · have he : worldOk w = false := worldOk_f fun h => h2 h.cl
    refine Tri.of Tryz.func38 rfl rfl Tryz.ntmps38 rfl rfl ?_
    (repeat' (first | refine nI ?_ | (refine nA ?_; intro _) | (refine nW ?_; first | (refine op_call_id ?_; refine op_ro rfl rfl (by first | exact (c_timeOk _).eq (congrArg B h1) | exact (c_impl.KdcOk w.kdc kc (hkc.mono (by exact kS))).eq (congrArg B hkk)) ?_)) | refine nY ?_ | refine nR ?_ | refine WC_cond rfl (fun hc => ?_) (fun hc => ?_)))
    refine ro_ret (by exact kR) (by exact kL) ?_; rw [he]; rfl
  by_cases h4 : w.servs.length = 2
  rotate_left
  · have he : worldOk w = false := worldOk_f fun h => h4 h.sl
    refine Tri.of Tryz.func38 rfl rfl Tryz.ntmps38 rfl rfl ?_
    (repeat' (first | refine nI ?_ | (refine nA ?_; intro _) | (refine nW ?_; first | (refine op_call_id ?_; refine op_ro rfl rfl (by first | exact (c_timeOk _).eq (congrArg B h1) | exact (c_impl.KdcOk w.kdc kc (hkc.mono (by exact kS))).eq (congrArg B hkk)) ?_)) | refine nY ?_ | refine nR ?_ | refine WC_cond rfl (fun hc => ?_) (fun hc => ?_)))
    refine ro_ret (by exact kR) (by exact kL) ?_; rw [he]; rfl
  by_cases h5 : w.log.length ≤ 80
  rotate_left
  · have he : worldOk w = false := worldOk_f fun h => h5 h.ll
    refine Tri.of Tryz.func38 rfl rfl Tryz.ntmps38 rfl rfl ?_
    (repeat' (first | refine nI ?_ | (refine nA ?_; intro _) | (refine nW ?_; first | (refine op_call_id ?_; refine op_ro rfl rfl (by first | exact (c_timeOk _).eq (congrArg B h1) | exact (c_impl.KdcOk w.kdc kc (hkc.mono (by exact kS))).eq (congrArg B hkk)) ?_)) | refine nY ?_ | refine nR ?_ | refine WC_cond rfl (fun hc => ?_) (fun hc => ?_)))
    refine ro_ret (by exact kR) (by exact kL) ?_; rw [he]; rfl
  cases h3 : within w.bad 0 3 with
  | false =>
    have he : worldOk w = false := worldOk_f fun h => by have := within_false.1 h3; have := h.bad; omega
    refine Tri.of Tryz.func38 rfl rfl Tryz.ntmps38 rfl rfl ?_
    (repeat' (first | refine nI ?_ | (refine nA ?_; intro _) | (refine nW ?_; first | (refine op_call_id ?_; refine op_ro rfl rfl (by first | exact (c_timeOk _).eq (congrArg B h1) | exact (c_impl.KdcOk w.kdc kc (hkc.mono (by exact kS))).eq (congrArg B hkk) | exact (c_within _ _ _).eq (congrArg B h3)) ?_)) | refine nY ?_ | refine nR ?_ | refine WC_cond rfl (fun hc => ?_) (fun hc => ?_)))
    refine ro_ret (by exact kR) (by exact kL) ?_; rw [he]; rfl
  | true =>
  obtain ⟨bP, oP, csP, TP, frP, rfl, hmP, hrP⟩ := hat1 (by omega)
  obtain ⟨bS, oS, csS, TS, frS, rfl, hmS, hrS⟩ := hat2 (by omega)
  refine Tri.of Tryz.func38 rfl rfl Tryz.ntmps38 rfl rfl ?_
  (repeat' (first | refine nI ?_ | (refine nA ?_; intro _) | (refine nW ?_; first | (refine op_call_id ?_; refine op_ro rfl rfl (by first | exact (c_timeOk _).eq (congrArg B h1) | exact (c_impl.KdcOk w.kdc kc (hkc.mono (by exact kS))).eq (congrArg B hkk) | exact (c_within _ _ _).eq (congrArg B h3)) ?_)) | refine nY ?_ | refine nR ?_ | refine WC_cond rfl (fun hc => ?_) (fun hc => ?_)))
  rename_i bx
  refine WC_loop (fun mz Ez Mz => ∃ k : Nat, k + mz = (ps).length ∧ Ez = [(1, .pointer (some ⟨bx, 0, none⟩)), (42, .slice (some ⟨bP, oP, none⟩) ps.length cc), (43, I ps.length), (44, I k)] ∧ Mz = (bx, cellsO (worldC w ⟨kc, ⟨some ⟨bP, oP, none⟩, ps.length, cc⟩, ⟨some ⟨bS, oS, none⟩, ss.length, cv⟩, ⟨al, ms.length, cl⟩⟩) 43) :: L ∧ (∀ (i : Nat) c, i < k → w.clients[i]? = some c → COk c ∧ c.id = i + 1)) (ps).length (by exact kQ) (by exact kL) ⟨0, by omega, rfl, rfl, by exact fun i c h => absurd h (by omega)⟩ ?_
  rintro mz Ez Mz ⟨k, hk, rfl, rfl, hin⟩
  rcases Nat.lt_or_ge k (ps).length with hlt | hge
  · obtain ⟨⟨c, sc⟩, hy⟩ : ∃ y, ps[k]? = some y := ⟨_, List.getElem?_eq_getElem hlt⟩
    have hrow' := hrP k _ hy
    have hck : w.clients[k]? = some c := by rw [← hpe, List.getElem?_map, hy]; rfl
    have hca := hpa _ (List.mem_of_getElem? hy)
    cases hco : clientOk c with
    | false =>
      have he : worldOk w = false := worldOk_f fun h => by rw [clientOk_iff.2 (h.cs k c hck).1] at hco; cases hco
      (repeat' (first | refine nI ?_ | (refine nA ?_; intro _) | (refine nW ?_; first | (refine op_call_id ?_; refine op_ro rfl rfl (by exact (c_clientOk c sc (hca.mono (by exact kS))).eq (congrArg B hco)) ?_)) | refine nY ?_ | refine nR ?_ | refine WC_cond rfl (fun hc => ?_) (fun hc => ?_)))
      refine ro_ret (by exact kR) (by exact kL) ?_; rw [he]; rfl
    | true =>
    by_cases hid : c.id = (k : Int) + 1
    · (repeat' (first | refine nI ?_ | (refine nA ?_; intro _) | (refine nW ?_; first | (refine op_call_id ?_; refine op_ro rfl rfl (by exact (c_clientOk c sc (hca.mono (by exact kS))).eq (congrArg B hco)) ?_)) | refine nY ?_ | refine nR ?_ | refine WC_cond rfl (fun hc => ?_) (fun hc => ?_)))
      exact loopQ_next ⟨mz - 1, _, _, by omega, by exact kQ, by exact kL, k + 1, by omega, rfl, rfl, by (intro i s hi hs; by_cases hik : i = k; (subst hik; rw [hck] at hs; cases hs; exact ⟨clientOk_iff.1 hco, hid⟩); exact hin i s (by omega) hs)⟩
    · have he : worldOk w = false := worldOk_f fun h => hid (h.cs k c hck).2
      (repeat' (first | refine nI ?_ | (refine nA ?_; intro _) | (refine nW ?_; first | (refine op_call_id ?_; refine op_ro rfl rfl (by exact (c_clientOk c sc (hca.mono (by exact kS))).eq (congrArg B hco)) ?_)) | refine nY ?_ | refine nR ?_ | refine WC_cond rfl (fun hc => ?_) (fun hc => ?_)))
      refine ro_ret (by exact kR) (by exact kL) ?_; rw [he]; rfl
  have hcs : ∀ (i : Nat) c, w.clients[i]? = some c → COk c ∧ c.id = i + 1 := fun i s hs => hin i s (by have := (List.getElem?_eq_some_iff.1 hs).1; omega) hs
  (repeat' (first | refine nI ?_ | (refine nA ?_; intro _) | refine nY ?_ | refine nR ?_ | refine WC_cond rfl (fun hc => ?_) (fun hc => ?_)))
  clear hk hge hin
  refine WC_loop (fun mz Ez Mz => ∃ k : Nat, k + mz = (ss).length ∧ Ez = [(1, .pointer (some ⟨bx, 0, none⟩)), (61, .slice (some ⟨bS, oS, none⟩) ss.length cv), (62, I ss.length), (63, I k)] ∧ Mz = (bx, cellsO (worldC w ⟨kc, ⟨some ⟨bP, oP, none⟩, ps.length, cc⟩, ⟨some ⟨bS, oS, none⟩, ss.length, cv⟩, ⟨al, ms.length, cl⟩⟩) 43) :: L ∧ (∀ (i : Nat) s, i < k → w.servs[i]? = some s → SOk s ∧ s.id = i + 4)) (ss).length (by exact kQ) (by exact kL) ⟨0, by omega, rfl, rfl, by exact fun i s h => absurd h (by omega)⟩ ?_
  rintro mz Ez Mz ⟨k, hk, rfl, rfl, hin⟩
  rcases Nat.lt_or_ge k (ss).length with hlt | hge
  · obtain ⟨⟨v, sc, st⟩, hy⟩ : ∃ y, ss[k]? = some y := ⟨_, List.getElem?_eq_getElem hlt⟩
    have hrow' := hrS k _ hy
    have hvk : w.servs[k]? = some v := by rw [← hsE, List.getElem?_map, hy]; rfl
    have hva := hsa _ (List.mem_of_getElem? hy)
    cases hso : servOk' v with
    | false =>
      have he : worldOk w = false := worldOk_f fun h => by rw [servOk'_iff.2 (h.ss k v hvk).1] at hso; cases hso
      (repeat' (first | refine nI ?_ | (refine nA ?_; intro _) | (refine nW ?_; first | (refine op_call_id ?_; refine op_ro rfl rfl (by exact (c_servOk' v sc st (hva.c.mono (by exact kS)) (hva.t.mono (by exact kS))).eq (congrArg B hso)) ?_)) | refine nY ?_ | refine nR ?_ | refine WC_cond rfl (fun hc => ?_) (fun hc => ?_)))
      refine ro_ret (by exact kR) (by exact kL) ?_; rw [he]; rfl
    | true =>
    by_cases hid : v.id = (k : Int) + 4
    · (repeat' (first | refine nI ?_ | (refine nA ?_; intro _) | (refine nW ?_; first | (refine op_call_id ?_; refine op_ro rfl rfl (by exact (c_servOk' v sc st (hva.c.mono (by exact kS)) (hva.t.mono (by exact kS))).eq (congrArg B hso)) ?_)) | refine nY ?_ | refine nR ?_ | refine WC_cond rfl (fun hc => ?_) (fun hc => ?_)))
      exact loopQ_next ⟨mz - 1, _, _, by omega, by exact kQ, by exact kL, k + 1, by omega, rfl, rfl, by (intro i s hi hs; by_cases hik : i = k; (subst hik; rw [hvk] at hs; cases hs; exact ⟨servOk'_iff.1 hso, hid⟩); exact hin i s (by omega) hs)⟩
    · have he : worldOk w = false := worldOk_f fun h => hid (h.ss k v hvk).2
      (repeat' (first | refine nI ?_ | (refine nA ?_; intro _) | (refine nW ?_; first | (refine op_call_id ?_; refine op_ro rfl rfl (by exact (c_servOk' v sc st (hva.c.mono (by exact kS)) (hva.t.mono (by exact kS))).eq (congrArg B hso)) ?_)) | refine nY ?_ | refine nR ?_ | refine WC_cond rfl (fun hc => ?_) (fun hc => ?_)))
      refine ro_ret (by exact kR) (by exact kL) ?_; rw [he]; rfl
  have hss : ∀ (i : Nat) s, w.servs[i]? = some s → SOk s ∧ s.id = i + 4 := fun i s hs => hin i s (by have := (List.getElem?_eq_some_iff.1 hs).1; omega) hs
  have he : worldOk w = w.log.all msgOk := by
    rw [Bool.eq_iff_iff, worldOk_iff, List.all_eq_true]
    exact ⟨fun h => h.ms, fun hm => ⟨within_iff.1 h1, kdcOk_iff.1 hkk, h2, h4, h5, within_iff.1 h3, hcs, hss, hm⟩⟩
  have he2 : ms.any (fun p => !msgOk p.1) = !(w.log.all msgOk) := by rw [← hme, List.all_map, List.not_all_eq_any_not]; rfl
  (repeat' (first | refine nI ?_ | (refine nA ?_; intro _) | (refine nW ?_; first | (refine op_call_id ?_; refine op_ro rfl rfl (by exact (c_containsFuncimpl.Msg ⟨al, ms.length, cl⟩ ms _ [] (fun p => !msgOk p.1) (hmr0.mono (by exact kS)) (fun x hx => c_worldOk1 x.1 x.2 ((hma x hx).mono (by exact kS)))).eq (congrArg B he2)) ?_)) | refine nY ?_ | refine nR ?_ | refine WC_cond rfl (fun hc => ?_) (fun hc => ?_)))
  refine ro_ret (by exact kR) (by exact kL) ?_; rw [he]; simp [packR]
end
theorem c_worldOkA {L : List Ent} (w : World) (q : WSl) (ps : List (Client × CSl)) (ss : List (Serv × (Sl × Sl))) (ms : List (Msg × Sl)) (hat : WldAt L w q ps ss ms) : RO Tryz.prog 38 [worldV w q] L (B (worldOk w)) := by
  obtain ⟨kc, ⟨ac, nc, cc⟩, ⟨av, nv, cv⟩, ⟨al, nl, cl⟩⟩ := q
  exact c_worldOkA0 w kc ac av al nc nv nl cc cv cl ps ss ms hat
end Go.Proofs.YtoledfhjmdpihaaGreat
