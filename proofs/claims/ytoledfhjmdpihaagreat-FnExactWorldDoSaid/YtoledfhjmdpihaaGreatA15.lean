/- The reference: whether worlds whose parts are in order are ok; what happens in them. -/
import Derived.Test.YtoledfhjmdpihaaGreatA12
import Derived.Test.YtoledfhjmdpihaaGreatA9
set_option linter.unusedVariables false
set_option linter.unusedSectionVars false
set_option linter.unusedSimpArgs false
namespace Go.Proofs.YtoledfhjmdpihaaGreat
open Go Go.Proofs Go.Proofs.YtoledfhjmdpihaaGreat.VE
attribute [local irreducible] Val Op1 WO WR WA WC seqQ blockQ loopQ retQ
noncomputable def o125x4N7 : Array Oper := cops (cl (cl (cl (cr (cl (cl (cr (cl (cr (codeOf Tryz.f125))))))))))
noncomputable def o66x18N7 : Array Oper := cops (cl (cl (cl (cr (cl (cl (cr (cl (cr (cr (cr (cr (codeOf Tryz.f66)))))))))))))
noncomputable def o66x23N7 : Array Oper := cops (cl (cl (cl (cr (cl (cl (cr (cl (cr (cr (cr (cr (cr (codeOf Tryz.f66))))))))))))))
noncomputable def o66x7N7 : Array Oper := cops (cl (cr (cl (cl (cr (cl (cl (cr (cl (cr (cr (codeOf Tryz.f66))))))))))))
noncomputable def o8x3N7 : Array Oper := cops (cl (cr (cr (codeOf Tryz.f8))))
noncomputable def r125x4N7 : Run := (.st 0 0 (.st 1 0 (.st 2 0 (.st 3 0 (.st 4 1 (.st 5 0 (.st 6 0 (.st 7 0 (.st 8 0 (.st 9 0 (.st 10 1 (.st 11 3 (.st 12 0 (.st 13 0 (.st 14 0 (.st 15 0 (.st 16 0 (.st 17 0 (.st 18 0 (.st 19 0 (.st 20 0 (.st 21 1 (.st 22 3 (.st 23 0 .done))))))))))))))))))))))))
noncomputable def r66x18N7 : Run := (.st 0 0 (.st 1 1 (.st 2 0 (.st 3 0 (.st 4 1 (.st 5 0 (.st 6 1 (.st 7 3 (.st 8 0 (.st 9 0 (.st 10 0 (.st 11 0 (.st 12 0 (.st 13 0 (.st 14 1 (.st 15 0 (.st 16 0 (.st 17 0 (.st 18 0 (.st 19 1 (.st 20 0 (.st 21 1 (.st 22 0 (.st 23 0 (.st 24 0 (.st 25 1 (.st 26 0 (.st 27 0 (.st 28 0 .done)))))))))))))))))))))))))))))
noncomputable def r66x23N7 : Run := (.st 0 0 (.st 1 1 (.st 2 0 (.st 3 1 (.st 4 0 (.st 5 0 (.st 6 1 (.st 7 3 (.st 8 0 (.st 9 0 (.st 10 0 (.st 11 1 (.st 12 0 (.st 13 0 (.st 14 0 (.st 15 1 (.st 16 0 (.st 17 0 (.st 18 1 (.st 19 3 (.st 20 0 .done)))))))))))))))))))))
noncomputable def r66x7N7 : Run := (.st 0 0 (.st 1 1 (.st 2 3 (.st 3 0 (.st 4 0 (.st 5 0 (.st 6 1 (.st 7 0 (.st 8 1 (.st 9 3 (.st 10 0 (.st 11 0 (.st 12 0 (.st 13 0 (.st 14 0 (.st 15 0 (.st 16 0 (.st 17 1 (.st 18 0 (.st 19 0 (.st 20 0 (.st 21 0 (.st 22 1 (.st 23 0 (.st 24 1 (.st 25 0 (.st 26 0 (.st 27 0 .done))))))))))))))))))))))))))))
noncomputable def r8x3N7 : Run := (.st 0 1 (.st 2 1 (.st 1 2 (.st 3 3 (.st 4 3 .done)))))
set_option maxHeartbeats 8000000
theorem pw_adj {X : Type} {r : X → X → Prop} {xs : List X} (h : xs.Pairwise r) {j k : Nat} {x y : X} (hx : xs[j]? = some x) (hy : xs[k]? = some y) (hjk : j < k) : r x y :=
  pw_drop h hx y (by
    have : (xs.drop (j + 1))[k - (j + 1)]? = some y := by rw [List.getElem?_drop, show j + 1 + (k - (j + 1)) = k by omega]; exact hy
    exact List.mem_of_getElem? this)
theorem c_l11CacheT {L : List Ent} (s : Sl) (xs : List Seal) (h : SliceAt L encSeal s xs) (hok : AOk xs) : RO Tryz.prog 125 [s.v] L (B true) := by
  obtain ⟨a, n, c⟩ := s
  have h0 := h
  obtain ⟨hn, hc, hb, hat⟩ := h
  dsimp only at hn hat hc
  subst hn
  simp only [big] at hb
  have hlen := hok.len
  refine Tri.of Tryz.func125 rfl rfl Tryz.ntmps125 rfl rfl ?_
  (repeat' (first | refine nI ?_ | (refine nA ?_; intro _) | refine nY ?_ | refine WA_alt ?_ ?_ | refine nR ?_ | refine WC_drawL (id := 4) (ops := o125x4N7) r125x4N7 (by kernel_rfl) rfl ?_ | refine WC_cond rfl (fun hc => ?_) (fun hc => ?_)))
  refine WC_loop (fun mz Ez Mz => ∃ k : Nat, k + mz = (xs).length ∧ Ez = [(0, .slice a xs.length c), (3, I k)] ∧ Mz = L ∧ (True)) (xs).length (by exact kQ) (by exact kL) ⟨0, by omega, rfl, rfl, by trivial⟩ ?_
  rintro mz Ez Mz ⟨k, hk, rfl, rfl, hin⟩
  rcases Nat.lt_or_ge k (xs).length with hlt | hge
  · have hcut := h0.take (k := k) (by omega)
    obtain ⟨y2, hy2⟩ : ∃ y, (xs)[k]? = some y := ⟨(xs)[k]'(by omega), by simp [hlt]⟩; obtain ⟨b'2, o2, cs2, T2, fr2, rfl, hm2, hrow2⟩ := hat (by omega); have hrow'2 := hrow2 k y2 hy2; have htk2 := take_next hy2
    have ha := hok.all y2 (List.mem_of_getElem? hy2)
    have hno := nodup_take hok.nd hy2
    have ha1 : y2.kind = 3 := by simp only [authOk, Bool.and_eq_true, beq_iff_eq] at ha; exact ha.1
    have ha2 : sealOk y2 = true := by simp only [authOk, Bool.and_eq_true] at ha; exact ha.2
    (repeat' (first | refine nI ?_ | (refine nA ?_; intro _) | (refine nW ?_; first | (refine op_call_id ?_; refine op_ro rfl rfl (by first | exact (c_sSealOk y2).eq (congrArg B ha2) | exact (c_spec.l3Among ⟨_, _, _⟩ (xs.take k) y2 (hcut.mono (by exact kS))).eq (congrArg B (decide_eq_false hno))) ?_)) | refine nY ?_ | refine WA_alt ?_ ?_ | refine nR ?_ | refine WC_drawL (id := 4) (ops := o125x4N7) r125x4N7 (by kernel_rfl) rfl ?_ | refine WC_cond rfl (fun hc => ?_) (fun hc => ?_)))
    exact loopQ_next ⟨mz - 1, _, _, by omega, by exact kQ, by exact kL, k + 1, by omega, rfl, rfl, by trivial⟩
  (repeat' (first | refine nI ?_ | (refine nA ?_; intro _) | refine nY ?_ | refine WA_alt ?_ ?_ | refine nR ?_ | refine WC_drawL (id := 4) (ops := o125x4N7) r125x4N7 (by kernel_rfl) rfl ?_ | refine WC_cond rfl (fun hc => ?_) (fun hc => ?_)))
  refine ro_ret (by exact kR) (by exact kL) ?_; rfl
theorem c_sKdcOkT {L : List Ent} (k : Kdc) (c : Sl) (h1 : SliceAt L encSeal c k.cache) (hok : KOk k) : RO Tryz.prog 64 [.agg [I k.next, c.v].toArray] L (B true) := by
  have hn : within k.next 10 61 = true := within_iff.2 hok.next
  refine Tri.of Tryz.func64 rfl rfl Tryz.ntmps64 rfl rfl ?_
  (repeat' (first | refine nI ?_ | (refine nA ?_; intro _) | (refine nW ?_; first | (refine op_call_id ?_; refine op_ro rfl rfl (by first | exact (c_l6In _ _ _).eq (congrArg B hn) | exact c_l11CacheT c k.cache (h1.mono (by exact kS)) hok.cache) ?_)) | refine nY ?_ | refine nR ?_ | refine WC_cond rfl (fun hc => ?_) (fun hc => ?_)))
  refine ro_ret (by exact kR) (by exact kL) ?_; rfl
theorem c_l13TookT {L : List Ent} (x : Call) (h : tookOk x = true) : RO Tryz.prog 132 [callV x] L (B true) := by
  obtain ⟨h1, h2, h3, h4⟩ := tookOk_cases h
  have g1 : userOk x.peer = true := within_iff.2 h1
  have g2 : madeOk x.key = true := within_iff.2 h2
  have g3 : timeOk x.time = true := within_iff.2 h3
  have g4 : numOk x.num = true := within_iff.2 h4
  refine Tri.of Tryz.func132 rfl rfl Tryz.ntmps132 rfl rfl ?_
  (repeat' (first | refine nI ?_ | (refine nA ?_; intro _) | (refine nW ?_; first | (refine op_call_id ?_; refine op_ro rfl rfl (by first | exact (c_l1User _).eq (congrArg B g1) | exact (c_l1Session _).eq (congrArg B g2) | exact (c_l1Time _).eq (congrArg B g3) | exact (c_l1Num _).eq (congrArg B g4)) ?_)) | refine nY ?_ | refine nR ?_ | refine WC_cond rfl (fun hc => ?_) (fun hc => ?_)))
  refine ro_ret (by exact kR) (by exact kL) ?_; rfl
theorem c_sServOkT {L : List Ent} (s : Serv) (c t : Sl) (h1 : SliceAt L encSeal c s.cache) (h2 : SliceAt L encCall t s.took) (hok : SOk s) : RO Tryz.prog 67 [servV s c t] L (B true) := by
  obtain ⟨a, n, cp⟩ := t
  obtain ⟨hn, hc, hb, hat⟩ := h2
  dsimp only at hn hat hc
  subst hn
  simp only [big] at hb
  have g1 : servOk s.id = true := within_iff.2 hok.id
  have g2 : within s.since (-1) 100 = true := within_iff.2 hok.since
  refine Tri.of Tryz.func67 rfl rfl Tryz.ntmps67 rfl rfl ?_
  (repeat' (first | refine nI ?_ | (refine nA ?_; intro _) | (refine nW ?_; first | (refine op_call_id ?_; refine op_ro rfl rfl (by first | exact (c_l1Serv _).eq (congrArg B g1) | exact (c_l6In _ _ _).eq (congrArg B g2) | exact c_l11CacheT c s.cache (h1.mono (by exact kS)) hok.cache) ?_)) | refine nY ?_ | refine nR ?_ | refine WC_cond rfl (fun hc => ?_) (fun hc => ?_)))
  rename_i bx
  refine WC_loop (fun mz Ez Mz => ∃ k : Nat, k + mz = (s.took).length ∧ Ez = [(1, .pointer (some ⟨bx, 0, none⟩)), (3, I k)] ∧ Mz = (bx, cellsO (servC s c ⟨a, s.took.length, cp⟩) 115) :: L ∧ (True)) (s.took).length (by exact kQ) (by exact kL) ⟨0, by omega, rfl, rfl, by trivial⟩ ?_
  rintro mz Ez Mz ⟨k, hk, rfl, rfl, hin⟩
  rcases Nat.lt_or_ge k (s.took).length with hlt | hge
  · obtain ⟨y2, hy2⟩ : ∃ y, (s.took)[k]? = some y := ⟨(s.took)[k]'(by omega), by simp [hlt]⟩; obtain ⟨b'2, o2, cs2, T2, fr2, rfl, hm2, hrow2⟩ := hat (by omega); have hrow'2 := hrow2 k y2 hy2; have htk2 := take_next hy2
    (repeat' (first | refine nI ?_ | (refine nA ?_; intro _) | (refine nW ?_; first | (refine op_call_id ?_; refine op_ro rfl rfl (by exact c_l13TookT y2 (hok.took y2 (List.mem_of_getElem? hy2))) ?_)) | refine nY ?_ | refine nR ?_ | refine WC_cond rfl (fun hc => ?_) (fun hc => ?_)))
    exact loopQ_next ⟨mz - 1, _, _, by omega, by exact kQ, by exact kL, k + 1, by omega, rfl, rfl, by trivial⟩
  (repeat' (first | refine nI ?_ | (refine nA ?_; intro _) | refine nY ?_ | refine nR ?_ | refine WC_cond rfl (fun hc => ?_) (fun hc => ?_)))
  refine ro_ret (by exact kR) (by exact kL) ?_; rfl
theorem c_l12CallT {L : List Ent} (x : Call) (num : Int) (h : callOk x = true) (hn : within x.num 1 num = true) : RO Tryz.prog 130 [callV x, I num] L (B true) := by
  obtain ⟨h1, h2, h3⟩ := callOk_cases h
  have g1 : servOk x.peer = true := within_iff.2 h1
  have g2 : madeOk x.key = true := within_iff.2 h2
  have g3 : timeOk x.time = true := within_iff.2 h3
  refine Tri.of Tryz.func130 rfl rfl Tryz.ntmps130 rfl rfl ?_
  (repeat' (first | refine nI ?_ | (refine nA ?_; intro _) | (refine nW ?_; first | (refine op_call_id ?_; refine op_ro rfl rfl (by first | exact (c_l1Serv _).eq (congrArg B g1) | exact (c_l1Session _).eq (congrArg B g2) | exact (c_l1Time _).eq (congrArg B g3) | exact (c_l6In _ _ _).eq (congrArg B hn)) ?_)) | refine nY ?_ | refine nR ?_ | refine WC_cond rfl (fun hc => ?_) (fun hc => ?_)))
  refine ro_ret (by exact kR) (by exact kL) ?_; rfl
theorem c_sClientOkT {L : List Ent} (cl : Client) (s : CSl) (h : CliAt L (cl, s)) (hok : COk cl) : RO Tryz.prog 66 [clientV cl s] L (B true) := by
  obtain ⟨⟨aw, nw, cw⟩, ⟨ac, nc, cc⟩, ⟨as_, ns, cs⟩, ⟨am, nm, cm⟩⟩ := s
  have hw : SliceAt L encWant ⟨aw, nw, cw⟩ cl.wants := h.w
  have hc : SliceAt L encCred ⟨ac, nc, cc⟩ cl.creds := h.c
  have hs : SliceAt L encCall ⟨as_, ns, cs⟩ cl.sent := h.s
  have hm : SliceAt L encCall ⟨am, nm, cm⟩ cl.met := h.m
  clear h
  obtain ⟨hnw, hcw, hbw, hatw⟩ := id hw
  obtain ⟨hnc, hcc, hbc, hatc⟩ := id hc
  obtain ⟨hns, hcs, hbs, hats⟩ := id hs
  obtain ⟨hnm, hcm, hbm, hatm⟩ := id hm
  dsimp only at hnw hnc hns hnm hcw hcc hcs hcm hatw hatc hats hatm
  subst hnw hnc hns hnm
  simp only [big] at hbw hbc hbs hbm
  have hu : userOk cl.id = true := within_iff.2 hok.id
  have hn : within cl.num 0 60 = true := within_iff.2 hok.num
  have hnum := hok.num
  refine Tri.of Tryz.func66 rfl rfl Tryz.ntmps66 rfl rfl ?_
  (repeat' (first | refine nI ?_ | (refine nA ?_; intro _) | (refine nW ?_; first | (refine op_call_id ?_; refine op_ro rfl rfl (by first | exact (c_l1User _).eq (congrArg B hu) | exact (c_l6In _ _ _).eq (congrArg B hn)) ?_)) | refine nY ?_ | refine WA_alt ?_ ?_ | refine nR ?_ | refine WC_drawL (id := 7) (ops := o66x7N7) r66x7N7 (by kernel_rfl) rfl ?_ | refine WC_drawL (id := 18) (ops := o66x18N7) r66x18N7 (by kernel_rfl) rfl ?_ | refine WC_drawL (id := 23) (ops := o66x23N7) r66x23N7 (by kernel_rfl) rfl ?_ | refine WC_cond rfl (fun hc => ?_) (fun hc => ?_)))
  rename_i bx
  refine WC_loop (fun mz Ez Mz => ∃ k : Nat, k + mz = (cl.wants).length ∧ Ez = [(1, .pointer (some ⟨bx, 0, none⟩)), (3, I k)] ∧ Mz = (bx, cellsO (clientC cl ⟨⟨aw, cl.wants.length, cw⟩, ⟨ac, cl.creds.length, cc⟩, ⟨as_, cl.sent.length, cs⟩, ⟨am, cl.met.length, cm⟩⟩) 112) :: L ∧ (True)) (cl.wants).length (by exact kQ) (by exact kL) ⟨0, by omega, rfl, rfl, by trivial⟩ ?_
  rintro mz Ez Mz ⟨k, hk, rfl, rfl, hin⟩
  rcases Nat.lt_or_ge k (cl.wants).length with hlt | hge
  · obtain ⟨y2, hy2⟩ : ∃ y, (cl.wants)[k]? = some y := ⟨(cl.wants)[k]'(by omega), by simp [hlt]⟩; obtain ⟨b'2, o2, cs2, T2, fr2, rfl, hm2, hrow2⟩ := hatw (by omega); have hrow'2 := hrow2 k y2 hy2; have htk2 := take_next hy2
    have hw2 := hok.wants y2 (List.mem_of_getElem? hy2)
    have g1 : within y2.serv 4 6 = true := hw2.1
    have g2 : within y2.nonce 1 cl.num = true := within_iff.2 (by omega)
    rcases Nat.eq_zero_or_pos k with hk0 | hkp
    · (repeat' (first | refine nI ?_ | (refine nA ?_; intro _) | (refine nW ?_; first | (refine op_call_id ?_; refine op_ro rfl rfl (by first | exact (c_l6In y2.serv 4 6).eq (congrArg B g1) | exact (c_l6In y2.nonce 1 cl.num).eq (congrArg B g2)) ?_)) | refine nY ?_ | refine WA_alt ?_ ?_ | refine nR ?_ | refine WC_drawL (id := 7) (ops := o66x7N7) r66x7N7 (by kernel_rfl) rfl ?_ | refine WC_drawL (id := 18) (ops := o66x18N7) r66x18N7 (by kernel_rfl) rfl ?_ | refine WC_drawL (id := 23) (ops := o66x23N7) r66x23N7 (by kernel_rfl) rfl ?_ | refine WC_cond rfl (fun hc => ?_) (fun hc => ?_)))
      exact loopQ_next ⟨mz - 1, _, _, by omega, by exact kQ, by exact kL, k + 1, by omega, rfl, rfl, by trivial⟩
    · obtain ⟨yp, hyp⟩ : ∃ y, cl.wants[((k : Int) - 1).toNat]? = some y := ⟨_, List.getElem?_eq_getElem (by omega)⟩
      have hrowp := hrow2 _ yp hyp
      have hlt2 := pw_adj hok.wp hyp hy2 (by omega)
      (repeat' (first | refine nI ?_ | (refine nA ?_; intro _) | (refine nW ?_; first | (refine op_call_id ?_; refine op_ro rfl rfl (by first | exact (c_l6In y2.serv 4 6).eq (congrArg B g1) | exact (c_l6In y2.nonce 1 cl.num).eq (congrArg B g2)) ?_)) | refine nY ?_ | refine WA_alt ?_ ?_ | refine nR ?_ | refine WC_drawL (id := 7) (ops := o66x7N7) r66x7N7 (by kernel_rfl) rfl ?_ | refine WC_drawL (id := 18) (ops := o66x18N7) r66x18N7 (by kernel_rfl) rfl ?_ | refine WC_drawL (id := 23) (ops := o66x23N7) r66x23N7 (by kernel_rfl) rfl ?_ | refine WC_cond rfl (fun hc => ?_) (fun hc => ?_)))
      exact loopQ_next ⟨mz - 1, _, _, by omega, by exact kQ, by exact kL, k + 1, by omega, rfl, rfl, by trivial⟩
  (repeat' (first | refine nI ?_ | (refine nA ?_; intro _) | refine nY ?_ | refine WA_alt ?_ ?_ | refine nR ?_ | refine WC_drawL (id := 7) (ops := o66x7N7) r66x7N7 (by kernel_rfl) rfl ?_ | refine WC_drawL (id := 18) (ops := o66x18N7) r66x18N7 (by kernel_rfl) rfl ?_ | refine WC_drawL (id := 23) (ops := o66x23N7) r66x23N7 (by kernel_rfl) rfl ?_ | refine WC_cond rfl (fun hc => ?_) (fun hc => ?_)))
  clear hk hge hin
  refine WC_loop (fun mz Ez Mz => ∃ k : Nat, k + mz = (cl.creds).length ∧ Ez = [(1, .pointer (some ⟨bx, 0, none⟩)), (5, I k)] ∧ Mz = (bx, cellsO (clientC cl ⟨⟨aw, cl.wants.length, cw⟩, ⟨ac, cl.creds.length, cc⟩, ⟨as_, cl.sent.length, cs⟩, ⟨am, cl.met.length, cm⟩⟩) 112) :: L ∧ (True)) (cl.creds).length (by exact kQ) (by exact kL) ⟨0, by omega, rfl, rfl, by trivial⟩ ?_
  rintro mz Ez Mz ⟨k, hk, rfl, rfl, hin⟩
  rcases Nat.lt_or_ge k (cl.creds).length with hlt | hge
  · obtain ⟨y3, hy3⟩ : ∃ y, (cl.creds)[k]? = some y := ⟨(cl.creds)[k]'(by omega), by simp [hlt]⟩; obtain ⟨b'3, o3, cs3, T3, fr3, rfl, hm3, hrow3⟩ := hatc (by omega); have hrow'3 := hrow3 k y3 hy3; have htk3 := take_next hy3
    have hc3 := credOk_cases (hok.creds y3 (List.mem_of_getElem? hy3))
    have g1 : within y3.serv 4 6 = true := within_iff.2 hc3.1
    have g2 : madeOk y3.key = true := within_iff.2 hc3.2.1
    have g3 : timeOk y3.til = true := within_iff.2 hc3.2.2.1
    have g4 : sealOk y3.ticket = true := hc3.2.2.2
    have hx : credIdx cl y3.serv = (k : Int) := (credIdx_at hy3).2 (by
      have := nodup_take hok.cn (k := k) (x := y3.serv) (by rw [List.getElem?_map, hy3]; rfl)
      rwa [← List.map_take] at this)
    (repeat' (first | refine nI ?_ | (refine nA ?_; intro _) | (refine nW ?_; first | (refine op_call_id ?_; refine op_ro rfl rfl (by first | exact (c_l6In y3.serv 4 6).eq (congrArg B g1) | exact (c_l12Cred cl ⟨⟨aw, cl.wants.length, cw⟩, ⟨some ⟨b'3, o3, none⟩, cl.creds.length, cc⟩, ⟨as_, cl.sent.length, cs⟩, ⟨am, cl.met.length, cm⟩⟩ y3.serv (hc.mono (by exact kS))).eq (congrArg I hx) | exact (c_l1Session _).eq (congrArg B g2) | exact (c_l1Time _).eq (congrArg B g3) | exact (c_sSealOk y3.ticket).eq (congrArg B g4)) ?_)) | refine nY ?_ | refine WA_alt ?_ ?_ | refine nR ?_ | refine WC_drawL (id := 7) (ops := o66x7N7) r66x7N7 (by kernel_rfl) rfl ?_ | refine WC_drawL (id := 18) (ops := o66x18N7) r66x18N7 (by kernel_rfl) rfl ?_ | refine WC_drawL (id := 23) (ops := o66x23N7) r66x23N7 (by kernel_rfl) rfl ?_ | refine WC_cond rfl (fun hc => ?_) (fun hc => ?_)))
    exact loopQ_next ⟨mz - 1, _, _, by omega, by exact kQ, by exact kL, k + 1, by omega, rfl, rfl, by trivial⟩
  (repeat' (first | refine nI ?_ | (refine nA ?_; intro _) | refine nY ?_ | refine WA_alt ?_ ?_ | refine nR ?_ | refine WC_drawL (id := 7) (ops := o66x7N7) r66x7N7 (by kernel_rfl) rfl ?_ | refine WC_drawL (id := 18) (ops := o66x18N7) r66x18N7 (by kernel_rfl) rfl ?_ | refine WC_drawL (id := 23) (ops := o66x23N7) r66x23N7 (by kernel_rfl) rfl ?_ | refine WC_cond rfl (fun hc => ?_) (fun hc => ?_)))
  clear hk hge hin
  refine WC_loop (fun mz Ez Mz => ∃ k : Nat, k + mz = (cl.sent).length ∧ Ez = [(1, .pointer (some ⟨bx, 0, none⟩)), (7, I k)] ∧ Mz = (bx, cellsO (clientC cl ⟨⟨aw, cl.wants.length, cw⟩, ⟨ac, cl.creds.length, cc⟩, ⟨as_, cl.sent.length, cs⟩, ⟨am, cl.met.length, cm⟩⟩) 112) :: L ∧ (True)) (cl.sent).length (by exact kQ) (by exact kL) ⟨0, by omega, rfl, rfl, by trivial⟩ ?_
  rintro mz Ez Mz ⟨k, hk, rfl, rfl, hin⟩
  rcases Nat.lt_or_ge k (cl.sent).length with hlt | hge
  · obtain ⟨y4, hy4⟩ : ∃ y, (cl.sent)[k]? = some y := ⟨(cl.sent)[k]'(by omega), by simp [hlt]⟩; obtain ⟨b'4, o4, cs4, T4, fr4, rfl, hm4, hrow4⟩ := hats (by omega); have hrow'4 := hrow4 k y4 hy4; have htk4 := take_next hy4
    have hw2 := hok.sent y4 (List.mem_of_getElem? hy4)
    have g2 : within y4.num 1 cl.num = true := within_iff.2 (by omega)
    rcases Nat.eq_zero_or_pos k with hk0 | hkp
    · (repeat' (first | refine nI ?_ | (refine nA ?_; intro _) | (refine nW ?_; first | (refine op_call_id ?_; refine op_ro rfl rfl (by exact c_l12CallT y4 cl.num hw2.1 g2) ?_)) | refine nY ?_ | refine WA_alt ?_ ?_ | refine nR ?_ | refine WC_drawL (id := 7) (ops := o66x7N7) r66x7N7 (by kernel_rfl) rfl ?_ | refine WC_drawL (id := 18) (ops := o66x18N7) r66x18N7 (by kernel_rfl) rfl ?_ | refine WC_drawL (id := 23) (ops := o66x23N7) r66x23N7 (by kernel_rfl) rfl ?_ | refine WC_cond rfl (fun hc => ?_) (fun hc => ?_)))
      exact loopQ_next ⟨mz - 1, _, _, by omega, by exact kQ, by exact kL, k + 1, by omega, rfl, rfl, by trivial⟩
    · obtain ⟨yp, hyp⟩ : ∃ y, cl.sent[((k : Int) - 1).toNat]? = some y := ⟨_, List.getElem?_eq_getElem (by omega)⟩
      have hrowp := hrow4 _ yp hyp
      have hlt2 := pw_adj hok.sp hyp hy4 (by omega)
      (repeat' (first | refine nI ?_ | (refine nA ?_; intro _) | (refine nW ?_; first | (refine op_call_id ?_; refine op_ro rfl rfl (by exact c_l12CallT y4 cl.num hw2.1 g2) ?_)) | refine nY ?_ | refine WA_alt ?_ ?_ | refine nR ?_ | refine WC_drawL (id := 7) (ops := o66x7N7) r66x7N7 (by kernel_rfl) rfl ?_ | refine WC_drawL (id := 18) (ops := o66x18N7) r66x18N7 (by kernel_rfl) rfl ?_ | refine WC_drawL (id := 23) (ops := o66x23N7) r66x23N7 (by kernel_rfl) rfl ?_ | refine WC_cond rfl (fun hc => ?_) (fun hc => ?_)))
      exact loopQ_next ⟨mz - 1, _, _, by omega, by exact kQ, by exact kL, k + 1, by omega, rfl, rfl, by trivial⟩
  (repeat' (first | refine nI ?_ | (refine nA ?_; intro _) | refine nY ?_ | refine WA_alt ?_ ?_ | refine nR ?_ | refine WC_drawL (id := 7) (ops := o66x7N7) r66x7N7 (by kernel_rfl) rfl ?_ | refine WC_drawL (id := 18) (ops := o66x18N7) r66x18N7 (by kernel_rfl) rfl ?_ | refine WC_drawL (id := 23) (ops := o66x23N7) r66x23N7 (by kernel_rfl) rfl ?_ | refine WC_cond rfl (fun hc => ?_) (fun hc => ?_)))
  clear hk hge hin
  refine WC_loop (fun mz Ez Mz => ∃ k : Nat, k + mz = (cl.met).length ∧ Ez = [(1, .pointer (some ⟨bx, 0, none⟩)), (8, I k)] ∧ Mz = (bx, cellsO (clientC cl ⟨⟨aw, cl.wants.length, cw⟩, ⟨ac, cl.creds.length, cc⟩, ⟨as_, cl.sent.length, cs⟩, ⟨am, cl.met.length, cm⟩⟩) 112) :: L ∧ (True)) (cl.met).length (by exact kQ) (by exact kL) ⟨0, by omega, rfl, rfl, by trivial⟩ ?_
  rintro mz Ez Mz ⟨k, hk, rfl, rfl, hin⟩
  rcases Nat.lt_or_ge k (cl.met).length with hlt | hge
  · have hcut := hm.take (k := k) (by omega)
    obtain ⟨y5, hy5⟩ : ∃ y, (cl.met)[k]? = some y := ⟨(cl.met)[k]'(by omega), by simp [hlt]⟩; obtain ⟨b'5, o5, cs5, T5, fr5, rfl, hm5, hrow5⟩ := hatm (by omega); have hrow'5 := hrow5 k y5 hy5; have htk5 := take_next hy5
    have g1 := hok.met y5 (List.mem_of_getElem? hy5)
    have g2 := nodup_take hok.mn hy5
    (repeat' (first | refine nI ?_ | (refine nA ?_; intro _) | (refine nW ?_; first | (refine op_call_id ?_; refine op_ro rfl rfl (by first | exact (c_spec.l12Called ⟨as_, cl.sent.length, cs⟩ cl.sent y5 (hs.mono (by exact kS))).eq (congrArg B (decide_eq_true g1)) | exact (c_spec.l12Called ⟨_, _, _⟩ (cl.met.take k) y5 (hcut.mono (by exact kS))).eq (congrArg B (decide_eq_false g2))) ?_)) | refine nY ?_ | refine WA_alt ?_ ?_ | refine nR ?_ | refine WC_drawL (id := 7) (ops := o66x7N7) r66x7N7 (by kernel_rfl) rfl ?_ | refine WC_drawL (id := 18) (ops := o66x18N7) r66x18N7 (by kernel_rfl) rfl ?_ | refine WC_drawL (id := 23) (ops := o66x23N7) r66x23N7 (by kernel_rfl) rfl ?_ | refine WC_cond rfl (fun hc => ?_) (fun hc => ?_)))
    exact loopQ_next ⟨mz - 1, _, _, by omega, by exact kQ, by exact kL, k + 1, by omega, rfl, rfl, by trivial⟩
  (repeat' (first | refine nI ?_ | (refine nA ?_; intro _) | refine nY ?_ | refine WA_alt ?_ ?_ | refine nR ?_ | refine WC_drawL (id := 7) (ops := o66x7N7) r66x7N7 (by kernel_rfl) rfl ?_ | refine WC_drawL (id := 18) (ops := o66x18N7) r66x18N7 (by kernel_rfl) rfl ?_ | refine WC_drawL (id := 23) (ops := o66x23N7) r66x23N7 (by kernel_rfl) rfl ?_ | refine WC_cond rfl (fun hc => ?_) (fun hc => ?_)))
  refine ro_ret (by exact kR) (by exact kL) ?_; rfl
section
variable {L : List Ent} (w : World) (kc : Sl) (ac av al : Option Addr) (nc nv nl cc cv cl : Nat) (ps : List (Client × CSl)) (ss : List (Serv × (Sl × Sl))) (ms : List (Msg × Sl)) (hat : WldAt L w ⟨kc, ⟨ac, nc, cc⟩, ⟨av, nv, cv⟩, ⟨al, nl, cl⟩⟩ ps ss ms) (hn : NOk w)
include hat hn
theorem c_sWorldOkN0 : RO Tryz.prog 30 [worldV w ⟨kc, ⟨ac, nc, cc⟩, ⟨av, nv, cv⟩, ⟨al, nl, cl⟩⟩] L (B (worldOk w)) := by
  obtain ⟨hkc, hpe, hpr, hpa, hsE, hsr, hsa, hme, hmr, hma⟩ := hat
  obtain ⟨hnP, hc1, hb1, hat1⟩ := hpr
  obtain ⟨hnS, hc2, hb2, hat2⟩ := hsr
  obtain ⟨hnM, hc3, hb3, hat3⟩ := hmr
  dsimp only at hnP hnS hnM hat1 hat2 hat3 hc1 hc2 hc3
  subst hnP hnS hnM
  simp only [big] at hb1 hb2 hb3
  have hpl : ps.length = w.clients.length := by rw [← List.length_map (f := Prod.fst), hpe]
  have hsl : ss.length = w.servs.length := by rw [← List.length_map (f := Prod.fst), hsE]
  have hml : ms.length = w.log.length := by rw [← List.length_map (f := Prod.fst), hme]
  have hs2 := hn.sl
  have hl8 := hn.ll
  cases h1 : timeOk w.now with
  | false =>
    have he : worldOk w = false := worldOk_f fun h => by have := within_false.1 h1; have := h.now; omega
    refine Tri.of Tryz.func30 rfl rfl Tryz.ntmps30 rfl rfl ?_
    (repeat' (first | refine nI ?_ | (refine nA ?_; intro _) | (refine nW ?_; first | (refine op_call_id ?_; refine op_ro rfl rfl (by exact (c_l1Time _).eq (congrArg B h1)) ?_)) | refine nY ?_ | refine nR ?_ | refine WC_cond rfl (fun hc => ?_) (fun hc => ?_)))
    refine ro_ret (by exact kR) (by exact kL) ?_; rw [he]; rfl
  | true =>
  by_cases h2 : w.clients.length = 3
  rotate_left
  · have he : worldOk w = false := worldOk_f fun h => h2 h.cl
    refine Tri.of Tryz.func30 rfl rfl Tryz.ntmps30 rfl rfl ?_
    (repeat' (first | refine nI ?_ | (refine nA ?_; intro _) | (refine nW ?_; first | (refine op_call_id ?_; refine op_ro rfl rfl (by first | exact (c_l1Time _).eq (congrArg B h1) | exact c_sKdcOkT w.kdc kc (hkc.mono (by exact kS)) hn.kdc) ?_)) | refine nY ?_ | refine nR ?_ | refine WC_cond rfl (fun hc => ?_) (fun hc => ?_)))
    refine ro_ret (by exact kR) (by exact kL) ?_; rw [he]; rfl
  cases h3 : within w.bad 0 3 with
  | false =>
    have he : worldOk w = false := worldOk_f fun h => by have := within_false.1 h3; have := h.bad; omega
    refine Tri.of Tryz.func30 rfl rfl Tryz.ntmps30 rfl rfl ?_
    (repeat' (first | refine nI ?_ | (refine nA ?_; intro _) | (refine nW ?_; first | (refine op_call_id ?_; refine op_ro rfl rfl (by first | exact (c_l1Time _).eq (congrArg B h1) | exact c_sKdcOkT w.kdc kc (hkc.mono (by exact kS)) hn.kdc | exact (c_l6In _ _ _).eq (congrArg B h3)) ?_)) | refine nY ?_ | refine nR ?_ | refine WC_cond rfl (fun hc => ?_) (fun hc => ?_)))
    refine ro_ret (by exact kR) (by exact kL) ?_; rw [he]; rfl
  | true =>
  have hcs := hn.cs h2
  obtain ⟨bP, oP, csP, TP, frP, rfl, hmP, hrP⟩ := hat1 (by omega)
  obtain ⟨bS, oS, csS, TS, frS, rfl, hmS, hrS⟩ := hat2 (by omega)
  refine Tri.of Tryz.func30 rfl rfl Tryz.ntmps30 rfl rfl ?_
  (repeat' (first | refine nI ?_ | (refine nA ?_; intro _) | (refine nW ?_; first | (refine op_call_id ?_; refine op_ro rfl rfl (by first | exact (c_l1Time _).eq (congrArg B h1) | exact c_sKdcOkT w.kdc kc (hkc.mono (by exact kS)) hn.kdc | exact (c_l6In _ _ _).eq (congrArg B h3)) ?_)) | refine nY ?_ | refine nR ?_ | refine WC_cond rfl (fun hc => ?_) (fun hc => ?_)))
  rename_i bx
  refine WC_loop (fun mz Ez Mz => ∃ k : Nat, k + mz = (ps).length ∧ Ez = [(1, .pointer (some ⟨bx, 0, none⟩)), (3, I k)] ∧ Mz = (bx, cellsO (worldC w ⟨kc, ⟨some ⟨bP, oP, none⟩, ps.length, cc⟩, ⟨some ⟨bS, oS, none⟩, ss.length, cv⟩, ⟨al, ms.length, cl⟩⟩) 43) :: L ∧ (True)) (ps).length (by exact kQ) (by exact kL) ⟨0, by omega, rfl, rfl, by trivial⟩ ?_
  rintro mz Ez Mz ⟨k, hk, rfl, rfl, hin⟩
  rcases Nat.lt_or_ge k (ps).length with hlt | hge
  · obtain ⟨⟨c, sc⟩, hy⟩ : ∃ y, ps[k]? = some y := ⟨_, List.getElem?_eq_getElem hlt⟩
    have hrow' := hrP k _ hy
    have hck : w.clients[k]? = some c := by rw [← hpe, List.getElem?_map, hy]; rfl
    obtain ⟨hco, hid⟩ := hcs k c hck
    have hca := hpa _ (List.mem_of_getElem? hy)
    (repeat' (first | refine nI ?_ | (refine nA ?_; intro _) | (refine nW ?_; first | (refine op_call_id ?_; refine op_ro rfl rfl (by exact c_sClientOkT c sc (hca.mono (by exact kS)) hco) ?_)) | refine nY ?_ | refine nR ?_ | refine WC_cond rfl (fun hc => ?_) (fun hc => ?_)))
    exact loopQ_next ⟨mz - 1, _, _, by omega, by exact kQ, by exact kL, k + 1, by omega, rfl, rfl, by trivial⟩
  (repeat' (first | refine nI ?_ | (refine nA ?_; intro _) | refine nY ?_ | refine nR ?_ | refine WC_cond rfl (fun hc => ?_) (fun hc => ?_)))
  clear hk hge hin
  refine WC_loop (fun mz Ez Mz => ∃ k : Nat, k + mz = (ss).length ∧ Ez = [(1, .pointer (some ⟨bx, 0, none⟩)), (4, I k)] ∧ Mz = (bx, cellsO (worldC w ⟨kc, ⟨some ⟨bP, oP, none⟩, ps.length, cc⟩, ⟨some ⟨bS, oS, none⟩, ss.length, cv⟩, ⟨al, ms.length, cl⟩⟩) 43) :: L ∧ (∀ (i : Nat) s, i < k → w.servs[i]? = some s → s.id = i + 4)) (ss).length (by exact kQ) (by exact kL) ⟨0, by omega, rfl, rfl, by exact fun i s h => absurd h (by omega)⟩ ?_
  rintro mz Ez Mz ⟨k, hk, rfl, rfl, hin⟩
  rcases Nat.lt_or_ge k (ss).length with hlt | hge
  · obtain ⟨⟨v, sc, st⟩, hy⟩ : ∃ y, ss[k]? = some y := ⟨_, List.getElem?_eq_getElem hlt⟩
    have hrow' := hrS k _ hy
    have hvk : w.servs[k]? = some v := by rw [← hsE, List.getElem?_map, hy]; rfl
    have hva := hsa _ (List.mem_of_getElem? hy)
    by_cases hid : v.id = (k : Int) + 4
    · (repeat' (first | refine nI ?_ | (refine nA ?_; intro _) | (refine nW ?_; first | (refine op_call_id ?_; refine op_ro rfl rfl (by exact c_sServOkT v sc st (hva.c.mono (by exact kS)) (hva.t.mono (by exact kS)) (hn.ss k v hvk)) ?_)) | refine nY ?_ | refine nR ?_ | refine WC_cond rfl (fun hc => ?_) (fun hc => ?_)))
      exact loopQ_next ⟨mz - 1, _, _, by omega, by exact kQ, by exact kL, k + 1, by omega, rfl, rfl, by (intro i s hi hs; by_cases hik : i = k; (subst hik; rw [hvk] at hs; cases hs; exact hid); exact hin i s (by omega) hs)⟩
    · have he : worldOk w = false := worldOk_f fun h => hid (h.ss k v hvk).2
      (repeat' (first | refine nI ?_ | (refine nA ?_; intro _) | (refine nW ?_; first | (refine op_call_id ?_; refine op_ro rfl rfl (by exact c_sServOkT v sc st (hva.c.mono (by exact kS)) (hva.t.mono (by exact kS)) (hn.ss k v hvk)) ?_)) | refine nY ?_ | refine nR ?_ | refine WC_cond rfl (fun hc => ?_) (fun hc => ?_)))
      refine ro_ret (by exact kR) (by exact kL) ?_; rw [he]; rfl
  have hids : ∀ (i : Nat) s, w.servs[i]? = some s → s.id = i + 4 := fun i s hs => hin i s (by have := (List.getElem?_eq_some_iff.1 hs).1; omega) hs
  have he : worldOk w = w.log.all msgOk := worldOk_log hn (within_iff.1 h1) h2 (within_iff.1 h3) hids
  (repeat' (first | refine nI ?_ | (refine nA ?_; intro _) | refine nY ?_ | refine nR ?_ | refine WC_cond rfl (fun hc => ?_) (fun hc => ?_)))
  clear hk hge hin
  refine WC_loop (fun mz Ez Mz => ∃ k : Nat, k + mz = (ms).length ∧ Ez = [(1, .pointer (some ⟨bx, 0, none⟩)), (5, I k)] ∧ Mz = (bx, cellsO (worldC w ⟨kc, ⟨some ⟨bP, oP, none⟩, ps.length, cc⟩, ⟨some ⟨bS, oS, none⟩, ss.length, cv⟩, ⟨al, ms.length, cl⟩⟩) 43) :: L ∧ (∀ y ∈ ms.take k, msgOk y.1 = true)) (ms).length (by exact kQ) (by exact kL) ⟨0, by omega, rfl, rfl, by simp⟩ ?_
  rintro mz Ez Mz ⟨k, hk, rfl, rfl, hin⟩
  rcases Nat.lt_or_ge k (ms).length with hlt | hge
  · obtain ⟨y6, hy6⟩ : ∃ y, (ms)[k]? = some y := ⟨(ms)[k]'(by omega), by simp [hlt]⟩; obtain ⟨b'6, o6, cs6, T6, fr6, rfl, hm6, hrow6⟩ := hat3 (by omega); have hrow'6 := hrow6 k y6 hy6; have htk6 := take_next hy6
    have hma1 := hma y6 (List.mem_of_getElem? hy6)
    cases hmk : msgOk y6.1 with
    | false =>
      have he2 : w.log.all msgOk = false := List.all_eq_false.2 ⟨y6.1, by rw [← hme]; exact List.mem_map_of_mem (List.mem_of_getElem? hy6), by simp [hmk]⟩
      (repeat' (first | refine nI ?_ | (refine nA ?_; intro _) | (refine nW ?_; first | (refine op_call_id ?_; refine op_ro rfl rfl (by exact (c_sMsgOk y6.1 y6.2 (hma1.mono (by exact kS))).eq (congrArg B hmk)) ?_)) | refine nY ?_ | refine nR ?_ | refine WC_cond rfl (fun hc => ?_) (fun hc => ?_)))
      refine ro_ret (by exact kR) (by exact kL) ?_; rw [he, he2]; rfl
    | true =>
      (repeat' (first | refine nI ?_ | (refine nA ?_; intro _) | (refine nW ?_; first | (refine op_call_id ?_; refine op_ro rfl rfl (by exact (c_sMsgOk y6.1 y6.2 (hma1.mono (by exact kS))).eq (congrArg B hmk)) ?_)) | refine nY ?_ | refine nR ?_ | refine WC_cond rfl (fun hc => ?_) (fun hc => ?_)))
      exact loopQ_next ⟨mz - 1, _, _, by omega, by exact kQ, by exact kL, k + 1, by omega, rfl, rfl, by rw [htk6]; exact all_next hin hmk⟩
  rw [take_all hge] at hin
  have he2 : w.log.all msgOk = true := List.all_eq_true.2 fun m hm => by
    rw [← hme] at hm
    obtain ⟨y, hy, rfl⟩ := List.mem_map.1 hm
    exact hin y hy
  (repeat' (first | refine nI ?_ | (refine nA ?_; intro _) | refine nY ?_ | refine nR ?_ | refine WC_cond rfl (fun hc => ?_) (fun hc => ?_)))
  refine ro_ret (by exact kR) (by exact kL) ?_; rw [he, he2]; rfl
end
theorem c_sWorldOkN {L : List Ent} (w : World) (q : WSl) (ps : List (Client × CSl)) (ss : List (Serv × (Sl × Sl))) (ms : List (Msg × Sl)) (hat : WldAt L w q ps ss ms) (hn : NOk w) : RO Tryz.prog 30 [worldV w q] L (B (worldOk w)) := by
  obtain ⟨kc, ⟨ac, nc, cc⟩, ⟨av, nv, cv⟩, ⟨al, nl, cl⟩⟩ := q
  exact c_sWorldOkN0 w kc ac av al nc nv nl cc cv cl ps ss ms hat hn
theorem c_worldDoF {L : List Ent} (w : World) (e : Event) (q : WSl) (ps : List (Client × CSl)) (ss : List (Serv × (Sl × Sl))) (ms : List (Msg × Sl)) (se : Sl) (hat : WldAt L w q ps ss ms) (hn : NOk w) (hk : worldOk w = false) :
    RO Tryz.prog 11 [worldV w q, eventV e se] L (worldV World.zero WSl.nil) := by
  refine Tri.of Tryz.func11 rfl rfl Tryz.ntmps11 rfl rfl ?_
  (repeat' (first | refine nI ?_ | (refine nA ?_; intro _) | (refine nW ?_; first | (refine op_call_id ?_; refine op_ro rfl rfl (by exact (c_worldOkN w q ps ss ms (hat.mono (by exact kS)) hn).eq (congrArg B hk)) ?_)) | refine nY ?_ | refine nR ?_ | refine WC_cond rfl (fun hc => ?_) (fun hc => ?_)))
  refine ro_ret (by exact kR) (by exact kL) ?_; rfl
theorem c_sWorldDoF {L : List Ent} (w : World) (e : Event) (q : WSl) (ps : List (Client × CSl)) (ss : List (Serv × (Sl × Sl))) (ms : List (Msg × Sl)) (se : Sl) (hat : WldAt L w q ps ss ms) (hn : NOk w) (hk : worldOk w = false) :
    RO Tryz.prog 8 [worldV w q, eventV e se] L (worldV World.zero WSl.nil) := by
  refine Tri.of Tryz.func8 rfl rfl Tryz.ntmps8 rfl rfl ?_
  (repeat' (first | refine nI ?_ | (refine nA ?_; intro _) | (refine nW ?_; first | (refine op_call_id ?_; refine op_ro rfl rfl (by exact (c_sWorldOkN w q ps ss ms (hat.mono (by exact kS)) hn).eq (congrArg B hk)) ?_)) | refine nY ?_ | refine WA_alt ?_ ?_ | refine nR ?_ | refine WC_drawL (id := 3) (ops := o8x3N7) r8x3N7 (by kernel_rfl) rfl ?_ | refine WC_cond rfl (fun hc => ?_) (fun hc => ?_)))
  refine ro_ret (by exact kR) (by exact kL) ?_; rfl
end Go.Proofs.YtoledfhjmdpihaaGreat
