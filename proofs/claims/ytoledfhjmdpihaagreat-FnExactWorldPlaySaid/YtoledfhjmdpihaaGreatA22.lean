/- Users, worlds: whether they are ok, as the reference tells, whatever they are. -/
import Derived.Test.YtoledfhjmdpihaaGreatA15
import Derived.Test.YtoledfhjmdpihaaGreatA21
set_option linter.unusedVariables false
set_option linter.unusedSectionVars false
set_option linter.unusedSimpArgs false
namespace Go.Proofs.YtoledfhjmdpihaaGreat
open Go Go.Proofs Go.Proofs.YtoledfhjmdpihaaGreat.VE
attribute [local irreducible] Val Op1 WO WR WA WC seqQ blockQ loopQ retQ
noncomputable def o125x4U2 : Array Oper := cops (cl (cl (cl (cr (cl (cl (cr (cl (cr (codeOf Tryz.f125))))))))))
noncomputable def o66x18U2 : Array Oper := cops (cl (cl (cl (cr (cl (cl (cr (cl (cr (cr (cr (cr (codeOf Tryz.f66)))))))))))))
noncomputable def o66x23U2 : Array Oper := cops (cl (cl (cl (cr (cl (cl (cr (cl (cr (cr (cr (cr (cr (codeOf Tryz.f66))))))))))))))
noncomputable def o66x7U2 : Array Oper := cops (cl (cr (cl (cl (cr (cl (cl (cr (cl (cr (cr (codeOf Tryz.f66))))))))))))
noncomputable def r125x4U2 : Run := (.st 0 0 (.st 1 0 (.st 2 0 (.st 3 0 (.st 4 1 (.st 5 0 (.st 6 0 (.st 7 0 (.st 8 0 (.st 9 0 (.st 10 1 (.st 11 3 (.st 12 0 (.st 13 0 (.st 14 0 (.st 15 0 (.st 16 0 (.st 17 0 (.st 18 0 (.st 19 0 (.st 20 0 (.st 21 1 (.st 22 3 (.st 23 0 .done))))))))))))))))))))))))
noncomputable def r66x18U2 : Run := (.st 0 0 (.st 1 1 (.st 2 0 (.st 3 0 (.st 4 1 (.st 5 0 (.st 6 1 (.st 7 3 (.st 8 0 (.st 9 0 (.st 10 0 (.st 11 0 (.st 12 0 (.st 13 0 (.st 14 1 (.st 15 0 (.st 16 0 (.st 17 0 (.st 18 0 (.st 19 1 (.st 20 0 (.st 21 1 (.st 22 0 (.st 23 0 (.st 24 0 (.st 25 1 (.st 26 0 (.st 27 0 (.st 28 0 .done)))))))))))))))))))))))))))))
noncomputable def r66x23U2 : Run := (.st 0 0 (.st 1 1 (.st 2 0 (.st 3 1 (.st 4 0 (.st 5 0 (.st 6 1 (.st 7 3 (.st 8 0 (.st 9 0 (.st 10 0 (.st 11 1 (.st 12 0 (.st 13 0 (.st 14 0 (.st 15 1 (.st 16 0 (.st 17 0 (.st 18 1 (.st 19 3 (.st 20 0 .done)))))))))))))))))))))
noncomputable def r66x7U2 : Run := (.st 0 0 (.st 1 1 (.st 2 3 (.st 3 0 (.st 4 0 (.st 5 0 (.st 6 1 (.st 7 0 (.st 8 1 (.st 9 3 (.st 10 0 (.st 11 0 (.st 12 0 (.st 13 0 (.st 14 0 (.st 15 0 (.st 16 0 (.st 17 1 (.st 18 0 (.st 19 0 (.st 20 0 (.st 21 0 (.st 22 1 (.st 23 0 (.st 24 1 (.st 25 0 (.st 26 0 (.st 27 0 .done))))))))))))))))))))))))))))
set_option maxHeartbeats 8000000
theorem c_l13Took {L : List Ent} (x : Call) : RO Tryz.prog 132 [callV x] L (B (tookOk x)) := by
  cases g1 : userOk x.peer with
  | false =>
    refine Tri.of Tryz.func132 rfl rfl Tryz.ntmps132 rfl rfl ?_
    (repeat' (first | refine nI ?_ | (refine nA ?_; intro _) | (refine nW ?_; first | (refine op_call_id ?_; refine op_ro rfl rfl (by exact (c_l1User _).eq (congrArg B g1)) ?_)) | refine nY ?_ | refine nR ?_ | refine WC_cond rfl (fun hc => ?_) (fun hc => ?_)))
    refine ro_ret (by exact kR) (by exact kL) ?_; simp [packR, tookOk, g1]
  | true =>
  cases g2 : madeOk x.key with
  | false =>
    refine Tri.of Tryz.func132 rfl rfl Tryz.ntmps132 rfl rfl ?_
    (repeat' (first | refine nI ?_ | (refine nA ?_; intro _) | (refine nW ?_; first | (refine op_call_id ?_; refine op_ro rfl rfl (by first | exact (c_l1User _).eq (congrArg B g1) | exact (c_l1Session _).eq (congrArg B g2)) ?_)) | refine nY ?_ | refine nR ?_ | refine WC_cond rfl (fun hc => ?_) (fun hc => ?_)))
    refine ro_ret (by exact kR) (by exact kL) ?_; simp [packR, tookOk, g2]
  | true =>
  cases g3 : timeOk x.time with
  | false =>
    refine Tri.of Tryz.func132 rfl rfl Tryz.ntmps132 rfl rfl ?_
    (repeat' (first | refine nI ?_ | (refine nA ?_; intro _) | (refine nW ?_; first | (refine op_call_id ?_; refine op_ro rfl rfl (by first | exact (c_l1User _).eq (congrArg B g1) | exact (c_l1Session _).eq (congrArg B g2) | exact (c_l1Time _).eq (congrArg B g3)) ?_)) | refine nY ?_ | refine nR ?_ | refine WC_cond rfl (fun hc => ?_) (fun hc => ?_)))
    refine ro_ret (by exact kR) (by exact kL) ?_; simp [packR, tookOk, g3]
  | true =>
  cases g4 : numOk x.num with
  | false =>
    refine Tri.of Tryz.func132 rfl rfl Tryz.ntmps132 rfl rfl ?_
    (repeat' (first | refine nI ?_ | (refine nA ?_; intro _) | (refine nW ?_; first | (refine op_call_id ?_; refine op_ro rfl rfl (by first | exact (c_l1User _).eq (congrArg B g1) | exact (c_l1Session _).eq (congrArg B g2) | exact (c_l1Time _).eq (congrArg B g3) | exact (c_l1Num _).eq (congrArg B g4)) ?_)) | refine nY ?_ | refine nR ?_ | refine WC_cond rfl (fun hc => ?_) (fun hc => ?_)))
    refine ro_ret (by exact kR) (by exact kL) ?_; simp [packR, tookOk, g4]
  | true =>
  refine Tri.of Tryz.func132 rfl rfl Tryz.ntmps132 rfl rfl ?_
  (repeat' (first | refine nI ?_ | (refine nA ?_; intro _) | (refine nW ?_; first | (refine op_call_id ?_; refine op_ro rfl rfl (by first | exact (c_l1User _).eq (congrArg B g1) | exact (c_l1Session _).eq (congrArg B g2) | exact (c_l1Time _).eq (congrArg B g3) | exact (c_l1Num _).eq (congrArg B g4)) ?_)) | refine nY ?_ | refine nR ?_ | refine WC_cond rfl (fun hc => ?_) (fun hc => ?_)))
  refine ro_ret (by exact kR) (by exact kL) ?_; simp [packR, tookOk, g1, g2, g3, g4]
theorem c_l12Call {L : List Ent} (x : Call) (num : Int) : RO Tryz.prog 130 [callV x, I num] L (B (callOk x && within x.num 1 num)) := by
  cases g1 : servOk x.peer with
  | false =>
    refine Tri.of Tryz.func130 rfl rfl Tryz.ntmps130 rfl rfl ?_
    (repeat' (first | refine nI ?_ | (refine nA ?_; intro _) | (refine nW ?_; first | (refine op_call_id ?_; refine op_ro rfl rfl (by exact (c_l1Serv _).eq (congrArg B g1)) ?_)) | refine nY ?_ | refine nR ?_ | refine WC_cond rfl (fun hc => ?_) (fun hc => ?_)))
    refine ro_ret (by exact kR) (by exact kL) ?_; simp [packR, callOk, g1]
  | true =>
  cases g2 : madeOk x.key with
  | false =>
    refine Tri.of Tryz.func130 rfl rfl Tryz.ntmps130 rfl rfl ?_
    (repeat' (first | refine nI ?_ | (refine nA ?_; intro _) | (refine nW ?_; first | (refine op_call_id ?_; refine op_ro rfl rfl (by first | exact (c_l1Serv _).eq (congrArg B g1) | exact (c_l1Session _).eq (congrArg B g2)) ?_)) | refine nY ?_ | refine nR ?_ | refine WC_cond rfl (fun hc => ?_) (fun hc => ?_)))
    refine ro_ret (by exact kR) (by exact kL) ?_; simp [packR, callOk, g2]
  | true =>
  cases g3 : timeOk x.time with
  | false =>
    refine Tri.of Tryz.func130 rfl rfl Tryz.ntmps130 rfl rfl ?_
    (repeat' (first | refine nI ?_ | (refine nA ?_; intro _) | (refine nW ?_; first | (refine op_call_id ?_; refine op_ro rfl rfl (by first | exact (c_l1Serv _).eq (congrArg B g1) | exact (c_l1Session _).eq (congrArg B g2) | exact (c_l1Time _).eq (congrArg B g3)) ?_)) | refine nY ?_ | refine nR ?_ | refine WC_cond rfl (fun hc => ?_) (fun hc => ?_)))
    refine ro_ret (by exact kR) (by exact kL) ?_; simp [packR, callOk, g3]
  | true =>
  cases g4 : within x.num 1 num with
  | false =>
    refine Tri.of Tryz.func130 rfl rfl Tryz.ntmps130 rfl rfl ?_
    (repeat' (first | refine nI ?_ | (refine nA ?_; intro _) | (refine nW ?_; first | (refine op_call_id ?_; refine op_ro rfl rfl (by first | exact (c_l1Serv _).eq (congrArg B g1) | exact (c_l1Session _).eq (congrArg B g2) | exact (c_l1Time _).eq (congrArg B g3) | exact (c_l6In _ _ _).eq (congrArg B g4)) ?_)) | refine nY ?_ | refine nR ?_ | refine WC_cond rfl (fun hc => ?_) (fun hc => ?_)))
    refine ro_ret (by exact kR) (by exact kL) ?_; simp [packR, callOk, g4]
  | true =>
  refine Tri.of Tryz.func130 rfl rfl Tryz.ntmps130 rfl rfl ?_
  (repeat' (first | refine nI ?_ | (refine nA ?_; intro _) | (refine nW ?_; first | (refine op_call_id ?_; refine op_ro rfl rfl (by first | exact (c_l1Serv _).eq (congrArg B g1) | exact (c_l1Session _).eq (congrArg B g2) | exact (c_l1Time _).eq (congrArg B g3) | exact (c_l6In _ _ _).eq (congrArg B g4)) ?_)) | refine nY ?_ | refine nR ?_ | refine WC_cond rfl (fun hc => ?_) (fun hc => ?_)))
  refine ro_ret (by exact kR) (by exact kL) ?_; simp [packR, callOk, g1, g2, g3, g4]
theorem cache_stop {xs : List Seal} {k : Nat} {y : Seal} (hy : xs[k]? = some y) (h : authOk y = false ∨ y ∈ xs.take k) : cacheOk xs = false := by
  rcases h with h | h
  · have : xs.all authOk = false := List.all_eq_false.2 ⟨y, List.mem_of_getElem? hy, by simp [h]⟩
    simp [cacheOk, this]
  · have : ¬ xs.Nodup := fun hn => nodup_take hn hy h
    simp [cacheOk, this]
theorem cache_step {xs : List Seal} {k : Nat} {y : Seal} (hy : xs[k]? = some y) (h1 : authOk y = true) (h2 : y ∉ xs.take k) (hin : (∀ z ∈ xs.take k, authOk z = true) ∧ (xs.take k).Nodup) : (∀ z ∈ xs.take (k + 1), authOk z = true) ∧ (xs.take (k + 1)).Nodup := by
  rw [take_next hy]
  refine ⟨all_next hin.1 h1, ?_⟩
  rw [List.nodup_append]
  exact ⟨hin.2, by simp, fun a ha b hb e => h2 (by rw [List.mem_singleton.1 hb] at e; exact e ▸ ha)⟩
theorem c_l11Cache {L : List Ent} (s : Sl) (xs : List Seal) (h : SliceAt L encSeal s xs) : RO Tryz.prog 125 [s.v] L (B (cacheOk xs)) := by
  obtain ⟨a, n, c⟩ := s
  have h0 := h
  obtain ⟨hn, hc, hb, hat⟩ := h
  dsimp only at hn hat hc
  subst hn
  simp only [big] at hb
  refine Tri.of Tryz.func125 rfl rfl Tryz.ntmps125 rfl rfl ?_
  (repeat' (first | refine nI ?_ | (refine nA ?_; intro _) | refine nY ?_ | refine WA_alt ?_ ?_ | refine nR ?_ | refine WC_drawL (id := 4) (ops := o125x4U2) r125x4U2 (by kernel_rfl) rfl ?_ | refine WC_cond rfl (fun hc => ?_) (fun hc => ?_)))
  refine WC_loop (fun mz Ez Mz => ∃ k : Nat, k + mz = (xs).length ∧ Ez = [(0, .slice a xs.length c), (3, I k)] ∧ Mz = L ∧ ((∀ z ∈ xs.take k, authOk z = true) ∧ (xs.take k).Nodup)) (xs).length (by exact kQ) (by exact kL) ⟨0, by omega, rfl, rfl, by simp⟩ ?_
  rintro mz Ez Mz ⟨k, hk, rfl, rfl, hin⟩
  rcases Nat.lt_or_ge k (xs).length with hlt | hge
  · have hcut := h0.take (k := k) (by omega)
    obtain ⟨y2, hy2⟩ : ∃ y, (xs)[k]? = some y := ⟨(xs)[k]'(by omega), by simp [hlt]⟩; obtain ⟨b'2, o2, cs2, T2, fr2, rfl, hm2, hrow2⟩ := hat (by omega); have hrow'2 := hrow2 k y2 hy2; have htk2 := take_next hy2
    by_cases h1 : y2.kind = 3
    rotate_left
    · have he : cacheOk xs = false := cache_stop hy2 (.inl (by simp [authOk, h1]))
      (repeat' (first | refine nI ?_ | (refine nA ?_; intro _) | refine nY ?_ | refine WA_alt ?_ ?_ | refine nR ?_ | refine WC_drawL (id := 4) (ops := o125x4U2) r125x4U2 (by kernel_rfl) rfl ?_ | refine WC_cond rfl (fun hc => ?_) (fun hc => ?_)))
      refine ro_ret (by exact kR) (by exact kL) ?_; rw [he]; rfl
    cases g2 : sealOk y2 with
    | false =>
      have he : cacheOk xs = false := cache_stop hy2 (.inl (by simp [authOk, g2]))
      (repeat' (first | refine nI ?_ | (refine nA ?_; intro _) | (refine nW ?_; first | (refine op_call_id ?_; refine op_ro rfl rfl (by exact (c_sSealOk y2).eq (congrArg B g2)) ?_)) | refine nY ?_ | refine WA_alt ?_ ?_ | refine nR ?_ | refine WC_drawL (id := 4) (ops := o125x4U2) r125x4U2 (by kernel_rfl) rfl ?_ | refine WC_cond rfl (fun hc => ?_) (fun hc => ?_)))
      refine ro_ret (by exact kR) (by exact kL) ?_; rw [he]; rfl
    | true =>
    cases g3 : decide (y2 ∈ xs.take k) with
    | true =>
      have he : cacheOk xs = false := cache_stop hy2 (.inr (of_decide_eq_true g3))
      (repeat' (first | refine nI ?_ | (refine nA ?_; intro _) | (refine nW ?_; first | (refine op_call_id ?_; refine op_ro rfl rfl (by first | exact (c_sSealOk y2).eq (congrArg B g2) | exact (c_spec.l3Among ⟨_, _, _⟩ (xs.take k) y2 (hcut.mono (by exact kS))).eq (congrArg B g3)) ?_)) | refine nY ?_ | refine WA_alt ?_ ?_ | refine nR ?_ | refine WC_drawL (id := 4) (ops := o125x4U2) r125x4U2 (by kernel_rfl) rfl ?_ | refine WC_cond rfl (fun hc => ?_) (fun hc => ?_)))
      refine ro_ret (by exact kR) (by exact kL) ?_; rw [he]; rfl
    | false =>
    (repeat' (first | refine nI ?_ | (refine nA ?_; intro _) | (refine nW ?_; first | (refine op_call_id ?_; refine op_ro rfl rfl (by first | exact (c_sSealOk y2).eq (congrArg B g2) | exact (c_spec.l3Among ⟨_, _, _⟩ (xs.take k) y2 (hcut.mono (by exact kS))).eq (congrArg B g3)) ?_)) | refine nY ?_ | refine WA_alt ?_ ?_ | refine nR ?_ | refine WC_drawL (id := 4) (ops := o125x4U2) r125x4U2 (by kernel_rfl) rfl ?_ | refine WC_cond rfl (fun hc => ?_) (fun hc => ?_)))
    exact loopQ_next ⟨mz - 1, _, _, by omega, by exact kQ, by exact kL, k + 1, by omega, rfl, rfl, by exact cache_step hy2 (by simp [authOk, h1, g2]) (of_decide_eq_false g3) hin⟩
  rw [List.take_of_length_le (by omega)] at hin
  have e1 : xs.all authOk = true := List.all_eq_true.2 hin.1
  by_cases h20 : xs.length ≤ 20
  · (repeat' (first | refine nI ?_ | (refine nA ?_; intro _) | refine nY ?_ | refine WA_alt ?_ ?_ | refine nR ?_ | refine WC_drawL (id := 4) (ops := o125x4U2) r125x4U2 (by kernel_rfl) rfl ?_ | refine WC_cond rfl (fun hc => ?_) (fun hc => ?_)))
    refine ro_ret (by exact kR) (by exact kL) ?_; simp [packR, cacheOk, e1, hin.2, h20]
  · (repeat' (first | refine nI ?_ | (refine nA ?_; intro _) | refine nY ?_ | refine WA_alt ?_ ?_ | refine nR ?_ | refine WC_drawL (id := 4) (ops := o125x4U2) r125x4U2 (by kernel_rfl) rfl ?_ | refine WC_cond rfl (fun hc => ?_) (fun hc => ?_)))
    refine ro_ret (by exact kR) (by exact kL) ?_; simp [packR, cacheOk, e1, hin.2, h20]
theorem c_sKdcOk {L : List Ent} (k : Kdc) (c : Sl) (h1 : SliceAt L encSeal c k.cache) : RO Tryz.prog 64 [.agg [I k.next, c.v].toArray] L (B (kdcOk k)) := by
  cases g1 : within k.next 10 61 with
  | false =>
    refine Tri.of Tryz.func64 rfl rfl Tryz.ntmps64 rfl rfl ?_
    (repeat' (first | refine nI ?_ | (refine nA ?_; intro _) | (refine nW ?_; first | (refine op_call_id ?_; refine op_ro rfl rfl (by exact (c_l6In _ _ _).eq (congrArg B g1)) ?_)) | refine nY ?_ | refine nR ?_ | refine WC_cond rfl (fun hc => ?_) (fun hc => ?_)))
    refine ro_ret (by exact kR) (by exact kL) ?_; simp [packR, kdcOk, g1]
  | true =>
  cases g2 : cacheOk k.cache with
  | false =>
    refine Tri.of Tryz.func64 rfl rfl Tryz.ntmps64 rfl rfl ?_
    (repeat' (first | refine nI ?_ | (refine nA ?_; intro _) | (refine nW ?_; first | (refine op_call_id ?_; refine op_ro rfl rfl (by first | exact (c_l6In _ _ _).eq (congrArg B g1) | exact (c_l11Cache c k.cache (h1.mono (by exact kS))).eq (congrArg B g2)) ?_)) | refine nY ?_ | refine nR ?_ | refine WC_cond rfl (fun hc => ?_) (fun hc => ?_)))
    refine ro_ret (by exact kR) (by exact kL) ?_; simp [packR, kdcOk, g2]
  | true =>
  refine Tri.of Tryz.func64 rfl rfl Tryz.ntmps64 rfl rfl ?_
  (repeat' (first | refine nI ?_ | (refine nA ?_; intro _) | (refine nW ?_; first | (refine op_call_id ?_; refine op_ro rfl rfl (by first | exact (c_l6In _ _ _).eq (congrArg B g1) | exact (c_l11Cache c k.cache (h1.mono (by exact kS))).eq (congrArg B g2)) ?_)) | refine nY ?_ | refine nR ?_ | refine WC_cond rfl (fun hc => ?_) (fun hc => ?_)))
  refine ro_ret (by exact kR) (by exact kL) ?_; simp [packR, kdcOk, g1, g2]
theorem c_sServOk {L : List Ent} (s : Serv) (c t : Sl) (h1 : SliceAt L encSeal c s.cache) (h2 : SliceAt L encCall t s.took) : RO Tryz.prog 67 [servV s c t] L (B (servOk' s)) := by
  obtain ⟨a, n, cp⟩ := t
  obtain ⟨hn, hc, hb, hat⟩ := h2
  dsimp only at hn hat hc
  subst hn
  simp only [big] at hb
  cases g1 : servOk s.id with
  | false =>
    refine Tri.of Tryz.func67 rfl rfl Tryz.ntmps67 rfl rfl ?_
    (repeat' (first | refine nI ?_ | (refine nA ?_; intro _) | (refine nW ?_; first | (refine op_call_id ?_; refine op_ro rfl rfl (by exact (c_l1Serv _).eq (congrArg B g1)) ?_)) | refine nY ?_ | refine nR ?_ | refine WC_cond rfl (fun hc => ?_) (fun hc => ?_)))
    refine ro_ret (by exact kR) (by exact kL) ?_; simp [packR, servOk', g1]
  | true =>
  cases g2 : within s.since (-1) 100 with
  | false =>
    refine Tri.of Tryz.func67 rfl rfl Tryz.ntmps67 rfl rfl ?_
    (repeat' (first | refine nI ?_ | (refine nA ?_; intro _) | (refine nW ?_; first | (refine op_call_id ?_; refine op_ro rfl rfl (by first | exact (c_l1Serv _).eq (congrArg B g1) | exact (c_l6In _ _ _).eq (congrArg B g2)) ?_)) | refine nY ?_ | refine nR ?_ | refine WC_cond rfl (fun hc => ?_) (fun hc => ?_)))
    refine ro_ret (by exact kR) (by exact kL) ?_; simp [packR, servOk', g2]
  | true =>
  cases g3 : cacheOk s.cache with
  | false =>
    refine Tri.of Tryz.func67 rfl rfl Tryz.ntmps67 rfl rfl ?_
    (repeat' (first | refine nI ?_ | (refine nA ?_; intro _) | (refine nW ?_; first | (refine op_call_id ?_; refine op_ro rfl rfl (by first | exact (c_l1Serv _).eq (congrArg B g1) | exact (c_l6In _ _ _).eq (congrArg B g2) | exact (c_l11Cache c s.cache (h1.mono (by exact kS))).eq (congrArg B g3)) ?_)) | refine nY ?_ | refine nR ?_ | refine WC_cond rfl (fun hc => ?_) (fun hc => ?_)))
    refine ro_ret (by exact kR) (by exact kL) ?_; simp [packR, servOk', g3]
  | true =>
  refine Tri.of Tryz.func67 rfl rfl Tryz.ntmps67 rfl rfl ?_
  (repeat' (first | refine nI ?_ | (refine nA ?_; intro _) | (refine nW ?_; first | (refine op_call_id ?_; refine op_ro rfl rfl (by first | exact (c_l1Serv _).eq (congrArg B g1) | exact (c_l6In _ _ _).eq (congrArg B g2) | exact (c_l11Cache c s.cache (h1.mono (by exact kS))).eq (congrArg B g3)) ?_)) | refine nY ?_ | refine nR ?_ | refine WC_cond rfl (fun hc => ?_) (fun hc => ?_)))
  rename_i bx
  refine WC_loop (fun mz Ez Mz => ∃ k : Nat, k + mz = (s.took).length ∧ Ez = [(1, .pointer (some ⟨bx, 0, none⟩)), (3, I k)] ∧ Mz = (bx, cellsO (servC s c ⟨a, s.took.length, cp⟩) 115) :: L ∧ (∀ z ∈ s.took.take k, tookOk z = true)) (s.took).length (by exact kQ) (by exact kL) ⟨0, by omega, rfl, rfl, by simp⟩ ?_
  rintro mz Ez Mz ⟨k, hk, rfl, rfl, hin⟩
  rcases Nat.lt_or_ge k (s.took).length with hlt | hge
  · obtain ⟨y2, hy2⟩ : ∃ y, (s.took)[k]? = some y := ⟨(s.took)[k]'(by omega), by simp [hlt]⟩; obtain ⟨b'2, o2, cs2, T2, fr2, rfl, hm2, hrow2⟩ := hat (by omega); have hrow'2 := hrow2 k y2 hy2; have htk2 := take_next hy2
    cases g4 : tookOk y2 with
    | false =>
      have e1 : s.took.all tookOk = false := List.all_eq_false.2 ⟨y2, List.mem_of_getElem? hy2, by simp [g4]⟩
      (repeat' (first | refine nI ?_ | (refine nA ?_; intro _) | (refine nW ?_; first | (refine op_call_id ?_; refine op_ro rfl rfl (by exact (c_l13Took y2).eq (congrArg B g4)) ?_)) | refine nY ?_ | refine nR ?_ | refine WC_cond rfl (fun hc => ?_) (fun hc => ?_)))
      refine ro_ret (by exact kR) (by exact kL) ?_; simp only [packR, servOk', e1, Bool.and_false]
    | true =>
    (repeat' (first | refine nI ?_ | (refine nA ?_; intro _) | (refine nW ?_; first | (refine op_call_id ?_; refine op_ro rfl rfl (by exact (c_l13Took y2).eq (congrArg B g4)) ?_)) | refine nY ?_ | refine nR ?_ | refine WC_cond rfl (fun hc => ?_) (fun hc => ?_)))
    exact loopQ_next ⟨mz - 1, _, _, by omega, by exact kQ, by exact kL, k + 1, by omega, rfl, rfl, by rw [htk2]; exact all_next hin g4⟩
  rw [List.take_of_length_le (by omega)] at hin
  have e1 : s.took.all tookOk = true := List.all_eq_true.2 hin
  (repeat' (first | refine nI ?_ | (refine nA ?_; intro _) | refine nY ?_ | refine nR ?_ | refine WC_cond rfl (fun hc => ?_) (fun hc => ?_)))
  refine ro_ret (by exact kR) (by exact kL) ?_; simp only [packR, servOk', e1, g1, g2, g3, Bool.and_self]
theorem c_sClientOk {L : List Ent} (cl : Client) (s : CSl) (h : CliAt L (cl, s)) : RO Tryz.prog 66 [clientV cl s] L (B (clientOk cl)) := by
  obtain ⟨⟨aw, nw, cw⟩, ⟨ac, nc, cc⟩, ⟨as_, ns, cs⟩, ⟨am, nm, cm⟩⟩ := s
  have hw : SliceAt L encWant ⟨aw, nw, cw⟩ cl.wants := h.w
  have hc : SliceAt L encCred ⟨ac, nc, cc⟩ cl.creds := h.c
  have hs : SliceAt L encCall ⟨as_, ns, cs⟩ cl.sent := h.s
  have hm : SliceAt L encCall ⟨am, nm, cm⟩ cl.met := h.m
  clear h
  obtain ⟨hnw, hcw, hbw, hatw⟩ := id hw
  obtain ⟨hnc, hcc, hbc, hatc⟩ := id hc
  obtain ⟨hns, hcs, hbs, hats⟩ := id hs
  obtain ⟨hnm, hcm, hbm, hatm⟩ := id hm
  dsimp only at hnw hnc hns hnm hcw hcc hcs hcm hatw hatc hats hatm
  subst hnw hnc hns hnm
  simp only [big] at hbw hbc hbs hbm
  cases hu : userOk cl.id with
  | false =>
    refine Tri.of Tryz.func66 rfl rfl Tryz.ntmps66 rfl rfl ?_
    (repeat' (first | refine nI ?_ | (refine nA ?_; intro _) | (refine nW ?_; first | (refine op_call_id ?_; refine op_ro rfl rfl (by exact (c_l1User _).eq (congrArg B hu)) ?_)) | refine nY ?_ | refine WA_alt ?_ ?_ | refine nR ?_ | refine WC_drawL (id := 7) (ops := o66x7U2) r66x7U2 (by kernel_rfl) rfl ?_ | refine WC_drawL (id := 18) (ops := o66x18U2) r66x18U2 (by kernel_rfl) rfl ?_ | refine WC_drawL (id := 23) (ops := o66x23U2) r66x23U2 (by kernel_rfl) rfl ?_ | refine WC_cond rfl (fun hc => ?_) (fun hc => ?_)))
    refine ro_ret (by exact kR) (by exact kL) ?_; simp [packR, clientOk, hu]
  | true =>
  cases hn : within cl.num 0 60 with
  | false =>
    refine Tri.of Tryz.func66 rfl rfl Tryz.ntmps66 rfl rfl ?_
    (repeat' (first | refine nI ?_ | (refine nA ?_; intro _) | (refine nW ?_; first | (refine op_call_id ?_; refine op_ro rfl rfl (by first | exact (c_l1User _).eq (congrArg B hu) | exact (c_l6In _ _ _).eq (congrArg B hn)) ?_)) | refine nY ?_ | refine WA_alt ?_ ?_ | refine nR ?_ | refine WC_drawL (id := 7) (ops := o66x7U2) r66x7U2 (by kernel_rfl) rfl ?_ | refine WC_drawL (id := 18) (ops := o66x18U2) r66x18U2 (by kernel_rfl) rfl ?_ | refine WC_drawL (id := 23) (ops := o66x23U2) r66x23U2 (by kernel_rfl) rfl ?_ | refine WC_cond rfl (fun hc => ?_) (fun hc => ?_)))
    refine ro_ret (by exact kR) (by exact kL) ?_; simp [packR, clientOk, hn]
  | true =>
  have hnum := within_iff.1 hn
  refine Tri.of Tryz.func66 rfl rfl Tryz.ntmps66 rfl rfl ?_
  (repeat' (first | refine nI ?_ | (refine nA ?_; intro _) | (refine nW ?_; first | (refine op_call_id ?_; refine op_ro rfl rfl (by first | exact (c_l1User _).eq (congrArg B hu) | exact (c_l6In _ _ _).eq (congrArg B hn)) ?_)) | refine nY ?_ | refine WA_alt ?_ ?_ | refine nR ?_ | refine WC_drawL (id := 7) (ops := o66x7U2) r66x7U2 (by kernel_rfl) rfl ?_ | refine WC_drawL (id := 18) (ops := o66x18U2) r66x18U2 (by kernel_rfl) rfl ?_ | refine WC_drawL (id := 23) (ops := o66x23U2) r66x23U2 (by kernel_rfl) rfl ?_ | refine WC_cond rfl (fun hc => ?_) (fun hc => ?_)))
  rename_i bx
  refine WC_loop (fun mz Ez Mz => ∃ (k : Nat) (last : Int), k + mz = (cl.wants).length ∧ Ez = [(1, .pointer (some ⟨bx, 0, none⟩)), (3, I k)] ∧ Mz = (bx, cellsO (clientC cl ⟨⟨aw, cl.wants.length, cw⟩, ⟨ac, cl.creds.length, cc⟩, ⟨as_, cl.sent.length, cs⟩, ⟨am, cl.met.length, cm⟩⟩) 112) :: L ∧ (wantsOk cl.num 0 cl.wants = wantsOk cl.num last (cl.wants.drop k) ∧ 0 ≤ last ∧ last ≤ 60 ∧ (k = 0 → last = 0) ∧ ∀ y, 0 < k → cl.wants[((k : Int) - 1).toNat]? = some y → y.nonce = last)) (cl.wants).length (by exact kQ) (by exact kL) ⟨0, 0, by omega, rfl, rfl, by exact ⟨by simp, by omega, by omega, fun _ => rfl, fun y h => absurd h (by omega)⟩⟩ ?_
  rintro mz Ez Mz ⟨k, last, hk, rfl, rfl, hin⟩
  rcases Nat.lt_or_ge k (cl.wants).length with hlt | hge
  · obtain ⟨y2, hy2⟩ : ∃ y, (cl.wants)[k]? = some y := ⟨(cl.wants)[k]'(by omega), by simp [hlt]⟩; obtain ⟨b'2, o2, cs2, T2, fr2, rfl, hm2, hrow2⟩ := hatw (by omega); have hrow'2 := hrow2 k y2 hy2; have htk2 := take_next hy2
    obtain ⟨hd, hl0, hl1, hz, hp⟩ := hin
    rw [drop_cons' hy2] at hd
    cases g1 : within y2.serv 4 6 with
    | false =>
      have he : clientOk cl = false := cl_f1 (by rw [hd]; simp [wantsOk, show giverOk y2.serv = false from g1])
      (repeat' (first | refine nI ?_ | (refine nA ?_; intro _) | (refine nW ?_; first | (refine op_call_id ?_; refine op_ro rfl rfl (by exact (c_l6In y2.serv 4 6).eq (congrArg B g1)) ?_)) | refine nY ?_ | refine WA_alt ?_ ?_ | refine nR ?_ | refine WC_drawL (id := 7) (ops := o66x7U2) r66x7U2 (by kernel_rfl) rfl ?_ | refine WC_drawL (id := 18) (ops := o66x18U2) r66x18U2 (by kernel_rfl) rfl ?_ | refine WC_drawL (id := 23) (ops := o66x23U2) r66x23U2 (by kernel_rfl) rfl ?_ | refine WC_cond rfl (fun hc => ?_) (fun hc => ?_)))
      refine ro_ret (by exact kR) (by exact kL) ?_; rw [he]; rfl
    | true =>
    cases g2 : within y2.nonce 1 cl.num with
    | false =>
      have he : clientOk cl = false := cl_f1 (by rw [hd]; simp [wantsOk, show within y2.nonce (last + 1) cl.num = false from within_false.2 (by have := within_false.1 g2; omega)])
      (repeat' (first | refine nI ?_ | (refine nA ?_; intro _) | (refine nW ?_; first | (refine op_call_id ?_; refine op_ro rfl rfl (by first | exact (c_l6In y2.serv 4 6).eq (congrArg B g1) | exact (c_l6In y2.nonce 1 cl.num).eq (congrArg B g2)) ?_)) | refine nY ?_ | refine WA_alt ?_ ?_ | refine nR ?_ | refine WC_drawL (id := 7) (ops := o66x7U2) r66x7U2 (by kernel_rfl) rfl ?_ | refine WC_drawL (id := 18) (ops := o66x18U2) r66x18U2 (by kernel_rfl) rfl ?_ | refine WC_drawL (id := 23) (ops := o66x23U2) r66x23U2 (by kernel_rfl) rfl ?_ | refine WC_cond rfl (fun hc => ?_) (fun hc => ?_)))
      refine ro_ret (by exact kR) (by exact kL) ?_; rw [he]; rfl
    | true =>
    have g3 := within_iff.1 g2
    rcases Nat.eq_zero_or_pos k with hk0 | hkp
    · have hz0 := hz hk0
      have g4 : within y2.nonce (last + 1) cl.num = true := within_iff.2 (by omega)
      (repeat' (first | refine nI ?_ | (refine nA ?_; intro _) | (refine nW ?_; first | (refine op_call_id ?_; refine op_ro rfl rfl (by first | exact (c_l6In y2.serv 4 6).eq (congrArg B g1) | exact (c_l6In y2.nonce 1 cl.num).eq (congrArg B g2)) ?_)) | refine nY ?_ | refine WA_alt ?_ ?_ | refine nR ?_ | refine WC_drawL (id := 7) (ops := o66x7U2) r66x7U2 (by kernel_rfl) rfl ?_ | refine WC_drawL (id := 18) (ops := o66x18U2) r66x18U2 (by kernel_rfl) rfl ?_ | refine WC_drawL (id := 23) (ops := o66x23U2) r66x23U2 (by kernel_rfl) rfl ?_ | refine WC_cond rfl (fun hc => ?_) (fun hc => ?_)))
      exact loopQ_next ⟨mz - 1, _, _, by omega, by exact kQ, by exact kL, k + 1, y2.nonce, by omega, rfl, rfl, by exact ⟨by rw [hd]; simp [wantsOk, show giverOk y2.serv = true from g1, g4], by omega, by omega, fun h => absurd h (by omega), fun y h1 h2 => by rw [show (((k + 1 : Nat) : Int) - 1).toNat = k by omega, hy2] at h2; cases h2; rfl⟩⟩
    · obtain ⟨yp, hyp⟩ : ∃ y, cl.wants[((k : Int) - 1).toNat]? = some y := ⟨_, List.getElem?_eq_getElem (by omega)⟩
      have hrowp := hrow2 _ yp hyp
      have hpv := hp yp hkp hyp
      by_cases hlt2 : yp.nonce < y2.nonce
      · have g4 : within y2.nonce (last + 1) cl.num = true := within_iff.2 (by omega)
        (repeat' (first | refine nI ?_ | (refine nA ?_; intro _) | (refine nW ?_; first | (refine op_call_id ?_; refine op_ro rfl rfl (by first | exact (c_l6In y2.serv 4 6).eq (congrArg B g1) | exact (c_l6In y2.nonce 1 cl.num).eq (congrArg B g2)) ?_)) | refine nY ?_ | refine WA_alt ?_ ?_ | refine nR ?_ | refine WC_drawL (id := 7) (ops := o66x7U2) r66x7U2 (by kernel_rfl) rfl ?_ | refine WC_drawL (id := 18) (ops := o66x18U2) r66x18U2 (by kernel_rfl) rfl ?_ | refine WC_drawL (id := 23) (ops := o66x23U2) r66x23U2 (by kernel_rfl) rfl ?_ | refine WC_cond rfl (fun hc => ?_) (fun hc => ?_)))
        exact loopQ_next ⟨mz - 1, _, _, by omega, by exact kQ, by exact kL, k + 1, y2.nonce, by omega, rfl, rfl, by exact ⟨by rw [hd]; simp [wantsOk, show giverOk y2.serv = true from g1, g4], by omega, by omega, fun h => absurd h (by omega), fun y h1 h2 => by rw [show (((k + 1 : Nat) : Int) - 1).toNat = k by omega, hy2] at h2; cases h2; rfl⟩⟩
      · have he : clientOk cl = false := cl_f1 (by rw [hd]; simp [wantsOk, show within y2.nonce (last + 1) cl.num = false from within_false.2 (by omega)])
        (repeat' (first | refine nI ?_ | (refine nA ?_; intro _) | (refine nW ?_; first | (refine op_call_id ?_; refine op_ro rfl rfl (by first | exact (c_l6In y2.serv 4 6).eq (congrArg B g1) | exact (c_l6In y2.nonce 1 cl.num).eq (congrArg B g2)) ?_)) | refine nY ?_ | refine WA_alt ?_ ?_ | refine nR ?_ | refine WC_drawL (id := 7) (ops := o66x7U2) r66x7U2 (by kernel_rfl) rfl ?_ | refine WC_drawL (id := 18) (ops := o66x18U2) r66x18U2 (by kernel_rfl) rfl ?_ | refine WC_drawL (id := 23) (ops := o66x23U2) r66x23U2 (by kernel_rfl) rfl ?_ | refine WC_cond rfl (fun hc => ?_) (fun hc => ?_)))
        refine ro_ret (by exact kR) (by exact kL) ?_; rw [he]; rfl
  have hwok : wantsOk cl.num 0 cl.wants = true := by rw [hin.1, List.drop_of_length_le (by omega)]; rfl
  (repeat' (first | refine nI ?_ | (refine nA ?_; intro _) | refine nY ?_ | refine WA_alt ?_ ?_ | refine nR ?_ | refine WC_drawL (id := 7) (ops := o66x7U2) r66x7U2 (by kernel_rfl) rfl ?_ | refine WC_drawL (id := 18) (ops := o66x18U2) r66x18U2 (by kernel_rfl) rfl ?_ | refine WC_drawL (id := 23) (ops := o66x23U2) r66x23U2 (by kernel_rfl) rfl ?_ | refine WC_cond rfl (fun hc => ?_) (fun hc => ?_)))
  clear hk hge hin
  refine WC_loop (fun mz Ez Mz => ∃ k : Nat, k + mz = (cl.creds).length ∧ Ez = [(1, .pointer (some ⟨bx, 0, none⟩)), (5, I k)] ∧ Mz = (bx, cellsO (clientC cl ⟨⟨aw, cl.wants.length, cw⟩, ⟨ac, cl.creds.length, cc⟩, ⟨as_, cl.sent.length, cs⟩, ⟨am, cl.met.length, cm⟩⟩) 112) :: L ∧ ((∀ z ∈ cl.creds.take k, credOk z = true) ∧ ((cl.creds.take k).map Cred.serv).Nodup)) (cl.creds).length (by exact kQ) (by exact kL) ⟨0, by omega, rfl, rfl, by simp⟩ ?_
  rintro mz Ez Mz ⟨k, hk, rfl, rfl, hin⟩
  rcases Nat.lt_or_ge k (cl.creds).length with hlt | hge
  · obtain ⟨y3, hy3⟩ : ∃ y, (cl.creds)[k]? = some y := ⟨(cl.creds)[k]'(by omega), by simp [hlt]⟩; obtain ⟨b'3, o3, cs3, T3, fr3, rfl, hm3, hrow3⟩ := hatc (by omega); have hrow'3 := hrow3 k y3 hy3; have htk3 := take_next hy3
    obtain ⟨ci, hx⟩ : ∃ ci, credIdx cl y3.serv = ci := ⟨_, rfl⟩
    cases g1 : within y3.serv 4 6 with
    | false =>
      have he : clientOk cl = false := cl_f2 (creds_stop hy3 (.inl (by simp [credOk, show giverOk y3.serv = false from g1])))
      (repeat' (first | refine nI ?_ | (refine nA ?_; intro _) | (refine nW ?_; first | (refine op_call_id ?_; refine op_ro rfl rfl (by exact (c_l6In y3.serv 4 6).eq (congrArg B g1)) ?_)) | refine nY ?_ | refine WA_alt ?_ ?_ | refine nR ?_ | refine WC_drawL (id := 7) (ops := o66x7U2) r66x7U2 (by kernel_rfl) rfl ?_ | refine WC_drawL (id := 18) (ops := o66x18U2) r66x18U2 (by kernel_rfl) rfl ?_ | refine WC_drawL (id := 23) (ops := o66x23U2) r66x23U2 (by kernel_rfl) rfl ?_ | refine WC_cond rfl (fun hc => ?_) (fun hc => ?_)))
      refine ro_ret (by exact kR) (by exact kL) ?_; rw [he]; rfl
    | true =>
    by_cases hci : ci = (k : Int)
    rotate_left
    · have hdup : y3.serv ∈ (cl.creds.take k).map Cred.serv := Classical.byContradiction fun h => hci (by rw [← hx]; exact (credIdx_at hy3).2 h)
      have he : clientOk cl = false := cl_f2 (creds_stop hy3 (.inr hdup))
      (repeat' (first | refine nI ?_ | (refine nA ?_; intro _) | (refine nW ?_; first | (refine op_call_id ?_; refine op_ro rfl rfl (by first | exact (c_l6In y3.serv 4 6).eq (congrArg B g1) | exact (c_l12Cred cl ⟨⟨aw, cl.wants.length, cw⟩, ⟨some ⟨b'3, o3, none⟩, cl.creds.length, cc⟩, ⟨as_, cl.sent.length, cs⟩, ⟨am, cl.met.length, cm⟩⟩ y3.serv (hc.mono (by exact kS))).eq (congrArg I hx)) ?_)) | refine nY ?_ | refine WA_alt ?_ ?_ | refine nR ?_ | refine WC_drawL (id := 7) (ops := o66x7U2) r66x7U2 (by kernel_rfl) rfl ?_ | refine WC_drawL (id := 18) (ops := o66x18U2) r66x18U2 (by kernel_rfl) rfl ?_ | refine WC_drawL (id := 23) (ops := o66x23U2) r66x23U2 (by kernel_rfl) rfl ?_ | refine WC_cond rfl (fun hc => ?_) (fun hc => ?_)))
      refine ro_ret (by exact kR) (by exact kL) ?_; rw [he]; rfl
    have hno := (credIdx_at hy3).1 (hx.trans hci)
    cases g2 : madeOk y3.key with
    | false =>
      have he : clientOk cl = false := cl_f2 (creds_stop hy3 (.inl (by simp [credOk, g2])))
      (repeat' (first | refine nI ?_ | (refine nA ?_; intro _) | (refine nW ?_; first | (refine op_call_id ?_; refine op_ro rfl rfl (by first | exact (c_l6In y3.serv 4 6).eq (congrArg B g1) | exact (c_l12Cred cl ⟨⟨aw, cl.wants.length, cw⟩, ⟨some ⟨b'3, o3, none⟩, cl.creds.length, cc⟩, ⟨as_, cl.sent.length, cs⟩, ⟨am, cl.met.length, cm⟩⟩ y3.serv (hc.mono (by exact kS))).eq (congrArg I hx) | exact (c_l1Session _).eq (congrArg B g2)) ?_)) | refine nY ?_ | refine WA_alt ?_ ?_ | refine nR ?_ | refine WC_drawL (id := 7) (ops := o66x7U2) r66x7U2 (by kernel_rfl) rfl ?_ | refine WC_drawL (id := 18) (ops := o66x18U2) r66x18U2 (by kernel_rfl) rfl ?_ | refine WC_drawL (id := 23) (ops := o66x23U2) r66x23U2 (by kernel_rfl) rfl ?_ | refine WC_cond rfl (fun hc => ?_) (fun hc => ?_)))
      refine ro_ret (by exact kR) (by exact kL) ?_; rw [he]; rfl
    | true =>
    cases g3 : timeOk y3.til with
    | false =>
      have he : clientOk cl = false := cl_f2 (creds_stop hy3 (.inl (by simp [credOk, g3])))
      (repeat' (first | refine nI ?_ | (refine nA ?_; intro _) | (refine nW ?_; first | (refine op_call_id ?_; refine op_ro rfl rfl (by first | exact (c_l6In y3.serv 4 6).eq (congrArg B g1) | exact (c_l12Cred cl ⟨⟨aw, cl.wants.length, cw⟩, ⟨some ⟨b'3, o3, none⟩, cl.creds.length, cc⟩, ⟨as_, cl.sent.length, cs⟩, ⟨am, cl.met.length, cm⟩⟩ y3.serv (hc.mono (by exact kS))).eq (congrArg I hx) | exact (c_l1Session _).eq (congrArg B g2) | exact (c_l1Time _).eq (congrArg B g3)) ?_)) | refine nY ?_ | refine WA_alt ?_ ?_ | refine nR ?_ | refine WC_drawL (id := 7) (ops := o66x7U2) r66x7U2 (by kernel_rfl) rfl ?_ | refine WC_drawL (id := 18) (ops := o66x18U2) r66x18U2 (by kernel_rfl) rfl ?_ | refine WC_drawL (id := 23) (ops := o66x23U2) r66x23U2 (by kernel_rfl) rfl ?_ | refine WC_cond rfl (fun hc => ?_) (fun hc => ?_)))
      refine ro_ret (by exact kR) (by exact kL) ?_; rw [he]; rfl
    | true =>
    cases g4 : sealOk y3.ticket with
    | false =>
      have he : clientOk cl = false := cl_f2 (creds_stop hy3 (.inl (by simp [credOk, g4])))
      (repeat' (first | refine nI ?_ | (refine nA ?_; intro _) | (refine nW ?_; first | (refine op_call_id ?_; refine op_ro rfl rfl (by first | exact (c_l6In y3.serv 4 6).eq (congrArg B g1) | exact (c_l12Cred cl ⟨⟨aw, cl.wants.length, cw⟩, ⟨some ⟨b'3, o3, none⟩, cl.creds.length, cc⟩, ⟨as_, cl.sent.length, cs⟩, ⟨am, cl.met.length, cm⟩⟩ y3.serv (hc.mono (by exact kS))).eq (congrArg I hx) | exact (c_l1Session _).eq (congrArg B g2) | exact (c_l1Time _).eq (congrArg B g3) | exact (c_sSealOk y3.ticket).eq (congrArg B g4)) ?_)) | refine nY ?_ | refine WA_alt ?_ ?_ | refine nR ?_ | refine WC_drawL (id := 7) (ops := o66x7U2) r66x7U2 (by kernel_rfl) rfl ?_ | refine WC_drawL (id := 18) (ops := o66x18U2) r66x18U2 (by kernel_rfl) rfl ?_ | refine WC_drawL (id := 23) (ops := o66x23U2) r66x23U2 (by kernel_rfl) rfl ?_ | refine WC_cond rfl (fun hc => ?_) (fun hc => ?_)))
      refine ro_ret (by exact kR) (by exact kL) ?_; rw [he]; rfl
    | true =>
    (repeat' (first | refine nI ?_ | (refine nA ?_; intro _) | (refine nW ?_; first | (refine op_call_id ?_; refine op_ro rfl rfl (by first | exact (c_l6In y3.serv 4 6).eq (congrArg B g1) | exact (c_l12Cred cl ⟨⟨aw, cl.wants.length, cw⟩, ⟨some ⟨b'3, o3, none⟩, cl.creds.length, cc⟩, ⟨as_, cl.sent.length, cs⟩, ⟨am, cl.met.length, cm⟩⟩ y3.serv (hc.mono (by exact kS))).eq (congrArg I hx) | exact (c_l1Session _).eq (congrArg B g2) | exact (c_l1Time _).eq (congrArg B g3) | exact (c_sSealOk y3.ticket).eq (congrArg B g4)) ?_)) | refine nY ?_ | refine WA_alt ?_ ?_ | refine nR ?_ | refine WC_drawL (id := 7) (ops := o66x7U2) r66x7U2 (by kernel_rfl) rfl ?_ | refine WC_drawL (id := 18) (ops := o66x18U2) r66x18U2 (by kernel_rfl) rfl ?_ | refine WC_drawL (id := 23) (ops := o66x23U2) r66x23U2 (by kernel_rfl) rfl ?_ | refine WC_cond rfl (fun hc => ?_) (fun hc => ?_)))
    exact loopQ_next ⟨mz - 1, _, _, by omega, by exact kQ, by exact kL, k + 1, by omega, rfl, rfl, by exact creds_step hy3 (by simp [credOk, show giverOk y3.serv = true from g1, g2, g3, g4]) hno hin⟩
  have hcok : credsOk cl.creds = true := by
    rw [List.take_of_length_le (by omega)] at hin
    simp only [credsOk, Bool.and_eq_true, decide_eq_true_eq, List.all_eq_true]
    exact hin
  (repeat' (first | refine nI ?_ | (refine nA ?_; intro _) | refine nY ?_ | refine WA_alt ?_ ?_ | refine nR ?_ | refine WC_drawL (id := 7) (ops := o66x7U2) r66x7U2 (by kernel_rfl) rfl ?_ | refine WC_drawL (id := 18) (ops := o66x18U2) r66x18U2 (by kernel_rfl) rfl ?_ | refine WC_drawL (id := 23) (ops := o66x23U2) r66x23U2 (by kernel_rfl) rfl ?_ | refine WC_cond rfl (fun hc => ?_) (fun hc => ?_)))
  clear hk hge hin
  refine WC_loop (fun mz Ez Mz => ∃ (k : Nat) (last : Int), k + mz = (cl.sent).length ∧ Ez = [(1, .pointer (some ⟨bx, 0, none⟩)), (7, I k)] ∧ Mz = (bx, cellsO (clientC cl ⟨⟨aw, cl.wants.length, cw⟩, ⟨ac, cl.creds.length, cc⟩, ⟨as_, cl.sent.length, cs⟩, ⟨am, cl.met.length, cm⟩⟩) 112) :: L ∧ (sentOk cl.num 0 cl.sent = sentOk cl.num last (cl.sent.drop k) ∧ 0 ≤ last ∧ last ≤ 60 ∧ (k = 0 → last = 0) ∧ ∀ y, 0 < k → cl.sent[((k : Int) - 1).toNat]? = some y → y.num = last)) (cl.sent).length (by exact kQ) (by exact kL) ⟨0, 0, by omega, rfl, rfl, by exact ⟨by simp, by omega, by omega, fun _ => rfl, fun y h => absurd h (by omega)⟩⟩ ?_
  rintro mz Ez Mz ⟨k, last, hk, rfl, rfl, hin⟩
  rcases Nat.lt_or_ge k (cl.sent).length with hlt | hge
  · obtain ⟨y4, hy4⟩ : ∃ y, (cl.sent)[k]? = some y := ⟨(cl.sent)[k]'(by omega), by simp [hlt]⟩; obtain ⟨b'4, o4, cs4, T4, fr4, rfl, hm4, hrow4⟩ := hats (by omega); have hrow'4 := hrow4 k y4 hy4; have htk4 := take_next hy4
    obtain ⟨hd, hl0, hl1, hz, hp⟩ := hin
    rw [drop_cons' hy4] at hd
    cases g1 : (callOk y4 && within y4.num 1 cl.num) with
    | false =>
      have he : clientOk cl = false := cl_f3 (by
        rw [hd]
        rcases Bool.and_eq_false_iff.1 g1 with h | h
        · simp only [callOk] at h; simp [sentOk, h]
        · simp [sentOk, show within y4.num (last + 1) cl.num = false from within_false.2 (by have := within_false.1 h; omega)])
      (repeat' (first | refine nI ?_ | (refine nA ?_; intro _) | (refine nW ?_; first | (refine op_call_id ?_; refine op_ro rfl rfl (by exact (c_l12Call y4 cl.num).eq (congrArg B g1)) ?_)) | refine nY ?_ | refine WA_alt ?_ ?_ | refine nR ?_ | refine WC_drawL (id := 7) (ops := o66x7U2) r66x7U2 (by kernel_rfl) rfl ?_ | refine WC_drawL (id := 18) (ops := o66x18U2) r66x18U2 (by kernel_rfl) rfl ?_ | refine WC_drawL (id := 23) (ops := o66x23U2) r66x23U2 (by kernel_rfl) rfl ?_ | refine WC_cond rfl (fun hc => ?_) (fun hc => ?_)))
      refine ro_ret (by exact kR) (by exact kL) ?_; rw [he]; rfl
    | true =>
    obtain ⟨ga, gb⟩ := Bool.and_eq_true_iff.1 g1
    have g3 := within_iff.1 gb
    have gc := callOk_cases ga
    have gc1 : servOk y4.peer = true := within_iff.2 gc.1
    have gc2 : madeOk y4.key = true := within_iff.2 gc.2.1
    have gc3 : timeOk y4.time = true := within_iff.2 gc.2.2
    rcases Nat.eq_zero_or_pos k with hk0 | hkp
    · have hz0 := hz hk0
      have g4 : within y4.num (last + 1) cl.num = true := within_iff.2 (by omega)
      (repeat' (first | refine nI ?_ | (refine nA ?_; intro _) | (refine nW ?_; first | (refine op_call_id ?_; refine op_ro rfl rfl (by exact (c_l12Call y4 cl.num).eq (congrArg B g1)) ?_)) | refine nY ?_ | refine WA_alt ?_ ?_ | refine nR ?_ | refine WC_drawL (id := 7) (ops := o66x7U2) r66x7U2 (by kernel_rfl) rfl ?_ | refine WC_drawL (id := 18) (ops := o66x18U2) r66x18U2 (by kernel_rfl) rfl ?_ | refine WC_drawL (id := 23) (ops := o66x23U2) r66x23U2 (by kernel_rfl) rfl ?_ | refine WC_cond rfl (fun hc => ?_) (fun hc => ?_)))
      exact loopQ_next ⟨mz - 1, _, _, by omega, by exact kQ, by exact kL, k + 1, y4.num, by omega, rfl, rfl, by exact ⟨by rw [hd]; simp [sentOk, gc1, gc2, gc3, g4], by omega, by omega, fun h => absurd h (by omega), fun y h1 h2 => by rw [show (((k + 1 : Nat) : Int) - 1).toNat = k by omega, hy4] at h2; cases h2; rfl⟩⟩
    · obtain ⟨yp, hyp⟩ : ∃ y, cl.sent[((k : Int) - 1).toNat]? = some y := ⟨_, List.getElem?_eq_getElem (by omega)⟩
      have hrowp := hrow4 _ yp hyp
      have hpv := hp yp hkp hyp
      by_cases hlt2 : yp.num < y4.num
      · have g4 : within y4.num (last + 1) cl.num = true := within_iff.2 (by omega)
        (repeat' (first | refine nI ?_ | (refine nA ?_; intro _) | (refine nW ?_; first | (refine op_call_id ?_; refine op_ro rfl rfl (by exact (c_l12Call y4 cl.num).eq (congrArg B g1)) ?_)) | refine nY ?_ | refine WA_alt ?_ ?_ | refine nR ?_ | refine WC_drawL (id := 7) (ops := o66x7U2) r66x7U2 (by kernel_rfl) rfl ?_ | refine WC_drawL (id := 18) (ops := o66x18U2) r66x18U2 (by kernel_rfl) rfl ?_ | refine WC_drawL (id := 23) (ops := o66x23U2) r66x23U2 (by kernel_rfl) rfl ?_ | refine WC_cond rfl (fun hc => ?_) (fun hc => ?_)))
        exact loopQ_next ⟨mz - 1, _, _, by omega, by exact kQ, by exact kL, k + 1, y4.num, by omega, rfl, rfl, by exact ⟨by rw [hd]; simp [sentOk, gc1, gc2, gc3, g4], by omega, by omega, fun h => absurd h (by omega), fun y h1 h2 => by rw [show (((k + 1 : Nat) : Int) - 1).toNat = k by omega, hy4] at h2; cases h2; rfl⟩⟩
      · have he : clientOk cl = false := cl_f3 (by rw [hd]; simp [sentOk, show within y4.num (last + 1) cl.num = false from within_false.2 (by omega)])
        (repeat' (first | refine nI ?_ | (refine nA ?_; intro _) | (refine nW ?_; first | (refine op_call_id ?_; refine op_ro rfl rfl (by exact (c_l12Call y4 cl.num).eq (congrArg B g1)) ?_)) | refine nY ?_ | refine WA_alt ?_ ?_ | refine nR ?_ | refine WC_drawL (id := 7) (ops := o66x7U2) r66x7U2 (by kernel_rfl) rfl ?_ | refine WC_drawL (id := 18) (ops := o66x18U2) r66x18U2 (by kernel_rfl) rfl ?_ | refine WC_drawL (id := 23) (ops := o66x23U2) r66x23U2 (by kernel_rfl) rfl ?_ | refine WC_cond rfl (fun hc => ?_) (fun hc => ?_)))
        refine ro_ret (by exact kR) (by exact kL) ?_; rw [he]; rfl
  have hsok : sentOk cl.num 0 cl.sent = true := by rw [hin.1, List.drop_of_length_le (by omega)]; rfl
  (repeat' (first | refine nI ?_ | (refine nA ?_; intro _) | refine nY ?_ | refine WA_alt ?_ ?_ | refine nR ?_ | refine WC_drawL (id := 7) (ops := o66x7U2) r66x7U2 (by kernel_rfl) rfl ?_ | refine WC_drawL (id := 18) (ops := o66x18U2) r66x18U2 (by kernel_rfl) rfl ?_ | refine WC_drawL (id := 23) (ops := o66x23U2) r66x23U2 (by kernel_rfl) rfl ?_ | refine WC_cond rfl (fun hc => ?_) (fun hc => ?_)))
  clear hk hge hin
  refine WC_loop (fun mz Ez Mz => ∃ k : Nat, k + mz = (cl.met).length ∧ Ez = [(1, .pointer (some ⟨bx, 0, none⟩)), (8, I k)] ∧ Mz = (bx, cellsO (clientC cl ⟨⟨aw, cl.wants.length, cw⟩, ⟨ac, cl.creds.length, cc⟩, ⟨as_, cl.sent.length, cs⟩, ⟨am, cl.met.length, cm⟩⟩) 112) :: L ∧ ((∀ z ∈ cl.met.take k, z ∈ cl.sent) ∧ (cl.met.take k).Nodup)) (cl.met).length (by exact kQ) (by exact kL) ⟨0, by omega, rfl, rfl, by simp⟩ ?_
  rintro mz Ez Mz ⟨k, hk, rfl, rfl, hin⟩
  rcases Nat.lt_or_ge k (cl.met).length with hlt | hge
  · have hcut := hm.take (k := k) (by omega)
    obtain ⟨y5, hy5⟩ : ∃ y, (cl.met)[k]? = some y := ⟨(cl.met)[k]'(by omega), by simp [hlt]⟩; obtain ⟨b'5, o5, cs5, T5, fr5, rfl, hm5, hrow5⟩ := hatm (by omega); have hrow'5 := hrow5 k y5 hy5; have htk5 := take_next hy5
    cases g1 : decide (y5 ∈ cl.sent) with
    | false =>
      have he : clientOk cl = false := cl_f4 (met_stop hy5 (.inl (of_decide_eq_false g1)))
      (repeat' (first | refine nI ?_ | (refine nA ?_; intro _) | (refine nW ?_; first | (refine op_call_id ?_; refine op_ro rfl rfl (by exact (c_spec.l12Called ⟨as_, cl.sent.length, cs⟩ cl.sent y5 (hs.mono (by exact kS))).eq (congrArg B g1)) ?_)) | refine nY ?_ | refine WA_alt ?_ ?_ | refine nR ?_ | refine WC_drawL (id := 7) (ops := o66x7U2) r66x7U2 (by kernel_rfl) rfl ?_ | refine WC_drawL (id := 18) (ops := o66x18U2) r66x18U2 (by kernel_rfl) rfl ?_ | refine WC_drawL (id := 23) (ops := o66x23U2) r66x23U2 (by kernel_rfl) rfl ?_ | refine WC_cond rfl (fun hc => ?_) (fun hc => ?_)))
      refine ro_ret (by exact kR) (by exact kL) ?_; rw [he]; rfl
    | true =>
    cases g2 : decide (y5 ∈ cl.met.take k) with
    | true =>
      have he : clientOk cl = false := cl_f4 (met_stop hy5 (.inr (of_decide_eq_true g2)))
      (repeat' (first | refine nI ?_ | (refine nA ?_; intro _) | (refine nW ?_; first | (refine op_call_id ?_; refine op_ro rfl rfl (by first | exact (c_spec.l12Called ⟨as_, cl.sent.length, cs⟩ cl.sent y5 (hs.mono (by exact kS))).eq (congrArg B g1) | exact (c_spec.l12Called ⟨_, _, _⟩ (cl.met.take k) y5 (hcut.mono (by exact kS))).eq (congrArg B g2)) ?_)) | refine nY ?_ | refine WA_alt ?_ ?_ | refine nR ?_ | refine WC_drawL (id := 7) (ops := o66x7U2) r66x7U2 (by kernel_rfl) rfl ?_ | refine WC_drawL (id := 18) (ops := o66x18U2) r66x18U2 (by kernel_rfl) rfl ?_ | refine WC_drawL (id := 23) (ops := o66x23U2) r66x23U2 (by kernel_rfl) rfl ?_ | refine WC_cond rfl (fun hc => ?_) (fun hc => ?_)))
      refine ro_ret (by exact kR) (by exact kL) ?_; rw [he]; rfl
    | false =>
    (repeat' (first | refine nI ?_ | (refine nA ?_; intro _) | (refine nW ?_; first | (refine op_call_id ?_; refine op_ro rfl rfl (by first | exact (c_spec.l12Called ⟨as_, cl.sent.length, cs⟩ cl.sent y5 (hs.mono (by exact kS))).eq (congrArg B g1) | exact (c_spec.l12Called ⟨_, _, _⟩ (cl.met.take k) y5 (hcut.mono (by exact kS))).eq (congrArg B g2)) ?_)) | refine nY ?_ | refine WA_alt ?_ ?_ | refine nR ?_ | refine WC_drawL (id := 7) (ops := o66x7U2) r66x7U2 (by kernel_rfl) rfl ?_ | refine WC_drawL (id := 18) (ops := o66x18U2) r66x18U2 (by kernel_rfl) rfl ?_ | refine WC_drawL (id := 23) (ops := o66x23U2) r66x23U2 (by kernel_rfl) rfl ?_ | refine WC_cond rfl (fun hc => ?_) (fun hc => ?_)))
    exact loopQ_next ⟨mz - 1, _, _, by omega, by exact kQ, by exact kL, k + 1, by omega, rfl, rfl, by exact met_step hy5 (of_decide_eq_true g1) (of_decide_eq_false g2) hin⟩
  have hmok : metOk cl.sent cl.met = true := by
    rw [List.take_of_length_le (by omega)] at hin
    simp only [metOk, Bool.and_eq_true, decide_eq_true_eq, List.all_eq_true]
    exact hin
  (repeat' (first | refine nI ?_ | (refine nA ?_; intro _) | refine nY ?_ | refine WA_alt ?_ ?_ | refine nR ?_ | refine WC_drawL (id := 7) (ops := o66x7U2) r66x7U2 (by kernel_rfl) rfl ?_ | refine WC_drawL (id := 18) (ops := o66x18U2) r66x18U2 (by kernel_rfl) rfl ?_ | refine WC_drawL (id := 23) (ops := o66x23U2) r66x23U2 (by kernel_rfl) rfl ?_ | refine WC_cond rfl (fun hc => ?_) (fun hc => ?_)))
  refine ro_ret (by exact kR) (by exact kL) ?_; simp [packR, clientOk, hu, hn, hwok, hcok, hsok, hmok]
section
variable {L : List Ent} (w : World) (kc : Sl) (ac av al : Option Addr) (nc nv nl cc cv cl : Nat) (ps : List (Client × CSl)) (ss : List (Serv × (Sl × Sl))) (ms : List (Msg × Sl)) (hat : WldAt L w ⟨kc, ⟨ac, nc, cc⟩, ⟨av, nv, cv⟩, ⟨al, nl, cl⟩⟩ ps ss ms)
include hat
theorem c_sWorldOkA0 : RO Tryz.prog 30 [worldV w ⟨kc, ⟨ac, nc, cc⟩, ⟨av, nv, cv⟩, ⟨al, nl, cl⟩⟩] L (B (worldOk w)) := by
  obtain ⟨hkc, hpe, hpr, hpa, hsE, hsr, hsa, hme, hmr, hma⟩ := hat
  obtain ⟨hnP, hc1, hb1, hat1⟩ := hpr
  obtain ⟨hnS, hc2, hb2, hat2⟩ := hsr
  obtain ⟨hnM, hc3, hb3, hat3⟩ := hmr
  dsimp only at hnP hnS hnM hat1 hat2 hat3 hc1 hc2 hc3
  subst hnP hnS hnM
  simp only [big] at hb1 hb2 hb3
  have hpl : ps.length = w.clients.length := by rw [← List.length_map (f := Prod.fst), hpe]
  have hsl : ss.length = w.servs.length := by rw [← List.length_map (f := Prod.fst), hsE]
  have hml : ms.length = w.log.length := by rw [← List.length_map (f := Prod.fst), hme]
  cases h1 : timeOk w.now with
  | false =>
    have he : worldOk w = false := worldOk_f fun h => by have := within_false.1 h1; have := h.now; omega
    refine Tri.of Tryz.func30 rfl rfl Tryz.ntmps30 rfl rfl ?_
    (repeat' (first | refine nI ?_ | (refine nA ?_; intro _) | (refine nW ?_; first | (refine op_call_id ?_; refine op_ro rfl rfl (by exact (c_l1Time _).eq (congrArg B h1)) ?_)) | refine nY ?_ | refine nR ?_ | refine WC_cond rfl (fun hc => ?_) (fun hc => ?_)))
    refine ro_ret (by exact kR) (by exact kL) ?_; rw [he]; rfl
  | true =>
  cases hkk : kdcOk w.kdc with
  | false =>
    have he : worldOk w = false := worldOk_f fun h => by rw [kdcOk_iff.2 h.kdc] at hkk; cases hkk
    refine Tri.of Tryz.func30 rfl rfl Tryz.ntmps30 rfl rfl ?_
    (repeat' (first | refine nI ?_ | (refine nA ?_; intro _) | (refine nW ?_; first | (refine op_call_id ?_; refine op_ro rfl rfl (by first | exact (c_l1Time _).eq (congrArg B h1) | exact (c_sKdcOk w.kdc kc (hkc.mono (by exact kS))).eq (congrArg B hkk)) ?_)) | refine nY ?_ | refine nR ?_ | refine WC_cond rfl (fun hc => ?_) (fun hc => ?_)))
    refine ro_ret (by exact kR) (by exact kL) ?_; rw [he]; rfl
  | true =>
  by_cases h2 : w.clients.length = 3
  rotate_left
  · have he : worldOk w = false := worldOk_f fun h => h2 h.cl
    refine Tri.of Tryz.func30 rfl rfl Tryz.ntmps30 rfl rfl ?_
    (repeat' (first | refine nI ?_ | (refine nA ?_; intro _) | (refine nW ?_; first | (refine op_call_id ?_; refine op_ro rfl rfl (by first | exact (c_l1Time _).eq (congrArg B h1) | exact (c_sKdcOk w.kdc kc (hkc.mono (by exact kS))).eq (congrArg B hkk)) ?_)) | refine nY ?_ | refine nR ?_ | refine WC_cond rfl (fun hc => ?_) (fun hc => ?_)))
    refine ro_ret (by exact kR) (by exact kL) ?_; rw [he]; rfl
  by_cases h4 : w.servs.length = 2
  rotate_left
  · have he : worldOk w = false := worldOk_f fun h => h4 h.sl
    refine Tri.of Tryz.func30 rfl rfl Tryz.ntmps30 rfl rfl ?_
    (repeat' (first | refine nI ?_ | (refine nA ?_; intro _) | (refine nW ?_; first | (refine op_call_id ?_; refine op_ro rfl rfl (by first | exact (c_l1Time _).eq (congrArg B h1) | exact (c_sKdcOk w.kdc kc (hkc.mono (by exact kS))).eq (congrArg B hkk)) ?_)) | refine nY ?_ | refine nR ?_ | refine WC_cond rfl (fun hc => ?_) (fun hc => ?_)))
    refine ro_ret (by exact kR) (by exact kL) ?_; rw [he]; rfl
  by_cases h5 : w.log.length ≤ 80
  rotate_left
  · have he : worldOk w = false := worldOk_f fun h => h5 h.ll
    refine Tri.of Tryz.func30 rfl rfl Tryz.ntmps30 rfl rfl ?_
    (repeat' (first | refine nI ?_ | (refine nA ?_; intro _) | (refine nW ?_; first | (refine op_call_id ?_; refine op_ro rfl rfl (by first | exact (c_l1Time _).eq (congrArg B h1) | exact (c_sKdcOk w.kdc kc (hkc.mono (by exact kS))).eq (congrArg B hkk)) ?_)) | refine nY ?_ | refine nR ?_ | refine WC_cond rfl (fun hc => ?_) (fun hc => ?_)))
    refine ro_ret (by exact kR) (by exact kL) ?_; rw [he]; rfl
  cases h3 : within w.bad 0 3 with
  | false =>
    have he : worldOk w = false := worldOk_f fun h => by have := within_false.1 h3; have := h.bad; omega
    refine Tri.of Tryz.func30 rfl rfl Tryz.ntmps30 rfl rfl ?_
    (repeat' (first | refine nI ?_ | (refine nA ?_; intro _) | (refine nW ?_; first | (refine op_call_id ?_; refine op_ro rfl rfl (by first | exact (c_l1Time _).eq (congrArg B h1) | exact (c_sKdcOk w.kdc kc (hkc.mono (by exact kS))).eq (congrArg B hkk) | exact (c_l6In _ _ _).eq (congrArg B h3)) ?_)) | refine nY ?_ | refine nR ?_ | refine WC_cond rfl (fun hc => ?_) (fun hc => ?_)))
    refine ro_ret (by exact kR) (by exact kL) ?_; rw [he]; rfl
  | true =>
  obtain ⟨bP, oP, csP, TP, frP, rfl, hmP, hrP⟩ := hat1 (by omega)
  obtain ⟨bS, oS, csS, TS, frS, rfl, hmS, hrS⟩ := hat2 (by omega)
  refine Tri.of Tryz.func30 rfl rfl Tryz.ntmps30 rfl rfl ?_
  (repeat' (first | refine nI ?_ | (refine nA ?_; intro _) | (refine nW ?_; first | (refine op_call_id ?_; refine op_ro rfl rfl (by first | exact (c_l1Time _).eq (congrArg B h1) | exact (c_sKdcOk w.kdc kc (hkc.mono (by exact kS))).eq (congrArg B hkk) | exact (c_l6In _ _ _).eq (congrArg B h3)) ?_)) | refine nY ?_ | refine nR ?_ | refine WC_cond rfl (fun hc => ?_) (fun hc => ?_)))
  rename_i bx
  refine WC_loop (fun mz Ez Mz => ∃ k : Nat, k + mz = (ps).length ∧ Ez = [(1, .pointer (some ⟨bx, 0, none⟩)), (3, I k)] ∧ Mz = (bx, cellsO (worldC w ⟨kc, ⟨some ⟨bP, oP, none⟩, ps.length, cc⟩, ⟨some ⟨bS, oS, none⟩, ss.length, cv⟩, ⟨al, ms.length, cl⟩⟩) 43) :: L ∧ (∀ (i : Nat) c, i < k → w.clients[i]? = some c → COk c ∧ c.id = i + 1)) (ps).length (by exact kQ) (by exact kL) ⟨0, by omega, rfl, rfl, by exact fun i c h => absurd h (by omega)⟩ ?_
  rintro mz Ez Mz ⟨k, hk, rfl, rfl, hin⟩
  rcases Nat.lt_or_ge k (ps).length with hlt | hge
  · obtain ⟨⟨c, sc⟩, hy⟩ : ∃ y, ps[k]? = some y := ⟨_, List.getElem?_eq_getElem hlt⟩
    have hrow' := hrP k _ hy
    have hck : w.clients[k]? = some c := by rw [← hpe, List.getElem?_map, hy]; rfl
    have hca := hpa _ (List.mem_of_getElem? hy)
    cases hco : clientOk c with
    | false =>
      have he : worldOk w = false := worldOk_f fun h => by rw [clientOk_iff.2 (h.cs k c hck).1] at hco; cases hco
      (repeat' (first | refine nI ?_ | (refine nA ?_; intro _) | (refine nW ?_; first | (refine op_call_id ?_; refine op_ro rfl rfl (by exact (c_sClientOk c sc (hca.mono (by exact kS))).eq (congrArg B hco)) ?_)) | refine nY ?_ | refine nR ?_ | refine WC_cond rfl (fun hc => ?_) (fun hc => ?_)))
      refine ro_ret (by exact kR) (by exact kL) ?_; rw [he]; rfl
    | true =>
    by_cases hid : c.id = (k : Int) + 1
    · (repeat' (first | refine nI ?_ | (refine nA ?_; intro _) | (refine nW ?_; first | (refine op_call_id ?_; refine op_ro rfl rfl (by exact (c_sClientOk c sc (hca.mono (by exact kS))).eq (congrArg B hco)) ?_)) | refine nY ?_ | refine nR ?_ | refine WC_cond rfl (fun hc => ?_) (fun hc => ?_)))
      exact loopQ_next ⟨mz - 1, _, _, by omega, by exact kQ, by exact kL, k + 1, by omega, rfl, rfl, by (intro i s hi hs; by_cases hik : i = k; (subst hik; rw [hck] at hs; cases hs; exact ⟨clientOk_iff.1 hco, hid⟩); exact hin i s (by omega) hs)⟩
    · have he : worldOk w = false := worldOk_f fun h => hid (h.cs k c hck).2
      (repeat' (first | refine nI ?_ | (refine nA ?_; intro _) | (refine nW ?_; first | (refine op_call_id ?_; refine op_ro rfl rfl (by exact (c_sClientOk c sc (hca.mono (by exact kS))).eq (congrArg B hco)) ?_)) | refine nY ?_ | refine nR ?_ | refine WC_cond rfl (fun hc => ?_) (fun hc => ?_)))
      refine ro_ret (by exact kR) (by exact kL) ?_; rw [he]; rfl
  have hcs : ∀ (i : Nat) c, w.clients[i]? = some c → COk c ∧ c.id = i + 1 := fun i s hs => hin i s (by have := (List.getElem?_eq_some_iff.1 hs).1; omega) hs
  (repeat' (first | refine nI ?_ | (refine nA ?_; intro _) | refine nY ?_ | refine nR ?_ | refine WC_cond rfl (fun hc => ?_) (fun hc => ?_)))
  clear hk hge hin
  refine WC_loop (fun mz Ez Mz => ∃ k : Nat, k + mz = (ss).length ∧ Ez = [(1, .pointer (some ⟨bx, 0, none⟩)), (4, I k)] ∧ Mz = (bx, cellsO (worldC w ⟨kc, ⟨some ⟨bP, oP, none⟩, ps.length, cc⟩, ⟨some ⟨bS, oS, none⟩, ss.length, cv⟩, ⟨al, ms.length, cl⟩⟩) 43) :: L ∧ (∀ (i : Nat) s, i < k → w.servs[i]? = some s → SOk s ∧ s.id = i + 4)) (ss).length (by exact kQ) (by exact kL) ⟨0, by omega, rfl, rfl, by exact fun i s h => absurd h (by omega)⟩ ?_
  rintro mz Ez Mz ⟨k, hk, rfl, rfl, hin⟩
  rcases Nat.lt_or_ge k (ss).length with hlt | hge
  · obtain ⟨⟨v, sc, st⟩, hy⟩ : ∃ y, ss[k]? = some y := ⟨_, List.getElem?_eq_getElem hlt⟩
    have hrow' := hrS k _ hy
    have hvk : w.servs[k]? = some v := by rw [← hsE, List.getElem?_map, hy]; rfl
    have hva := hsa _ (List.mem_of_getElem? hy)
    cases hso : servOk' v with
    | false =>
      have he : worldOk w = false := worldOk_f fun h => by rw [servOk'_iff.2 (h.ss k v hvk).1] at hso; cases hso
      (repeat' (first | refine nI ?_ | (refine nA ?_; intro _) | (refine nW ?_; first | (refine op_call_id ?_; refine op_ro rfl rfl (by exact (c_sServOk v sc st (hva.c.mono (by exact kS)) (hva.t.mono (by exact kS))).eq (congrArg B hso)) ?_)) | refine nY ?_ | refine nR ?_ | refine WC_cond rfl (fun hc => ?_) (fun hc => ?_)))
      refine ro_ret (by exact kR) (by exact kL) ?_; rw [he]; rfl
    | true =>
    by_cases hid : v.id = (k : Int) + 4
    · (repeat' (first | refine nI ?_ | (refine nA ?_; intro _) | (refine nW ?_; first | (refine op_call_id ?_; refine op_ro rfl rfl (by exact (c_sServOk v sc st (hva.c.mono (by exact kS)) (hva.t.mono (by exact kS))).eq (congrArg B hso)) ?_)) | refine nY ?_ | refine nR ?_ | refine WC_cond rfl (fun hc => ?_) (fun hc => ?_)))
      exact loopQ_next ⟨mz - 1, _, _, by omega, by exact kQ, by exact kL, k + 1, by omega, rfl, rfl, by (intro i s hi hs; by_cases hik : i = k; (subst hik; rw [hvk] at hs; cases hs; exact ⟨servOk'_iff.1 hso, hid⟩); exact hin i s (by omega) hs)⟩
    · have he : worldOk w = false := worldOk_f fun h => hid (h.ss k v hvk).2
      (repeat' (first | refine nI ?_ | (refine nA ?_; intro _) | (refine nW ?_; first | (refine op_call_id ?_; refine op_ro rfl rfl (by exact (c_sServOk v sc st (hva.c.mono (by exact kS)) (hva.t.mono (by exact kS))).eq (congrArg B hso)) ?_)) | refine nY ?_ | refine nR ?_ | refine WC_cond rfl (fun hc => ?_) (fun hc => ?_)))
      refine ro_ret (by exact kR) (by exact kL) ?_; rw [he]; rfl
  have hss : ∀ (i : Nat) s, w.servs[i]? = some s → SOk s ∧ s.id = i + 4 := fun i s hs => hin i s (by have := (List.getElem?_eq_some_iff.1 hs).1; omega) hs
  have he : worldOk w = w.log.all msgOk := by
    rw [Bool.eq_iff_iff, worldOk_iff, List.all_eq_true]
    exact ⟨fun h => h.ms, fun hm => ⟨within_iff.1 h1, kdcOk_iff.1 hkk, h2, h4, h5, within_iff.1 h3, hcs, hss, hm⟩⟩
  (repeat' (first | refine nI ?_ | (refine nA ?_; intro _) | refine nY ?_ | refine nR ?_ | refine WC_cond rfl (fun hc => ?_) (fun hc => ?_)))
  clear hk hge hin
  refine WC_loop (fun mz Ez Mz => ∃ k : Nat, k + mz = (ms).length ∧ Ez = [(1, .pointer (some ⟨bx, 0, none⟩)), (5, I k)] ∧ Mz = (bx, cellsO (worldC w ⟨kc, ⟨some ⟨bP, oP, none⟩, ps.length, cc⟩, ⟨some ⟨bS, oS, none⟩, ss.length, cv⟩, ⟨al, ms.length, cl⟩⟩) 43) :: L ∧ (∀ y ∈ ms.take k, msgOk y.1 = true)) (ms).length (by exact kQ) (by exact kL) ⟨0, by omega, rfl, rfl, by simp⟩ ?_
  rintro mz Ez Mz ⟨k, hk, rfl, rfl, hin⟩
  rcases Nat.lt_or_ge k (ms).length with hlt | hge
  · obtain ⟨y6, hy6⟩ : ∃ y, (ms)[k]? = some y := ⟨(ms)[k]'(by omega), by simp [hlt]⟩; obtain ⟨b'6, o6, cs6, T6, fr6, rfl, hm6, hrow6⟩ := hat3 (by omega); have hrow'6 := hrow6 k y6 hy6; have htk6 := take_next hy6
    have hma1 := hma y6 (List.mem_of_getElem? hy6)
    cases hmk : msgOk y6.1 with
    | false =>
      have he2 : w.log.all msgOk = false := List.all_eq_false.2 ⟨y6.1, by rw [← hme]; exact List.mem_map_of_mem (List.mem_of_getElem? hy6), by simp [hmk]⟩
      (repeat' (first | refine nI ?_ | (refine nA ?_; intro _) | (refine nW ?_; first | (refine op_call_id ?_; refine op_ro rfl rfl (by exact (c_sMsgOk y6.1 y6.2 (hma1.mono (by exact kS))).eq (congrArg B hmk)) ?_)) | refine nY ?_ | refine nR ?_ | refine WC_cond rfl (fun hc => ?_) (fun hc => ?_)))
      refine ro_ret (by exact kR) (by exact kL) ?_; rw [he, he2]; rfl
    | true =>
      (repeat' (first | refine nI ?_ | (refine nA ?_; intro _) | (refine nW ?_; first | (refine op_call_id ?_; refine op_ro rfl rfl (by exact (c_sMsgOk y6.1 y6.2 (hma1.mono (by exact kS))).eq (congrArg B hmk)) ?_)) | refine nY ?_ | refine nR ?_ | refine WC_cond rfl (fun hc => ?_) (fun hc => ?_)))
      exact loopQ_next ⟨mz - 1, _, _, by omega, by exact kQ, by exact kL, k + 1, by omega, rfl, rfl, by rw [htk6]; exact all_next hin hmk⟩
  rw [take_all hge] at hin
  have he2 : w.log.all msgOk = true := List.all_eq_true.2 fun m hm => by
    rw [← hme] at hm
    obtain ⟨y, hy, rfl⟩ := List.mem_map.1 hm
    exact hin y hy
  (repeat' (first | refine nI ?_ | (refine nA ?_; intro _) | refine nY ?_ | refine nR ?_ | refine WC_cond rfl (fun hc => ?_) (fun hc => ?_)))
  refine ro_ret (by exact kR) (by exact kL) ?_; rw [he, he2]; rfl
end
theorem c_sWorldOkA {L : List Ent} (w : World) (q : WSl) (ps : List (Client × CSl)) (ss : List (Serv × (Sl × Sl))) (ms : List (Msg × Sl)) (hat : WldAt L w q ps ss ms) : RO Tryz.prog 30 [worldV w q] L (B (worldOk w)) := by
  obtain ⟨kc, ⟨ac, nc, cc⟩, ⟨av, nv, cv⟩, ⟨al, nl, cl⟩⟩ := q
  exact c_sWorldOkA0 w kc ac av al nc nv nl cc cv cl ps ss ms hat
end Go.Proofs.YtoledfhjmdpihaaGreat
