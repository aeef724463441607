/- The reference: who gives tickets, and services. -/
import Derived.Test.YtoledfhjmdpihaaGreatA5
import Derived.Test.YtoledfhjmdpihaaGreatA1
import Derived.Test.YtoledfhjmdpihaaGreatA4
set_option linter.unusedVariables false
set_option linter.unusedSectionVars false
set_option linter.unusedSimpArgs false
namespace Go.Proofs.YtoledfhjmdpihaaGreat
open Go Go.Proofs Go.Proofs.YtoledfhjmdpihaaGreat.VE
attribute [local irreducible] Val Op1 WO WR WA WC seqQ blockQ loopQ retQ
noncomputable def o138x7L35 : Array Oper := cops (cl (cr (cr (cr (cr (cr (cr (codeOf Tryz.f138))))))))
noncomputable def o139x11L35 : Array Oper := cops (cl (cr (cr (cr (cr (cr (cr (cr (cr (cr (codeOf Tryz.f139)))))))))))
noncomputable def o139x1L35 : Array Oper := cops (cl (cl (cr (codeOf Tryz.f139))))
noncomputable def o139x3L35 : Array Oper := cops (cl (cr (cr (codeOf Tryz.f139))))
noncomputable def r138x7L35 : Run := (.st 0 1 (.st 1 0 (.st 2 1 (.st 3 1 (.st 4 1 (.alt (.st 5 2 (.st 6 0 (.st 7 2 (.st 8 3 (.st 9 0 .done))))) (.st 7 2 (.st 5 2 (.st 6 0 (.st 8 3 (.st 9 0 .done)))))))))))
noncomputable def r139x11L35 : Run := (.st 0 1 (.st 1 0 (.st 2 1 (.st 3 1 (.st 4 1 (.alt (.st 5 2 (.st 6 0 (.st 7 2 (.st 8 3 (.st 9 0 .done))))) (.st 7 2 (.st 5 2 (.st 6 0 (.st 8 3 (.st 9 0 .done)))))))))))
noncomputable def r139x1L35 : Run := (.st 0 0 (.st 1 1 (.st 2 0 (.st 3 0 (.st 4 1 (.st 5 3 (.st 6 0 (.st 7 0 (.st 8 0 (.st 9 0 (.st 10 1 (.st 11 0 (.st 12 0 (.st 13 0 (.st 14 0 (.st 15 1 (.st 16 0 (.st 17 1 (.st 18 0 (.st 19 1 (.st 20 0 (.st 21 1 (.st 22 0 (.st 23 3 (.st 24 0 (.st 25 0 .done))))))))))))))))))))))))))
noncomputable def r139x3L35 : Run := (.st 0 0 (.st 1 1 (.st 2 0 (.st 3 1 (.st 4 0 (.st 5 1 (.st 6 0 (.st 7 3 (.st 8 0 (.st 9 0 (.st 10 0 (.st 11 0 (.st 12 0 .done)))))))))))))
set_option maxHeartbeats 4000000
def KdcV (L0 : List Ent) (r : Kdc × Option Msg) (v : Value) (L' : List Ent) : Prop := ∃ s' es' em m sm ok, v = .tuple [.agg [I r.1.next, s'.v].toArray, msgV m sm, B ok].toArray ∧ Row encSeal 155 s' r.1.cache es' ∧ Row encSeal 155 sm m.seals em ∧ r.2 = (if ok then some m else none) ∧ L' = em ++ (es' ++ L0)
def SrvV (L0 : List Ent) (r : Serv × Option Msg) (v : Value) (L' : List Ent) : Prop := ∃ c' t' es' em m sm ok, v = .tuple [servV r.1 c' t', msgV m sm, B ok].toArray ∧ SrvOwn (r.1, c', t') es' ∧ Row encSeal 155 sm m.seals em ∧ r.2 = (if ok then some m else none) ∧ L' = em ++ (es' ++ L0)
theorem cache_b {xs : List Seal} (h : AOk xs) : ∀ x ∈ xs, -1000 ≤ x.b ∧ x.b ≤ 1000 := by
  intro x hx
  have h1 := h.all x hx
  simp only [authOk, Bool.and_eq_true, beq_iff_eq] at h1
  have h2 := sealOk_cases h1.2
  omega
theorem auth_b {s : Seal} (hk : s.kind = 3) (h : sealOk s = true) : -1000 ≤ s.b ∧ s.b ≤ 1000 := by
  have h2 := sealOk_cases h
  omega
section
variable {L0 : List Ent} (k : Kdc) (s : Sl) (es : List Ent) (m : Msg) (sm : Sl) (now : Int) (hk : KOk k) (hn : 0 ≤ now ∧ now ≤ 100) (hr : Row encSeal 155 s k.cache es) (hm : MsgAt L0 m sm)
include hk hn hr hm
theorem c_l11As : Tri Tryz.prog 138 [.agg [I k.next, s.v].toArray, msgV m sm, I now] (es ++ L0) (KdcV L0 (kdcAs k m now)) := by
  have hnx := hk.next
  by_cases hno : m.kind ≠ 1 ∨ msgOk m = false ∨ 60 < k.next
  · have he : kdcAs k m now = (k, none) := by unfold kdcAs; exact if_pos hno
    rw [he]
    by_cases k1 : m.kind = 1
    rotate_left
    · refine Tri.of Tryz.func138 rfl rfl Tryz.ntmps138 rfl rfl ?_
      (repeat' (first | refine nI ?_ | (refine nA ?_; intro _) | refine nY ?_ | refine WA_alt ?_ ?_ | refine nR ?_ | refine WC_drawL (id := 7) (ops := o138x7L35) r138x7L35 (by kernel_rfl) rfl ?_ | refine WC_cond rfl (fun hc => ?_) (fun hc => ?_)))
      refine ret_ret (by exact kR) ?_; exact ⟨es ++ L0, by exact kP, s, es, [], Msg.zero, Sl.nil, false, rfl, hr, Row.nil, rfl, rfl⟩
    cases hok : msgOk m with
    | false =>
      refine Tri.of Tryz.func138 rfl rfl Tryz.ntmps138 rfl rfl ?_
      (repeat' (first | refine nI ?_ | (refine nA ?_; intro _) | (refine nW ?_; first | (refine op_call_id ?_; refine op_ro rfl rfl (by exact (c_sMsgOk m _ (hm.mono (by exact kS))).eq (congrArg B hok)) ?_)) | refine nY ?_ | refine WA_alt ?_ ?_ | refine nR ?_ | refine WC_drawL (id := 7) (ops := o138x7L35) r138x7L35 (by kernel_rfl) rfl ?_ | refine WC_cond rfl (fun hc => ?_) (fun hc => ?_)))
      refine ret_ret (by exact kR) ?_; exact ⟨es ++ L0, by exact kP, s, es, [], Msg.zero, Sl.nil, false, rfl, hr, Row.nil, rfl, rfl⟩
    | true =>
      have h60 : 60 < k.next := by
        rcases hno with h | h | h
        · exact (h k1).elim
        · rw [hok] at h; cases h
        · exact h
      refine Tri.of Tryz.func138 rfl rfl Tryz.ntmps138 rfl rfl ?_
      (repeat' (first | refine nI ?_ | (refine nA ?_; intro _) | (refine nW ?_; first | (refine op_call_id ?_; refine op_ro rfl rfl (by exact (c_sMsgOk m _ (hm.mono (by exact kS))).eq (congrArg B hok)) ?_)) | refine nY ?_ | refine WA_alt ?_ ?_ | refine nR ?_ | refine WC_drawL (id := 7) (ops := o138x7L35) r138x7L35 (by kernel_rfl) rfl ?_ | refine WC_cond rfl (fun hc => ?_) (fun hc => ?_)))
      refine ret_ret (by exact kR) ?_; exact ⟨es ++ L0, by exact kP, s, es, [], Msg.zero, Sl.nil, false, rfl, hr, Row.nil, rfl, rfl⟩
  · have he : kdcAs k m now = ({ k with next := k.next + 1 }, some (giveMsg k 2 m.client 6 m.client m.nonce now (if 100 < now + 12 then 100 else now + 12))) := by unfold kdcAs; exact if_neg hno
    rw [he]
    rw [not_or, not_or] at hno
    have k1 : m.kind = 1 := by omega
    have hok : msgOk m = true := by simpa using hno.2.1
    have h60 := hno.2.2
    refine Tri.of Tryz.func138 rfl rfl Tryz.ntmps138 rfl rfl ?_
    (repeat' (first | refine nI ?_ | (refine nA ?_; intro _) | (refine nW ?_; first | (refine op_call_id ?_; refine op_ro rfl rfl (by exact (c_sMsgOk m _ (hm.mono (by exact kS))).eq (congrArg B hok)) ?_)) | refine nY ?_ | refine WA_alt ?_ ?_ | refine nR ?_ | refine WC_cond rfl (fun hc => ?_) (fun hc => ?_)))
    rename_i b3 b4 b6 b7 b10 b11
    (repeat' (first | refine nX ?_ | (refine nA ?_; intro _) | refine nY ?_ | refine WA_alt ?_ ?_ | refine nR ?_ | refine WC_draw (id := 7) (ops := o138x7L35) ([(b3, cellsO [I (k.next + 1), s.v] 38), (b4, cellsO (msgC m sm) 47), (b10, cellsO (sealC (mkTicket 6 m.client k.next now (if 100 < now + 12 then 100 else now + 12))) 155), (b11, cellsO (sealC (mkPart m.client 6 k.next m.nonce (if 100 < now + 12 then 100 else now + 12))) 155)]) r138x7L35 (by kernel_rfl) rfl ?_))
    all_goals rename_i b9
    all_goals (refine ret_ret (by exact kR) ?_; exact ⟨[(b9, cellsO (sealC (mkTicket 6 m.client k.next now (if 100 < now + 12 then 100 else now + 12)) ++ sealC (mkPart m.client 6 k.next m.nonce (if 100 < now + 12 then 100 else now + 12))) 155)] ++ (es ++ L0), by exact kP, s, es, [(b9, cellsO (sealC (mkTicket 6 m.client k.next now (if 100 < now + 12 then 100 else now + 12)) ++ sealC (mkPart m.client 6 k.next m.nonce (if 100 < now + 12 then 100 else now + 12))) 155)], giveMsg k 2 m.client 6 m.client m.nonce now (if 100 < now + 12 then 100 else now + 12), ⟨some ⟨b9, 0, none⟩, 2, 2⟩, true, rfl, hr, Row.lit (xs := [mkTicket 6 m.client k.next now (if 100 < now + 12 then 100 else now + 12), mkPart m.client 6 k.next m.nonce (if 100 < now + 12 then 100 else now + 12)]) rfl (by simp [lim]), rfl, rfl⟩)
theorem c_l11Tgs0 (hno : m.kind ≠ 3 ∨ msgOk m = false ∨ 60 < k.next ∨ shown (sealAt m 0) (sealAt m 1) 6 now = false) : Tri Tryz.prog 139 [.agg [I k.next, s.v].toArray, msgV m sm, I now] (es ++ L0) (KdcV L0 (kdcTgs k m now)) := by
  have hnx := hk.next
  have he : kdcTgs k m now = (k, none) := by unfold kdcTgs; exact if_pos hno
  rw [he]
  by_cases k3 : m.kind = 3
  rotate_left
  · refine Tri.of Tryz.func139 rfl rfl Tryz.ntmps139 rfl rfl ?_
    (repeat' (first | refine nI ?_ | (refine nA ?_; intro _) | refine nY ?_ | refine WA_alt ?_ ?_ | refine nR ?_ | refine WC_drawL (id := 1) (ops := o139x1L35) r139x1L35 (by kernel_rfl) rfl ?_ | refine WC_drawL (id := 3) (ops := o139x3L35) r139x3L35 (by kernel_rfl) rfl ?_ | refine WC_drawL (id := 11) (ops := o139x11L35) r139x11L35 (by kernel_rfl) rfl ?_ | refine WC_cond rfl (fun hc => ?_) (fun hc => ?_)))
    refine ret_ret (by exact kR) ?_; exact ⟨es ++ L0, by exact kP, s, es, [], Msg.zero, Sl.nil, false, rfl, hr, Row.nil, rfl, rfl⟩
  cases hok : msgOk m with
  | false =>
    refine Tri.of Tryz.func139 rfl rfl Tryz.ntmps139 rfl rfl ?_
    (repeat' (first | refine nI ?_ | (refine nA ?_; intro _) | (refine nW ?_; first | (refine op_call_id ?_; refine op_ro rfl rfl (by exact (c_sMsgOk m _ (hm.mono (by exact kS))).eq (congrArg B hok)) ?_)) | refine nY ?_ | refine WA_alt ?_ ?_ | refine nR ?_ | refine WC_drawL (id := 1) (ops := o139x1L35) r139x1L35 (by kernel_rfl) rfl ?_ | refine WC_drawL (id := 3) (ops := o139x3L35) r139x3L35 (by kernel_rfl) rfl ?_ | refine WC_drawL (id := 11) (ops := o139x11L35) r139x11L35 (by kernel_rfl) rfl ?_ | refine WC_cond rfl (fun hc => ?_) (fun hc => ?_)))
    refine ret_ret (by exact kR) ?_; exact ⟨es ++ L0, by exact kP, s, es, [], Msg.zero, Sl.nil, false, rfl, hr, Row.nil, rfl, rfl⟩
  | true =>
    by_cases h60 : 60 < k.next
    · refine Tri.of Tryz.func139 rfl rfl Tryz.ntmps139 rfl rfl ?_
      (repeat' (first | refine nI ?_ | (refine nA ?_; intro _) | (refine nW ?_; first | (refine op_call_id ?_; refine op_ro rfl rfl (by exact (c_sMsgOk m _ (hm.mono (by exact kS))).eq (congrArg B hok)) ?_)) | refine nY ?_ | refine WA_alt ?_ ?_ | refine nR ?_ | refine WC_drawL (id := 1) (ops := o139x1L35) r139x1L35 (by kernel_rfl) rfl ?_ | refine WC_drawL (id := 3) (ops := o139x3L35) r139x3L35 (by kernel_rfl) rfl ?_ | refine WC_drawL (id := 11) (ops := o139x11L35) r139x11L35 (by kernel_rfl) rfl ?_ | refine WC_cond rfl (fun hc => ?_) (fun hc => ?_)))
      refine ret_ret (by exact kR) ?_; exact ⟨es ++ L0, by exact kP, s, es, [], Msg.zero, Sl.nil, false, rfl, hr, Row.nil, rfl, rfl⟩
    have hsh : shown (sealAt m 0) (sealAt m 1) 6 now = false := by
      rcases hno with h | h | h | h
      · exact (h k3).elim
      · rw [hok] at h; cases h
      · exact (h60 h).elim
      · exact h
    obtain ⟨s0, s1, hss, _, _⟩ := seals2 hok (.inr (.inl k3))
    have hm' := hm
    simp only [MsgAt, hss] at hm'
    obtain ⟨bs, os, cc, Ts, frs, cx, rfl, hmem, ht0, ht1⟩ := read2 hm'
    obtain ⟨hs0, hs1⟩ := sealAt0 hss
    rw [hs0, hs1] at hsh
    refine Tri.of Tryz.func139 rfl rfl Tryz.ntmps139 rfl rfl ?_
    (repeat' (first | refine nI ?_ | (refine nA ?_; intro _) | (refine nW ?_; first | (refine op_call_id ?_; refine op_ro rfl rfl (by first | exact (c_sMsgOk m _ (hm.mono (by exact kS))).eq (congrArg B hok) | exact (c_l11Shown s0 s1 6 now).eq (congrArg B hsh)) ?_)) | refine nY ?_ | refine WA_alt ?_ ?_ | refine nR ?_ | refine WC_drawL (id := 1) (ops := o139x1L35) r139x1L35 (by kernel_rfl) rfl ?_ | refine WC_drawL (id := 3) (ops := o139x3L35) r139x3L35 (by kernel_rfl) rfl ?_ | refine WC_drawL (id := 11) (ops := o139x11L35) r139x11L35 (by kernel_rfl) rfl ?_ | refine WC_cond rfl (fun hc => ?_) (fun hc => ?_)))
    refine ret_ret (by exact kR) ?_; exact ⟨es ++ L0, by exact kP, s, es, [], Msg.zero, Sl.nil, false, rfl, hr, Row.nil, rfl, rfl⟩
theorem c_l11Tgs1 (k3 : m.kind = 3) (hok : msgOk m = true) (h60 : ¬ 60 < k.next) (hsh : shown (sealAt m 0) (sealAt m 1) 6 now = true) : Tri Tryz.prog 139 [.agg [I k.next, s.v].toArray, msgV m sm, I now] (es ++ L0) (KdcV L0 (kdcTgs k m now)) := by
  have hnx := hk.next
  obtain ⟨s0, s1, hss, ok0, ok1⟩ := seals2 hok (.inr (.inl k3))
  have hm' := hm
  simp only [MsgAt, hss] at hm'
  obtain ⟨bs, os, cc, Ts, frs, cx, rfl, hmem, ht0, ht1⟩ := read2 hm'
  obtain ⟨hs0, hs1⟩ := sealAt0 hss
  rw [hs0, hs1] at hsh
  have hshi := shown_iff.1 hsh
  have h0 : kdcTgs k m now = if canKeep k.cache s1 now = false then ({ k with cache := remember k.cache s1 now }, none) else ({ next := k.next + 1, cache := remember k.cache s1 now }, some (giveMsg k 4 s0.a m.serv s0.c m.nonce now s0.e)) := by
    unfold kdcTgs
    rw [hs0, hs1]
    exact if_neg (by rw [not_or, not_or, not_or]; exact ⟨fun h => h k3, by simp [hok], h60, by simp [hsh]⟩)
  cases hck : canKeep k.cache s1 now with
  | false =>
    have hW : ∀ L, SliceAt L encSeal s k.cache → Tri Tryz.prog 190 [s.v, sealV s1, I now] L (fun v L' => ∃ s' es', v = .tuple [s'.v, B false].toArray ∧ Row encSeal 155 s' (remember k.cache s1 now) es' ∧ L' = es' ++ L) := fun L hL => by
      have := c_l11With s k.cache s1 now hL hk.cache.len ⟨hn.1, by omega⟩ (cache_b hk.cache) (auth_b hshi.2.2.2.1 ok1)
      rwa [hck] at this
    rw [h0, if_pos hck]
    refine Tri.of Tryz.func139 rfl rfl Tryz.ntmps139 rfl rfl ?_
    (repeat' (first | refine nI ?_ | (refine nA ?_; intro _) | (refine nW ?_; first | (refine op_call_id ?_; refine op_ro rfl rfl (by first | exact (c_sMsgOk m _ (hm.mono (by exact kS))).eq (congrArg B hok) | exact (c_l11Shown s0 s1 6 now).eq (congrArg B hsh)) ?_)) | refine nY ?_ | refine WA_alt ?_ ?_ | refine nR ?_ | refine WC_drawL (id := 1) (ops := o139x1L35) r139x1L35 (by kernel_rfl) rfl ?_ | refine WC_drawL (id := 11) (ops := o139x11L35) r139x11L35 (by kernel_rfl) rfl ?_ | refine WC_cond rfl (fun hc => ?_) (fun hc => ?_)))
    rename_i b3 b4 b6 b7
    (repeat' (first | refine nI ?_ | (refine nA ?_; intro _) | (refine nW ?_; first | (refine op_call_id ?_; refine op_call rfl (hW _ (hr.atL (by exact kS))) rfl ?_; rintro _ _ ⟨s9, e9, rfl, hr9, rfl⟩)) | refine nY ?_ | refine WA_alt ?_ ?_ | refine nR ?_ | refine WC_drawL (id := 1) (ops := o139x1L35) r139x1L35 (by kernel_rfl) rfl ?_ | refine WC_draw (id := 3) (ops := o139x3L35) ([(b3, cellsO [I k.next, s.v] 38), (b4, cellsO (msgC m ⟨some ⟨bs, os, none⟩, 2, cx⟩) 47), (bs, Obj.cells cc.toArray Ts frs)]) r139x3L35 (by kernel_rfl) rfl ?_ | refine WC_drawL (id := 11) (ops := o139x11L35) r139x11L35 (by kernel_rfl) rfl ?_ | refine WC_cond rfl (fun hc => ?_) (fun hc => ?_)))
    refine ret_ret (by exact kR) ?_; exact ⟨e9 ++ L0, by exact kP, s9, e9, [], Msg.zero, Sl.nil, false, rfl, hr9, Row.nil, rfl, rfl⟩
  | true =>
    have hW : ∀ L, SliceAt L encSeal s k.cache → Tri Tryz.prog 190 [s.v, sealV s1, I now] L (fun v L' => ∃ s' es', v = .tuple [s'.v, B true].toArray ∧ Row encSeal 155 s' (remember k.cache s1 now) es' ∧ L' = es' ++ L) := fun L hL => by
      have := c_l11With s k.cache s1 now hL hk.cache.len ⟨hn.1, by omega⟩ (cache_b hk.cache) (auth_b hshi.2.2.2.1 ok1)
      rwa [hck] at this
    rw [h0, if_neg (by simp [hck])]
    refine Tri.of Tryz.func139 rfl rfl Tryz.ntmps139 rfl rfl ?_
    (repeat' (first | refine nI ?_ | (refine nA ?_; intro _) | (refine nW ?_; first | (refine op_call_id ?_; refine op_ro rfl rfl (by first | exact (c_sMsgOk m _ (hm.mono (by exact kS))).eq (congrArg B hok) | exact (c_l11Shown s0 s1 6 now).eq (congrArg B hsh)) ?_)) | refine nY ?_ | refine WA_alt ?_ ?_ | refine nR ?_ | refine WC_drawL (id := 1) (ops := o139x1L35) r139x1L35 (by kernel_rfl) rfl ?_ | refine WC_drawL (id := 11) (ops := o139x11L35) r139x11L35 (by kernel_rfl) rfl ?_ | refine WC_cond rfl (fun hc => ?_) (fun hc => ?_)))
    rename_i b3 b4 b6 b7
    (repeat' (first | refine nI ?_ | (refine nA ?_; intro _) | (refine nW ?_; first | (refine op_call_id ?_; refine op_call rfl (hW _ (hr.atL (by exact kS))) rfl ?_; rintro _ _ ⟨s9, e9, rfl, hr9, rfl⟩)) | refine nY ?_ | refine WA_alt ?_ ?_ | refine nR ?_ | refine WC_drawL (id := 1) (ops := o139x1L35) r139x1L35 (by kernel_rfl) rfl ?_ | refine WC_draw (id := 3) (ops := o139x3L35) ([(b3, cellsO [I k.next, s.v] 38), (b4, cellsO (msgC m ⟨some ⟨bs, os, none⟩, 2, cx⟩) 47), (bs, Obj.cells cc.toArray Ts frs)]) r139x3L35 (by kernel_rfl) rfl ?_ | refine WC_cond rfl (fun hc => ?_) (fun hc => ?_)))
    rename_i b11 b12 b13
    (repeat' (first | refine nX ?_ | (refine nA ?_; intro _) | refine nY ?_ | refine WA_alt ?_ ?_ | refine nR ?_ | refine WC_drawL (id := 1) (ops := o139x1L35) r139x1L35 (by kernel_rfl) rfl ?_ | refine WC_drawL (id := 3) (ops := o139x3L35) r139x3L35 (by kernel_rfl) rfl ?_ | refine WC_draw (id := 11) (ops := o139x11L35) ([(b3, cellsO [I (k.next + 1), s9.v] 38), (b11, cellsO (sealC s0) 155), (b12, cellsO (sealC (mkTicket m.serv s0.a k.next now s0.e)) 155), (b13, cellsO (sealC (mkPart s0.c m.serv k.next m.nonce s0.e)) 155)]) r139x11L35 (by kernel_rfl) rfl ?_))
    all_goals rename_i b9
    all_goals (refine ret_ret (by exact kR) ?_; exact ⟨[(b9, cellsO (sealC (mkTicket m.serv s0.a k.next now s0.e) ++ sealC (mkPart s0.c m.serv k.next m.nonce s0.e)) 155)] ++ (e9 ++ L0), by exact kP, s9, e9, [(b9, cellsO (sealC (mkTicket m.serv s0.a k.next now s0.e) ++ sealC (mkPart s0.c m.serv k.next m.nonce s0.e)) 155)], giveMsg k 4 s0.a m.serv s0.c m.nonce now s0.e, ⟨some ⟨b9, 0, none⟩, 2, 2⟩, true, rfl, hr9, Row.lit (xs := [mkTicket m.serv s0.a k.next now s0.e, mkPart s0.c m.serv k.next m.nonce s0.e]) rfl (by simp [lim]), rfl, rfl⟩)
theorem c_l11Tgs : Tri Tryz.prog 139 [.agg [I k.next, s.v].toArray, msgV m sm, I now] (es ++ L0) (KdcV L0 (kdcTgs k m now)) := by
  by_cases hno : m.kind ≠ 3 ∨ msgOk m = false ∨ 60 < k.next ∨ shown (sealAt m 0) (sealAt m 1) 6 now = false
  · exact c_l11Tgs0 k s es m sm now hk hn hr hm hno
  · rw [not_or, not_or, not_or] at hno
    exact c_l11Tgs1 k s es m sm now hk hn hr hm (by omega) (by simpa using hno.2.1) hno.2.2.1 (by simpa using hno.2.2.2)
end
end Go.Proofs.YtoledfhjmdpihaaGreat
/- The reference: services hear. -/
set_option linter.unusedVariables false
set_option linter.unusedSectionVars false
set_option linter.unusedSimpArgs false
namespace Go.Proofs.YtoledfhjmdpihaaGreat
open Go Go.Proofs Go.Proofs.YtoledfhjmdpihaaGreat.VE
attribute [local irreducible] Val Op1 WO WR WA WC seqQ blockQ loopQ retQ
noncomputable def o140x11L36 : Array Oper := cops (cl (cr (cr (cr (cr (cr (cr (cr (cr (cr (codeOf Tryz.f140)))))))))))
noncomputable def o140x1L36 : Array Oper := cops (cl (cl (cr (codeOf Tryz.f140))))
noncomputable def r140x11L36 : Run := (.st 0 1 (.st 1 0 (.st 2 1 (.st 3 1 (.alt (.st 4 2 (.st 5 0 (.st 6 2 (.st 7 3 (.st 8 0 .done))))) (.st 6 2 (.st 4 2 (.st 5 0 (.st 7 3 (.st 8 0 .done))))))))))
noncomputable def r140x1L36 : Run := (.st 0 0 (.st 1 1 (.st 2 0 (.st 3 0 (.st 4 1 (.st 5 3 (.st 6 0 (.st 7 0 (.st 8 0 (.st 9 0 (.st 10 1 (.st 11 0 (.st 12 1 (.st 13 0 (.st 14 0 (.st 15 0 (.st 16 0 (.st 17 1 (.st 18 0 (.st 19 1 (.st 20 0 (.st 21 1 (.st 22 0 (.st 23 1 (.st 24 0 (.st 25 1 (.st 26 0 (.st 27 3 (.st 28 0 (.st 29 0 (.st 30 0 (.st 31 0 (.st 32 1 (.st 33 0 (.st 34 0 (.st 35 1 (.st 36 0 (.st 37 1 (.st 38 0 (.st 39 0 .done))))))))))))))))))))))))))))))))))))))))
set_option maxHeartbeats 4000000
section
variable {L0 : List Ent} (sv : Serv) (cs ts : Sl) (es : List Ent) (m : Msg) (sm : Sl) (now : Int) (hn : 0 ≤ now ∧ now ≤ 100) (hl : AOk sv.cache) (hl2 : sv.took.length + 1 ≤ lim) (hown : SrvOwn (sv, cs, ts) es) (hm : MsgAt L0 m sm)
include hn hl hl2 hown hm
theorem c_l13Hear0 (hno : m.kind ≠ 5 ∨ msgOk m = false ∨ m.serv ≠ sv.id ∨ shown (sealAt m 0) (sealAt m 1) sv.id now = false ∨ (sealAt m 1).b ≤ sv.since) : Tri Tryz.prog 140 [servV sv cs ts, msgV m sm, I now] (es ++ L0) (SrvV L0 (servHear sv m now)) := by
  have he : servHear sv m now = (sv, none) := by unfold servHear; exact if_pos hno
  rw [he]
  by_cases k5 : m.kind = 5
  rotate_left
  · refine Tri.of Tryz.func140 rfl rfl Tryz.ntmps140 rfl rfl ?_
    (repeat' (first | refine nI ?_ | (refine nA ?_; intro _) | refine nY ?_ | refine WA_alt ?_ ?_ | refine nR ?_ | refine WC_drawL (id := 1) (ops := o140x1L36) r140x1L36 (by kernel_rfl) rfl ?_ | refine WC_drawL (id := 11) (ops := o140x11L36) r140x11L36 (by kernel_rfl) rfl ?_ | refine WC_cond rfl (fun hc => ?_) (fun hc => ?_)))
    refine ret_ret (by exact kR) ?_; exact ⟨es ++ L0, by exact kP, cs, ts, es, [], Msg.zero, Sl.nil, false, rfl, hown, Row.nil, rfl, rfl⟩
  cases hok : msgOk m with
  | false =>
    refine Tri.of Tryz.func140 rfl rfl Tryz.ntmps140 rfl rfl ?_
    (repeat' (first | refine nI ?_ | (refine nA ?_; intro _) | (refine nW ?_; first | (refine op_call_id ?_; refine op_ro rfl rfl (by exact (c_sMsgOk m _ (hm.mono (by exact kS))).eq (congrArg B hok)) ?_)) | refine nY ?_ | refine WA_alt ?_ ?_ | refine nR ?_ | refine WC_drawL (id := 1) (ops := o140x1L36) r140x1L36 (by kernel_rfl) rfl ?_ | refine WC_drawL (id := 11) (ops := o140x11L36) r140x11L36 (by kernel_rfl) rfl ?_ | refine WC_cond rfl (fun hc => ?_) (fun hc => ?_)))
    refine ret_ret (by exact kR) ?_; exact ⟨es ++ L0, by exact kP, cs, ts, es, [], Msg.zero, Sl.nil, false, rfl, hown, Row.nil, rfl, rfl⟩
  | true =>
    by_cases hsv : m.serv = sv.id
    rotate_left
    · refine Tri.of Tryz.func140 rfl rfl Tryz.ntmps140 rfl rfl ?_
      (repeat' (first | refine nI ?_ | (refine nA ?_; intro _) | (refine nW ?_; first | (refine op_call_id ?_; refine op_ro rfl rfl (by exact (c_sMsgOk m _ (hm.mono (by exact kS))).eq (congrArg B hok)) ?_)) | refine nY ?_ | refine WA_alt ?_ ?_ | refine nR ?_ | refine WC_drawL (id := 1) (ops := o140x1L36) r140x1L36 (by kernel_rfl) rfl ?_ | refine WC_drawL (id := 11) (ops := o140x11L36) r140x11L36 (by kernel_rfl) rfl ?_ | refine WC_cond rfl (fun hc => ?_) (fun hc => ?_)))
      refine ret_ret (by exact kR) ?_; exact ⟨es ++ L0, by exact kP, cs, ts, es, [], Msg.zero, Sl.nil, false, rfl, hown, Row.nil, rfl, rfl⟩
    obtain ⟨s0, s1, hss, _, _⟩ := seals2 hok (.inr (.inr (.inr k5)))
    have hm' := hm
    simp only [MsgAt, hss] at hm'
    obtain ⟨bs, os, cc, Ts, frs, cx, rfl, hmem, ht0, ht1⟩ := read2 hm'
    obtain ⟨hs0, hs1⟩ := sealAt0 hss
    rw [hs0, hs1] at hno
    cases hsh : shown s0 s1 sv.id now with
    | false =>
      refine Tri.of Tryz.func140 rfl rfl Tryz.ntmps140 rfl rfl ?_
      (repeat' (first | refine nI ?_ | (refine nA ?_; intro _) | (refine nW ?_; first | (refine op_call_id ?_; refine op_ro rfl rfl (by first | exact (c_sMsgOk m _ (hm.mono (by exact kS))).eq (congrArg B hok) | exact (c_l11Shown s0 s1 sv.id now).eq (congrArg B hsh)) ?_)) | refine nY ?_ | refine WA_alt ?_ ?_ | refine nR ?_ | refine WC_drawL (id := 1) (ops := o140x1L36) r140x1L36 (by kernel_rfl) rfl ?_ | refine WC_drawL (id := 11) (ops := o140x11L36) r140x11L36 (by kernel_rfl) rfl ?_ | refine WC_cond rfl (fun hc => ?_) (fun hc => ?_)))
      refine ret_ret (by exact kR) ?_; exact ⟨es ++ L0, by exact kP, cs, ts, es, [], Msg.zero, Sl.nil, false, rfl, hown, Row.nil, rfl, rfl⟩
    | true =>
      have hsi : s1.b ≤ sv.since := by
        rcases hno with h | h | h | h | h
        · exact (h k5).elim
        · rw [hok] at h; cases h
        · exact (h hsv).elim
        · rw [hsh] at h; cases h
        · exact h
      refine Tri.of Tryz.func140 rfl rfl Tryz.ntmps140 rfl rfl ?_
      (repeat' (first | refine nI ?_ | (refine nA ?_; intro _) | (refine nW ?_; first | (refine op_call_id ?_; refine op_ro rfl rfl (by first | exact (c_sMsgOk m _ (hm.mono (by exact kS))).eq (congrArg B hok) | exact (c_l11Shown s0 s1 sv.id now).eq (congrArg B hsh)) ?_)) | refine nY ?_ | refine WA_alt ?_ ?_ | refine nR ?_ | refine WC_drawL (id := 1) (ops := o140x1L36) r140x1L36 (by kernel_rfl) rfl ?_ | refine WC_drawL (id := 11) (ops := o140x11L36) r140x11L36 (by kernel_rfl) rfl ?_ | refine WC_cond rfl (fun hc => ?_) (fun hc => ?_)))
      refine ret_ret (by exact kR) ?_; exact ⟨es ++ L0, by exact kP, cs, ts, es, [], Msg.zero, Sl.nil, false, rfl, hown, Row.nil, rfl, rfl⟩
theorem c_l13Hear1 (k5 : m.kind = 5) (hok : msgOk m = true) (hsv : m.serv = sv.id) (hsh : shown (sealAt m 0) (sealAt m 1) sv.id now = true) (hsi : sv.since < (sealAt m 1).b) : Tri Tryz.prog 140 [servV sv cs ts, msgV m sm, I now] (es ++ L0) (SrvV L0 (servHear sv m now)) := by
  obtain ⟨s0, s1, hss, ok0, ok1⟩ := seals2 hok (.inr (.inr (.inr k5)))
  have hm' := hm
  simp only [MsgAt, hss] at hm'
  obtain ⟨bs, os, cc, Ts, frs, cx, rfl, hmem, ht0, ht1⟩ := read2 hm'
  obtain ⟨hs0, hs1⟩ := sealAt0 hss
  rw [hs0, hs1] at hsh
  rw [hs1] at hsi
  have hshi := shown_iff.1 hsh
  have h0 : servHear sv m now = if canKeep sv.cache s1 now = false then ({ sv with cache := remember sv.cache s1 now }, none) else ({ sv with cache := remember sv.cache s1 now, took := sv.took ++ [⟨s1.a, s1.key, s1.b, s1.c⟩] }, some ⟨6, s1.a, 0, 0, [mkBack s1.key s1.b s1.c]⟩) := by
    unfold servHear
    rw [hs0, hs1]
    exact if_neg (by rw [not_or, not_or, not_or, not_or]; exact ⟨fun h => h k5, by simp [hok], fun h => h hsv, by simp [hsh], by omega⟩)
  obtain ⟨a3, n3, c3⟩ := ts
  obtain ⟨e1, e2, rfl, h1, h2⟩ := hown
  dsimp only at h1 h2
  simp only [List.append_assoc]
  cases hck : canKeep sv.cache s1 now with
  | false =>
    have hW : ∀ L, SliceAt L encSeal cs sv.cache → Tri Tryz.prog 190 [cs.v, sealV s1, I now] L (fun v L' => ∃ s' es', v = .tuple [s'.v, B false].toArray ∧ Row encSeal 155 s' (remember sv.cache s1 now) es' ∧ L' = es' ++ L) := fun L hL => by
      have := c_l11With cs sv.cache s1 now hL hl.len ⟨hn.1, by omega⟩ (cache_b hl) (auth_b hshi.2.2.2.1 ok1)
      rwa [hck] at this
    rw [h0, if_pos hck]
    refine Tri.of Tryz.func140 rfl rfl Tryz.ntmps140 rfl rfl ?_
    (repeat' (first | refine nI ?_ | (refine nA ?_; intro _) | (refine nW ?_; first | (refine op_call_id ?_; refine op_ro rfl rfl (by first | exact (c_sMsgOk m _ (hm.mono (by exact kS))).eq (congrArg B hok) | exact (c_l11Shown s0 s1 sv.id now).eq (congrArg B hsh)) ?_) | (refine op_call_id ?_; refine op_call rfl (hW _ (h1.atL (by exact kS))) rfl ?_; rintro _ _ ⟨s9, e9, rfl, hr9, rfl⟩)) | refine nY ?_ | refine WA_alt ?_ ?_ | refine nR ?_ | refine WC_drawL (id := 1) (ops := o140x1L36) r140x1L36 (by kernel_rfl) rfl ?_ | refine WC_drawL (id := 11) (ops := o140x11L36) r140x11L36 (by kernel_rfl) rfl ?_ | refine WC_cond rfl (fun hc => ?_) (fun hc => ?_)))
    refine ret_ret (by exact kR) ?_; exact ⟨e9 ++ (e2 ++ L0), by exact kP, s9, ⟨a3, n3, c3⟩, e9 ++ e2, [], Msg.zero, Sl.nil, false, rfl, ⟨e9, e2, rfl, hr9, h2⟩, Row.nil, rfl, by simp⟩
  | true =>
    have hW : ∀ L, SliceAt L encSeal cs sv.cache → Tri Tryz.prog 190 [cs.v, sealV s1, I now] L (fun v L' => ∃ s' es', v = .tuple [s'.v, B true].toArray ∧ Row encSeal 155 s' (remember sv.cache s1 now) es' ∧ L' = es' ++ L) := fun L hL => by
      have := c_l11With cs sv.cache s1 now hL hl.len ⟨hn.1, by omega⟩ (cache_b hl) (auth_b hshi.2.2.2.1 ok1)
      rwa [hck] at this
    rw [h0, if_neg (by simp [hck])]
    refine Tri.of Tryz.func140 rfl rfl Tryz.ntmps140 rfl rfl ?_
    (repeat' (first | refine nI ?_ | (refine nA ?_; intro _) | (refine nW ?_; first | (refine op_call_id ?_; refine op_ro rfl rfl (by first | exact (c_sMsgOk m _ (hm.mono (by exact kS))).eq (congrArg B hok) | exact (c_l11Shown s0 s1 sv.id now).eq (congrArg B hsh)) ?_) | (refine op_call_id ?_; refine op_call rfl (hW _ (h1.atL (by exact kS))) rfl ?_; rintro _ _ ⟨s9, e9, rfl, hr9, rfl⟩) | (refine go_append ?_; refine op_appendRow (sl := ⟨_, _, _⟩) (sx := ⟨_, _, _⟩) rfl rfl rfl rfl rfl rfl rfl rfl rfl (h2) (by exact kE) (SliceAt.one (x := (⟨s1.a, s1.key, s1.b, s1.c⟩ : Call)) (by exact kM) rfl) (by exact kN) ?_; intro sl' es' hrow' hst')) | refine nY ?_ | refine WA_alt ?_ ?_ | refine nR ?_ | refine WC_drawL (id := 1) (ops := o140x1L36) r140x1L36 (by kernel_rfl) rfl ?_ | refine WC_cond rfl (fun hc => ?_) (fun hc => ?_)))
    rename_i b3 b4 b6 b7 b9 b12 b86 b13
    (repeat' (first | refine nX ?_ | (refine nA ?_; intro _) | refine nY ?_ | refine WA_alt ?_ ?_ | refine nR ?_ | refine WC_drawL (id := 1) (ops := o140x1L36) r140x1L36 (by kernel_rfl) rfl ?_ | refine WC_draw (id := 11) (ops := o140x11L36) ([(b3, cellsO [I sv.id, I sv.since, s9.v, sl'.v] 115), (b9, cellsO (sealC s1) 155), (b13, cellsO (sealC (mkBack s1.key s1.b s1.c)) 155)]) r140x11L36 (by kernel_rfl) rfl ?_))
    all_goals rename_i b10
    all_goals (refine ret_ret (by exact kR) ?_; exact ⟨[(b10, cellsO (sealC (mkBack s1.key s1.b s1.c)) 155)] ++ (e9 ++ (es' ++ L0)), by exact kP, s9, sl', e9 ++ es', [(b10, cellsO (sealC (mkBack s1.key s1.b s1.c)) 155)], ⟨6, s1.a, 0, 0, [mkBack s1.key s1.b s1.c]⟩, ⟨some ⟨b10, 0, none⟩, 1, 1⟩, true, rfl, ⟨e9, es', rfl, hr9, hrow'⟩, Row.lit (xs := [mkBack s1.key s1.b s1.c]) rfl (by simp [lim]), rfl, by simp⟩)
theorem c_l13Hear : Tri Tryz.prog 140 [servV sv cs ts, msgV m sm, I now] (es ++ L0) (SrvV L0 (servHear sv m now)) := by
  by_cases hno : m.kind ≠ 5 ∨ msgOk m = false ∨ m.serv ≠ sv.id ∨ shown (sealAt m 0) (sealAt m 1) sv.id now = false ∨ (sealAt m 1).b ≤ sv.since
  · exact c_l13Hear0 sv cs ts es m sm now hn hl hl2 hown hm hno
  · rw [not_or, not_or, not_or, not_or] at hno
    exact c_l13Hear1 sv cs ts es m sm now hn hl hl2 hown hm (by omega) (by simpa using hno.2.1) (by omega) (by simpa using hno.2.2.2.1) (by omega)
end
end Go.Proofs.YtoledfhjmdpihaaGreat
