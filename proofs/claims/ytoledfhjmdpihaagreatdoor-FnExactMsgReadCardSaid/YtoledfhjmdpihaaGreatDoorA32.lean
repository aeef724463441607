/- Words compared field by field; words marked, and whether the marks are held. -/
import Derived.Test.YtoledfhjmdpihaaGreatDoorA29
import Derived.Test.YtoledfhjmdpihaaGreatDoorA1
set_option linter.unusedVariables false
set_option linter.unusedSectionVars false
set_option linter.unusedSimpArgs false
namespace Go.Proofs.YtoledfhjmdpihaaGreatDoor
open Go Go.Proofs Go.Proofs.YtoledfhjmdpihaaGreatDoor.VE
attribute [local irreducible] Val Op1 WO WR WA WC seqQ blockQ loopQ retQ
noncomputable def o25x6T16 : Array Oper := cops (cl (cl (cl (cr (cl (cl (cr (cl (cr (cr (codeOf Tryz.f25)))))))))))
noncomputable def r25x6T16 : Run := (.st 0 0 (.st 1 0 (.st 2 0 (.st 3 1 (.st 4 0 (.st 5 0 (.st 6 0 (.st 7 1 (.st 8 3 (.st 9 0 .done))))))))))
set_option maxHeartbeats 8000000
abbrev markAt (k : Int) : Seal := ⟨k, k + 1, k + 1 + 1, k + 1 + 1 + 1, k + 1 + 1 + 1 + 1, k + 1 + 1 + 1 + 1 + 1, k + 1 + 1 + 1 + 1 + 1 + 1⟩
def marks (k0 : Int) (n : Nat) : List Seal := (List.range n).map fun i : Nat => markAt (k0 + 7 * (i : Int))
theorem marks_len (k0 : Int) (n : Nat) : (marks k0 n).length = n := by simp [marks]
theorem marks_next (k0 : Int) (n : Nat) : marks k0 (n + 1) = marks k0 n ++ [markAt (k0 + 7 * (n : Int))] := by simp [marks, List.range_succ]
theorem c_eqSeal {L : List Ent} (s : Seal) : RO Tryz.prog 59 [sealV s, sealV s] L (B true) := by
  refine Tri.of Tryz.func59 rfl rfl Tryz.ntmps59 rfl rfl ?_
  (repeat' (first | refine nI ?_ | (refine nA ?_; intro _) | refine nY ?_ | refine nR ?_ | refine WC_cond rfl (fun hc => ?_) (fun hc => ?_)))
  refine ro_ret (by exact kR) (by exact kL) ?_; rfl
theorem c_eqSealS {L : List Ent} (s1 s2 : Sl) (ss : List Seal) (h1 : SliceAt L encSeal s1 ss) (h2 : SliceAt L encSeal s2 ss) : RO Tryz.prog 25 [s1.v, s2.v] L (B true) := by
  obtain ⟨a1, n1, c1⟩ := s1
  obtain ⟨a2, n2, c2⟩ := s2
  obtain ⟨hn1, hc1, hb1, hat1⟩ := h1
  obtain ⟨hn2, hc2, hb2, hat2⟩ := h2
  dsimp only at hn1 hn2 hat1 hat2
  subst hn1 hn2
  simp only [big] at hb1 hb2
  refine Tri.of Tryz.func25 rfl rfl Tryz.ntmps25 rfl rfl ?_
  (repeat' (first | refine nI ?_ | (refine nA ?_; intro _) | refine nY ?_ | refine WA_alt ?_ ?_ | refine nR ?_ | refine WC_drawL (id := 6) (ops := o25x6T16) r25x6T16 (by kernel_rfl) rfl ?_ | refine WC_cond rfl (fun hc => ?_) (fun hc => ?_)))
  refine WC_loop (fun mz Ez Mz => ∃ k : Nat, k + mz = (ss).length ∧ Ez = [(0, .slice a1 ss.length c1), (1, .slice a2 ss.length c2), (5, I k)] ∧ Mz = L ∧ (True)) (ss).length (by exact kQ) (by exact kL) ⟨0, by omega, rfl, rfl, by trivial⟩ ?_
  rintro mz Ez Mz ⟨k, hk, rfl, rfl, hin⟩
  rcases Nat.lt_or_ge k (ss).length with hlt | hge
  · obtain ⟨y1, hy1⟩ : ∃ y, (ss)[k]? = some y := ⟨(ss)[k]'(by omega), by simp [hlt]⟩; obtain ⟨b'1, o1, cs1, T1, fr1, rfl, hm1, hrow1⟩ := hat1 (by omega); have hrow'1 := hrow1 k y1 hy1; have htk1 := take_next hy1
    obtain ⟨b'2, o2, cs2, T2, fr2, rfl, hm2, hrow2⟩ := hat2 (by omega)
    have hrow'2 := hrow2 k _ hy1
    (repeat' (first | refine nI ?_ | (refine nA ?_; intro _) | (refine nW ?_; first | (refine op_call_id ?_; refine op_ro rfl rfl (by exact c_eqSeal y1) ?_)) | refine nY ?_ | refine WA_alt ?_ ?_ | refine nR ?_ | refine WC_drawL (id := 6) (ops := o25x6T16) r25x6T16 (by kernel_rfl) rfl ?_ | refine WC_cond rfl (fun hc => ?_) (fun hc => ?_)))
    exact loopQ_next ⟨mz - 1, _, _, by omega, by exact kQ, by exact kL, k + 1, by omega, rfl, rfl, by trivial⟩
  (repeat' (first | refine nI ?_ | (refine nA ?_; intro _) | refine nY ?_ | refine WA_alt ?_ ?_ | refine nR ?_ | refine WC_drawL (id := 6) (ops := o25x6T16) r25x6T16 (by kernel_rfl) rfl ?_ | refine WC_cond rfl (fun hc => ?_) (fun hc => ?_)))
  refine ro_ret (by exact kR) (by exact kL) ?_; rfl
theorem c_eqMsg {L : List Ent} (m : Msg) (s1 s2 : Sl) (h1 : MsgAt L m s1) (h2 : MsgAt L m s2) : RO Tryz.prog 8 [msgV m s1, msgV m s2] L (B true) := by
  refine Tri.of Tryz.func8 rfl rfl Tryz.ntmps8 rfl rfl ?_
  (repeat' (first | refine nI ?_ | (refine nA ?_; intro _) | (refine nW ?_; first | (refine op_call_id ?_; refine op_ro rfl rfl (by exact c_eqSealS s1 s2 m.seals (h1.mono (by exact kS)) (h2.mono (by exact kS))) ?_)) | refine nY ?_ | refine nR ?_ | refine WC_cond rfl (fun hc => ?_) (fun hc => ?_)))
  refine ro_ret (by exact kR) (by exact kL) ?_; rfl
theorem c_heldSealS {L : List Ent} (s : Sl) (k0 : Int) (n : Nat) (h : SliceAt L encSeal s (marks k0 n)) (hk : 0 ≤ k0 ∧ k0 ≤ 1000000) (hn : n ≤ 1000) : RO Tryz.prog 27 [s.v, I k0] L (I (k0 + 7 * (n : Int))) := by
  obtain ⟨a, nn, c⟩ := s
  obtain ⟨hnn, hc, hb, hat⟩ := h
  have hml := marks_len k0 n
  dsimp only at hnn hat
  subst hnn
  simp only [big] at hb
  refine Tri.of Tryz.func27 rfl rfl Tryz.ntmps27 rfl rfl ?_
  (repeat' (first | refine nI ?_ | (refine nA ?_; intro _) | refine nY ?_ | refine nR ?_ | refine WC_cond rfl (fun hc => ?_) (fun hc => ?_)))
  refine WC_loop (fun mz Ez Mz => ∃ (k : Nat) (kk : Int), k + mz = (marks k0 n).length ∧ Ez = [(0, .slice a (marks k0 n).length c), (1, I kk), (5, I k)] ∧ Mz = L ∧ (kk = k0 + 7 * (k : Int))) (marks k0 n).length (by exact kQ) (by exact kL) ⟨0, k0, by omega, rfl, rfl, by omega⟩ ?_
  rintro mz Ez Mz ⟨k, kk, hk, rfl, rfl, hin⟩
  rcases Nat.lt_or_ge k (marks k0 n).length with hlt | hge
  · obtain ⟨y1, hy1⟩ : ∃ y, (marks k0 n)[k]? = some y := ⟨(marks k0 n)[k]'(by omega), by simp [hlt]⟩; obtain ⟨b'1, o1, cs1, T1, fr1, rfl, hm1, hrow1⟩ := hat (by omega); have hrow'1 := hrow1 k y1 hy1; have htk1 := take_next hy1
    have hye : y1 = markAt kk := by
      have h9 := hy1
      unfold marks at h9
      rw [List.getElem?_map, List.getElem?_range (by omega)] at h9
      have := Option.some.inj h9
      rw [← this, hin]
    subst hye
    (repeat' (first | refine nI ?_ | (refine nA ?_; intro _) | refine nY ?_ | refine nR ?_ | refine WC_cond rfl (fun hc => ?_) (fun hc => ?_)))
    exact loopQ_next ⟨mz - 1, _, _, by omega, by exact kQ, by exact kL, k + 1, kk + 1 + 1 + 1 + 1 + 1 + 1 + 1, by omega, rfl, rfl, by omega⟩
  · have hkn : kk = k0 + 7 * (n : Int) := by rw [hin]; omega
    subst hkn
    (repeat' (first | refine nI ?_ | (refine nA ?_; intro _) | refine nY ?_ | refine nR ?_ | refine WC_cond rfl (fun hc => ?_) (fun hc => ?_)))
    refine ro_ret (by exact kR) (by exact kL) ?_; rfl
theorem c_heldMsg {L : List Ent} (m : Msg) (s : Sl) (n : Nat) (h : SliceAt L encSeal s (marks 1 n)) (hn : n ≤ 1000) : RO Tryz.prog 10 [msgV m s, I 1] L (I (1 + 7 * (n : Int))) := by
  refine Tri.of Tryz.func10 rfl rfl Tryz.ntmps10 rfl rfl ?_
  (repeat' (first | refine nI ?_ | (refine nA ?_; intro _) | (refine nW ?_; first | (refine op_call_id ?_; refine op_ro rfl rfl (by exact c_heldSealS s 1 n (h.mono (by exact kS)) (by omega) hn) ?_)) | refine nY ?_ | refine nR ?_ | refine WC_cond rfl (fun hc => ?_) (fun hc => ?_)))
  refine ro_ret (by exact kR) (by exact kL) ?_; rfl
theorem c_markSealS {L L0 : List Ent} (s : Sl) (ss : List Seal) (es : List Ent) (hL : L.Perm (es ++ L0)) (hr : Row encSeal 39 s ss es) (k0 : Int) (hk : 0 ≤ k0 ∧ k0 ≤ 1000000) (hn : ss.length ≤ 1000) :
    Tri Tryz.prog 26 [s.v, I k0] L (fun v L' => ∃ es', v = I (k0 + 7 * (ss.length : Int)) ∧ Row encSeal 39 s (marks k0 ss.length) es' ∧ L' = es' ++ L0) := by
  refine Tri.perm ?_ hL
  obtain ⟨a, nn, c⟩ := s
  have hnn := hr.n
  dsimp only at hnn
  subst hnn
  rcases Nat.eq_zero_or_pos ss.length with h0 | hpos
  · have h00 : ss = [] := List.eq_nil_of_length_eq_zero h0
    subst h00
    refine Tri.of Tryz.func26 rfl rfl Tryz.ntmps26 rfl rfl ?_
    (repeat' (first | refine nI ?_ | (refine nA ?_; intro _) | refine nY ?_ | refine nR ?_ | refine WC_cond rfl (fun hc => ?_) (fun hc => ?_)))
    refine WC_loop (fun mz Ez Mz => ∃ k : Nat, k + mz = (([] : List Seal)).length ∧ Ez = [(0, .slice a 0 c), (1, I k0), (5, I k)] ∧ Mz = es ++ L0 ∧ (True)) (([] : List Seal)).length (by exact kQ) (by exact kL) ⟨0, by omega, rfl, rfl, by trivial⟩ ?_
    rintro mz Ez Mz ⟨k, hk, rfl, rfl, hin⟩
    rcases Nat.lt_or_ge k (([] : List Seal)).length with hlt | hge
    · exact absurd hlt (by simp)
    (repeat' (first | refine nI ?_ | (refine nA ?_; intro _) | refine nY ?_ | refine nR ?_ | refine WC_cond rfl (fun hc => ?_) (fun hc => ?_)))
    refine ret_ret (by exact kR) ?_; exact ⟨es ++ L0, by exact kP, es, by simp [packR], hr, rfl⟩
  obtain ⟨g, cap, rest, hsl, rfl, h3, h4, h5⟩ := hr.block hpos
  cases hsl
  refine Tri.of Tryz.func26 rfl rfl Tryz.ntmps26 rfl rfl ?_
  (repeat' (first | refine nI ?_ | (refine nA ?_; intro _) | refine nY ?_ | refine nR ?_ | refine WC_cond rfl (fun hc => ?_) (fun hc => ?_)))
  refine WC_loop (fun mz Ez Mz => ∃ (k : Nat) (ms : List Seal) (kk : Int) (cells : List Value), k + mz = (ss).length ∧ Ez = [(0, .slice (some ⟨g, 0, none⟩) ss.length c), (1, I kk), (5, I k)] ∧ Mz = (g, cellsO cells 39) :: L0 ∧ (cells = encSeal.row ms ++ rest ∧ ms = marks k0 k ++ ss.drop k ∧ kk = k0 + 7 * (k : Int))) (ss).length (by exact kQ) (by exact kL) ⟨0, ss, k0, encSeal.row ss ++ rest, by omega, rfl, rfl, by exact ⟨rfl, by simp [marks], by omega⟩⟩ ?_
  rintro mz Ez Mz ⟨k, ms, kk, cells, hk, rfl, rfl, hin⟩
  rcases Nat.lt_or_ge k (ss).length with hlt | hge
  · obtain ⟨hcl, hms, hkk⟩ := hin
    have hmk := marks_len k0 k
    have hml : ms.length = ss.length := by rw [hms, List.length_append, List.length_drop, hmk]; omega
    obtain ⟨s, hs⟩ : ∃ s, ms[k]? = some s := ⟨ms[k]'(by omega), by simp [hml, hlt]⟩
    have hset : ms.set k s = ms := by
      apply List.ext_getElem?
      intro i
      rw [List.getElem?_set]
      split
      · rename_i he
        subst he
        split
        · exact hs.symm
        · rename_i hc; exact absurd (by omega) hc
      · rfl
    have hrl : (encSeal.row ms).length = ms.length * 7 := encSeal.row_length ms
    obtain ⟨cc, hcc⟩ : ∃ cc, cells = cc := ⟨_, rfl⟩
    have hput : cells = putC cc (0 + ((k : Int)).toNat * 7) (sealC s) := by
      have h1 := row_set encSeal ms s rest (i := k) (by omega)
      rw [hset, ← hcl] at h1
      rw [← hcc, Nat.zero_add]
      exact h1.symm
    have hlen : 0 + ((k : Int)).toNat * 7 + (sealC s).length ≤ cc.length := by
      rw [← hcc, hcl, List.length_append, hrl]
      show 0 + k * 7 + 7 ≤ _
      omega
    have hcl9 : putC cc (0 + ((k : Int)).toNat * 7) (sealC (markAt kk)) = encSeal.row (ms.set k (markAt kk)) ++ rest := by
      have h1 := row_set encSeal ms (markAt kk) rest (i := k) (by omega)
      rw [← hcc, hcl, Nat.zero_add]
      exact h1
    have hms9 : ms.set k (markAt kk) = marks k0 (k + 1) ++ ss.drop (k + 1) := by
      rw [hms, List.set_append_right _ _ (by omega), hmk, Nat.sub_self, marks_next, List.append_assoc]
      congr 1
      rw [List.drop_eq_getElem_cons hlt, List.set_cons_zero, hkk]
      rfl
    rw [hput]
    (repeat' (first | refine nI ?_ | (refine nA ?_; intro _) | refine nY ?_ | refine nR ?_ | refine WC_cond rfl (fun hc => ?_) (fun hc => ?_)))
    exact loopQ_next ⟨mz - 1, _, _, by omega, by exact kQ, by exact kL, k + 1, ms.set k (markAt kk), kk + 1 + 1 + 1 + 1 + 1 + 1 + 1, putC cc (0 + ((k : Int)).toNat * 7) (sealC (markAt kk)), by omega, rfl, rfl, by exact ⟨hcl9, hms9, by omega⟩⟩
  · obtain ⟨hcl, hms, hkk⟩ := hin
    have hk9 : k = ss.length := by omega
    subst hk9
    rw [List.drop_length, List.append_nil] at hms
    subst hms hcl
    have hfin := Row.mk (E := encSeal) (T := 39) (g := g) (cap := c) (rest := rest) (xs := marks k0 ss.length) (by rw [marks_len]; exact h3) (by rw [marks_len]; exact h4) h5 (by rw [marks_len]; exact hr.2)
    rw [marks_len] at hfin
    rw [hkk]
    (repeat' (first | refine nI ?_ | (refine nA ?_; intro _) | refine nY ?_ | refine nR ?_ | refine WC_cond rfl (fun hc => ?_) (fun hc => ?_)))
    refine ret_ret (by exact kR) ?_; exact ⟨(g, cellsO (encSeal.row (marks k0 ss.length) ++ rest) 39) :: L0, by exact kP, [(g, cellsO (encSeal.row (marks k0 ss.length) ++ rest) 39)], rfl, hfin, rfl⟩
theorem c_markMsg {L L0 : List Ent} (m : Msg) (s : Sl) (es : List Ent) (hL : L.Perm (es ++ L0)) (hr : Row encSeal 39 s m.seals es) (hn : m.seals.length ≤ 1000) :
    Tri Tryz.prog 9 [msgV m s, I 1] L (fun v L' => ∃ es', v = I (1 + 7 * (m.seals.length : Int)) ∧ Row encSeal 39 s (marks 1 m.seals.length) es' ∧ L' = es' ++ L0) := by
  refine Tri.perm ?_ hL
  refine Tri.of Tryz.func9 rfl rfl Tryz.ntmps9 rfl rfl ?_
  (repeat' (first | refine nI ?_ | (refine nA ?_; intro _) | (refine nW ?_; first | (refine op_call_id ?_; refine op_call rfl (c_markSealS s m.seals es (by exact kE) hr 1 (by omega) hn) rfl ?_; rintro _ _ ⟨es', rfl, hr', rfl⟩)) | refine nY ?_ | refine nR ?_ | refine WC_cond rfl (fun hc => ?_) (fun hc => ?_)))
  refine ret_ret (by exact kR) ?_; exact ⟨es' ++ L0, by exact kP, es', rfl, hr', rfl⟩
theorem c_markNil {L : List Ent} (k0 : Int) (hk : 0 ≤ k0 ∧ k0 ≤ 1000000) : RO Tryz.prog 26 [.slice none 0 0, I k0] L (I k0) := by
  refine Tri.of Tryz.func26 rfl rfl Tryz.ntmps26 rfl rfl ?_
  (repeat' (first | refine nI ?_ | (refine nA ?_; intro _) | refine nY ?_ | refine nR ?_ | refine WC_cond rfl (fun hc => ?_) (fun hc => ?_)))
  refine WC_loop (fun mz Ez Mz => ∃ k : Nat, k + mz = (([] : List Seal)).length ∧ Ez = [(0, .slice none 0 0), (1, I k0), (5, I k)] ∧ Mz = L ∧ (True)) (([] : List Seal)).length (by exact kQ) (by exact kL) ⟨0, by omega, rfl, rfl, by trivial⟩ ?_
  rintro mz Ez Mz ⟨k, hk, rfl, rfl, hin⟩
  rcases Nat.lt_or_ge k (([] : List Seal)).length with hlt | hge
  · exact absurd hlt (by simp)
  (repeat' (first | refine nI ?_ | (refine nA ?_; intro _) | refine nY ?_ | refine nR ?_ | refine WC_cond rfl (fun hc => ?_) (fun hc => ?_)))
  refine ro_ret (by exact kR) (by exact kL) ?_; rfl
theorem c_markMsg0 {L : List Ent} : RO Tryz.prog 9 [msgV Msg.zero Sl.nil, I 1] L (I 1) := by
  refine Tri.of Tryz.func9 rfl rfl Tryz.ntmps9 rfl rfl ?_
  (repeat' (first | refine nI ?_ | (refine nA ?_; intro _) | (refine nW ?_; first | (refine op_call_id ?_; refine op_ro rfl rfl (by exact c_markNil 1 (by omega)) ?_)) | refine nY ?_ | refine nR ?_ | refine WC_cond rfl (fun hc => ?_) (fun hc => ?_)))
  refine ro_ret (by exact kR) (by exact kL) ?_; rfl
theorem c_heldNil {L : List Ent} (k0 : Int) (hk : 0 ≤ k0 ∧ k0 ≤ 1000000) : RO Tryz.prog 27 [.slice none 0 0, I k0] L (I k0) := by
  refine Tri.of Tryz.func27 rfl rfl Tryz.ntmps27 rfl rfl ?_
  (repeat' (first | refine nI ?_ | (refine nA ?_; intro _) | refine nY ?_ | refine nR ?_ | refine WC_cond rfl (fun hc => ?_) (fun hc => ?_)))
  refine WC_loop (fun mz Ez Mz => ∃ k : Nat, k + mz = (([] : List Seal)).length ∧ Ez = [(0, .slice none 0 0), (1, I k0), (5, I k)] ∧ Mz = L ∧ (True)) (([] : List Seal)).length (by exact kQ) (by exact kL) ⟨0, by omega, rfl, rfl, by trivial⟩ ?_
  rintro mz Ez Mz ⟨k, hk, rfl, rfl, hin⟩
  rcases Nat.lt_or_ge k (([] : List Seal)).length with hlt | hge
  · exact absurd hlt (by simp)
  (repeat' (first | refine nI ?_ | (refine nA ?_; intro _) | refine nY ?_ | refine nR ?_ | refine WC_cond rfl (fun hc => ?_) (fun hc => ?_)))
  refine ro_ret (by exact kR) (by exact kL) ?_; rfl
theorem c_heldMsg0 {L : List Ent} : RO Tryz.prog 10 [msgV Msg.zero Sl.nil, I 1] L (I 1) := by
  refine Tri.of Tryz.func10 rfl rfl Tryz.ntmps10 rfl rfl ?_
  (repeat' (first | refine nI ?_ | (refine nA ?_; intro _) | (refine nW ?_; first | (refine op_call_id ?_; refine op_ro rfl rfl (by exact c_heldNil 1 (by omega)) ?_)) | refine nY ?_ | refine nR ?_ | refine WC_cond rfl (fun hc => ?_) (fun hc => ?_)))
  refine ro_ret (by exact kR) (by exact kL) ?_; rfl
end Go.Proofs.YtoledfhjmdpihaaGreatDoor
