/- The reference: users ask. -/
import Derived.Test.YtoledfhjmdpihaaGreatA5
import Derived.Test.YtoledfhjmdpihaaGreatA1
set_option linter.unusedVariables false
set_option linter.unusedSectionVars false
set_option linter.unusedSimpArgs false
namespace Go.Proofs.YtoledfhjmdpihaaGreat
open Go Go.Proofs Go.Proofs.YtoledfhjmdpihaaGreat.VE
attribute [local irreducible] Val Op1 WO WR WA WC seqQ blockQ loopQ retQ
noncomputable def o135x5L31 : Array Oper := cops (cl (cr (cr (cr (cr (codeOf Tryz.f135))))))
noncomputable def o136x4L31 : Array Oper := cops (cl (cr (cr (cr (codeOf Tryz.f136)))))
noncomputable def o136x7L31 : Array Oper := cops (cl (cr (cr (cr (cr (cr (cr (codeOf Tryz.f136))))))))
noncomputable def o137x7L31 : Array Oper := cops (cl (cr (cr (cr (cr (cr (cr (codeOf Tryz.f137))))))))
noncomputable def r135x5L31 : Run := (.st 0 1 (.st 1 0 (.st 2 1 (.st 3 0 (.st 4 1 (.alt (.st 5 2 (.st 6 0 (.st 7 2 (.st 8 3 (.st 9 0 .done))))) (.st 7 2 (.st 5 2 (.st 6 0 (.st 8 3 (.st 9 0 .done)))))))))))
noncomputable def r136x4L31 : Run := (.st 0 0 (.st 1 1 (.st 2 0 (.st 3 1 (.st 4 0 (.st 5 0 (.st 6 0 (.st 7 1 (.st 8 0 (.st 9 0 (.st 10 1 (.st 11 0 (.alt (.st 12 3 (.st 13 3 (.st 14 3 .done))) (.st 13 2 (.st 12 3 (.st 14 3 .done))))))))))))))))
noncomputable def r136x7L31 : Run := (.st 0 1 (.st 1 0 (.st 2 0 (.st 3 1 (.st 4 0 (.st 5 1 (.st 6 0 (.st 7 0 (.st 8 0 (.st 9 1 (.st 10 1 (.alt (.st 11 2 (.st 12 0 (.st 13 2 (.st 14 3 (.st 15 0 .done))))) (.st 13 2 (.st 11 2 (.st 12 0 (.st 14 3 (.st 15 0 .done)))))))))))))))))
noncomputable def r137x7L31 : Run := (.st 0 1 (.st 1 0 (.st 2 0 (.st 3 1 (.st 4 0 (.st 5 0 (.st 6 0 (.st 7 1 (.st 8 0 (.st 9 1 (.st 10 0 (.st 11 0 (.st 12 0 (.st 13 1 (.st 14 2 (.alt (.st 15 2 (.st 16 0 (.st 17 3 (.st 18 3 (.st 19 0 .done))))) (.st 17 2 (.st 15 3 (.st 16 0 (.st 18 3 (.st 19 0 .done)))))))))))))))))))))
set_option maxHeartbeats 4000000
theorem c_l12Cred {L : List Ent} (cl : Client) (s : CSl) (serv : Int) (hc : SliceAt L encCred s.c cl.creds) : RO Tryz.prog 127 [clientV cl s, I serv] L (I (credIdx cl serv)) := by
  obtain ⟨sw, ⟨a, n, cap⟩, ss, sm⟩ := s
  obtain ⟨hn', hcap, hbig, hat⟩ := hc
  dsimp only at hn' hat
  subst hn'
  simp only [big] at hbig
  refine Tri.of Tryz.func127 rfl rfl Tryz.ntmps127 rfl rfl ?_
  (repeat' (first | refine nX ?_ | (refine nA ?_; intro _) | refine nY ?_ | refine nR ?_))
  rename_i b2
  refine WC_loop (fun mz Ez Mz => ∃ k : Nat, k + mz = (cl.creds).length ∧ Ez = [(1, I serv), (2, .pointer (some ⟨b2, 0, none⟩)), (5, I k)] ∧ Mz = (b2, cellsO (clientC cl ⟨sw, ⟨a, cl.creds.length, cap⟩, ss, sm⟩) 112) :: L ∧ (∀ y ∈ cl.creds.take k, (fun x : Cred => x.serv == serv) y = false)) (cl.creds).length (by exact kQ) (by exact kL) ⟨0, by omega, rfl, rfl, by simp⟩ ?_
  rintro mz Ez Mz ⟨k, hk, rfl, rfl, hin⟩
  rcases Nat.lt_or_ge k (cl.creds).length with hlt | hge
  · obtain ⟨y2, hy2⟩ : ∃ y, (cl.creds)[k]? = some y := ⟨(cl.creds)[k]'(by omega), by simp [hlt]⟩; obtain ⟨b'2, o2, cs2, T2, fr2, rfl, hm2, hrow2⟩ := hat (by omega); have hrow'2 := hrow2 k y2 hy2; have htk2 := take_next hy2
    by_cases he : y2.serv = serv
    · (repeat' (first | refine nI ?_ | (refine nA ?_; intro _) | refine nY ?_ | refine nR ?_ | refine WC_cond rfl (fun hc => ?_) (fun hc => ?_)))
      have hi : credIdx cl serv = k := idx_some hy2 (by simpa using he) hin
      rw [hi]
      refine ro_ret (by exact kR) (by exact kL) ?_; rfl
    · (repeat' (first | refine nI ?_ | (refine nA ?_; intro _) | refine nY ?_ | refine nR ?_ | refine WC_cond rfl (fun hc => ?_) (fun hc => ?_)))
      exact loopQ_next ⟨mz - 1, _, _, by omega, by exact kQ, by exact kL, k + 1, by omega, rfl, rfl, by rw [htk2]; exact all_next hin (by simpa using he)⟩
  · rw [take_all hge] at hin
    (repeat' (first | refine nI ?_ | (refine nA ?_; intro _) | refine nY ?_ | refine nR ?_ | refine WC_cond rfl (fun hc => ?_) (fun hc => ?_)))
    have hi : credIdx cl serv = -1 := idx_none hin
    rw [hi]
    refine ro_ret (by exact kR) (by exact kL) ?_; rfl
theorem usable_at {cl : Client} {serv now giver many : Int} {x : Cred} (hu : usable cl giver serv now many = some x) : ∃ j : Nat, credIdx cl giver = j ∧ cl.creds[j]? = some x ∧ cl.num + many ≤ 60 ∧ servOk serv = true ∧ now ≤ x.til := by
  rcases credIdx_cases cl giver with ⟨h1, h2⟩ | ⟨j, y, h1, h2, h3, h4⟩
  · simp only [usable, h2] at hu; cases hu
  · simp only [usable, h4] at hu
    by_cases hc : 60 < cl.num + many ∨ servOk serv = false ∨ y.til < now
    · rw [if_pos hc] at hu; cases hu
    · rw [if_neg hc] at hu
      cases hu
      rw [not_or, not_or] at hc
      exact ⟨j, h1, h2, by omega, by simpa using hc.2.1, by omega⟩
/-- What a user comes to who is handed on whole, and what he answers. -/
def CliV (L0 : List Ent) (r : Client × Option Msg) (v : Value) (L' : List Ent) : Prop := ∃ s' es' em m sm ok, v = .tuple [clientV r.1 s', msgV m sm, B ok].toArray ∧ CliOwn (r.1, s') es' ∧ Row encSeal 155 sm m.seals em ∧ r.2 = (if ok then some m else none) ∧ L' = em ++ (es' ++ L0)
section
variable {L0 : List Ent} (cl : Client) (s : CSl) (es : List Ent) (hn : 0 ≤ cl.num ∧ cl.num ≤ 60) (hw : cl.wants.length ≤ 100) (hs : cl.sent.length ≤ 100) (hown : CliOwn (cl, s) es)
include hn hw hs hown
theorem c_l12As : Tri Tryz.prog 135 [clientV cl s] (es ++ L0) (CliV L0 (clientAs cl)) := by
  by_cases h60 : 60 ≤ cl.num
  · have he : clientAs cl = (cl, none) := by unfold clientAs; exact if_pos h60
    rw [he]
    refine Tri.of Tryz.func135 rfl rfl Tryz.ntmps135 rfl rfl ?_
    (repeat' (first | refine nI ?_ | (refine nA ?_; intro _) | refine nY ?_ | refine WA_alt ?_ ?_ | refine nR ?_ | refine WC_drawL (id := 5) (ops := o135x5L31) r135x5L31 (by kernel_rfl) rfl ?_ | refine WC_cond rfl (fun hc => ?_) (fun hc => ?_)))
    refine ret_ret (by exact kR) ?_; exact ⟨es ++ L0, by exact kP, s, es, [], Msg.zero, Sl.nil, false, rfl, hown, Row.nil, rfl, rfl⟩
  · have he : clientAs cl = ({ cl with num := cl.num + 1, wants := cl.wants ++ [⟨6, cl.num + 1⟩] }, some ⟨1, cl.id, 0, cl.num + 1, []⟩) := by unfold clientAs; exact if_neg (by omega)
    rw [he]
    obtain ⟨⟨a1, n1, c1⟩, sc, ss, sm⟩ := s
    obtain ⟨e1, e2, e3, e4, rfl, h1, h2, h3, h4⟩ := hown
    dsimp only at h1 h2 h3 h4
    simp only [List.append_assoc]
    refine Tri.of Tryz.func135 rfl rfl Tryz.ntmps135 rfl rfl ?_
    (repeat' (first | refine nI ?_ | (refine nA ?_; intro _) | (refine nW ?_; first | (refine go_append ?_; refine op_appendRow (sl := ⟨_, _, _⟩) (sx := ⟨_, _, _⟩) rfl rfl rfl rfl rfl rfl rfl rfl rfl (h1) (by exact kE) (SliceAt.one (x := (⟨6, cl.num + 1⟩ : Want)) (by exact kM) rfl) (by exact kN) ?_; intro sl' es' hrow' hst')) | refine nY ?_ | refine WA_alt ?_ ?_ | refine nR ?_ | refine WC_cond rfl (fun hc => ?_) (fun hc => ?_)))
    rename_i b1 b2 b3 b4
    (repeat' (first | refine nX ?_ | (refine nA ?_; intro _) | refine nY ?_ | refine WA_alt ?_ ?_ | refine nR ?_ | refine WC_draw (id := 5) (ops := o135x5L31) ([(b1, cellsO [I cl.id, I (cl.num + 1), sl'.v, sc.v, ss.v, sm.v] 112)]) r135x5L31 (by kernel_rfl) rfl ?_))
    all_goals (refine ret_ret (by exact kR) ?_; exact ⟨es' ++ (e2 ++ (e3 ++ (e4 ++ L0))), by exact kP, ⟨sl', sc, ss, sm⟩, es' ++ (e2 ++ (e3 ++ e4)), [], ⟨1, cl.id, 0, cl.num + 1, []⟩, ⟨_, 0, 0⟩, true, rfl, ⟨es', e2, e3, e4, rfl, hrow', h2, h3, h4⟩, Row.nil, rfl, by simp⟩)
variable (serv now : Int)
theorem c_l12Tgs0 (hu : usable cl 6 serv now 2 = none) : Tri Tryz.prog 136 [clientV cl s, I serv, I now] (es ++ L0) (CliV L0 (clientTgs cl serv now)) := by
  have he : clientTgs cl serv now = (cl, none) := by unfold clientTgs; rw [hu]
  rw [he]
  have hat : SliceAt es encCred s.c cl.creds := hown.at.c
  obtain ⟨sw, ⟨a, n, cap⟩, ss, sm⟩ := s
  dsimp only at hat
  have hcat := hat
  obtain ⟨hn', hcap, hbig, hrd⟩ := hat
  dsimp only at hn' hrd
  subst hn'
  simp only [big] at hbig
  rcases credIdx_cases cl 6 with ⟨h1, h2⟩ | ⟨j, y, h1, h2, h3, h4⟩
  · have h1' : credIdx cl 6 < 0 := by omega
    refine Tri.of Tryz.func136 rfl rfl Tryz.ntmps136 rfl rfl ?_
    (repeat' (first | refine nI ?_ | (refine nA ?_; intro _) | (refine nW ?_; first | (refine op_call_id ?_; refine op_ro rfl rfl (by exact c_l12Cred cl ⟨sw, _, ss, sm⟩ _ (hcat.mono (by exact kS))) ?_)) | refine nY ?_ | refine WA_alt ?_ ?_ | refine nR ?_ | refine WC_drawL (id := 4) (ops := o136x4L31) r136x4L31 (by kernel_rfl) rfl ?_ | refine WC_drawL (id := 7) (ops := o136x7L31) r136x7L31 (by kernel_rfl) rfl ?_ | refine WC_cond rfl (fun hc => ?_) (fun hc => ?_)))
    refine ret_ret (by exact kR) ?_; exact ⟨es ++ L0, by exact kP, ⟨sw, ⟨a, cl.creds.length, cap⟩, ss, sm⟩, es, [], Msg.zero, Sl.nil, false, rfl, hown, Row.nil, rfl, rfl⟩
  · have hlt := (List.getElem?_eq_some_iff.1 h2).1
    obtain ⟨b', o', cs, T', fr, rfl, hmem, hrow⟩ := hrd (by omega)
    have hrow' := hrow j y h2
    have hu' : 60 < cl.num + 2 ∨ servOk serv = false ∨ y.til < now := by
      simp only [usable, h4] at hu
      by_cases hc : 60 < cl.num + 2 ∨ servOk serv = false ∨ y.til < now
      · exact hc
      · rw [if_neg hc] at hu; cases hu
    by_cases a1 : y.til < now
    · refine Tri.of Tryz.func136 rfl rfl Tryz.ntmps136 rfl rfl ?_
      (repeat' (first | refine nI ?_ | (refine nA ?_; intro _) | (refine nW ?_; first | (refine op_call_id ?_; refine op_ro rfl rfl (by exact (c_l12Cred cl ⟨sw, _, ss, sm⟩ _ (hcat.mono (by exact kS))).eq (by rw [h1])) ?_)) | refine nY ?_ | refine WA_alt ?_ ?_ | refine nR ?_ | refine WC_drawL (id := 4) (ops := o136x4L31) r136x4L31 (by kernel_rfl) rfl ?_ | refine WC_drawL (id := 7) (ops := o136x7L31) r136x7L31 (by kernel_rfl) rfl ?_ | refine WC_cond rfl (fun hc => ?_) (fun hc => ?_)))
      refine ret_ret (by exact kR) ?_; exact ⟨es ++ L0, by exact kP, ⟨sw, ⟨some ⟨b', o', none⟩, cl.creds.length, cap⟩, ss, sm⟩, es, [], Msg.zero, Sl.nil, false, rfl, hown, Row.nil, rfl, rfl⟩
    by_cases a2 : 60 < cl.num + 2
    · refine Tri.of Tryz.func136 rfl rfl Tryz.ntmps136 rfl rfl ?_
      (repeat' (first | refine nI ?_ | (refine nA ?_; intro _) | (refine nW ?_; first | (refine op_call_id ?_; refine op_ro rfl rfl (by exact (c_l12Cred cl ⟨sw, _, ss, sm⟩ _ (hcat.mono (by exact kS))).eq (by rw [h1])) ?_)) | refine nY ?_ | refine WA_alt ?_ ?_ | refine nR ?_ | refine WC_drawL (id := 4) (ops := o136x4L31) r136x4L31 (by kernel_rfl) rfl ?_ | refine WC_drawL (id := 7) (ops := o136x7L31) r136x7L31 (by kernel_rfl) rfl ?_ | refine WC_cond rfl (fun hc => ?_) (fun hc => ?_)))
      refine ret_ret (by exact kR) ?_; exact ⟨es ++ L0, by exact kP, ⟨sw, ⟨some ⟨b', o', none⟩, cl.creds.length, cap⟩, ss, sm⟩, es, [], Msg.zero, Sl.nil, false, rfl, hown, Row.nil, rfl, rfl⟩
    have a3 : servOk serv = false := by
      rcases hu' with h | h | h
      · exact (a2 h).elim
      · exact h
      · exact (a1 h).elim
    refine Tri.of Tryz.func136 rfl rfl Tryz.ntmps136 rfl rfl ?_
    (repeat' (first | refine nI ?_ | (refine nA ?_; intro _) | (refine nW ?_; first | (refine op_call_id ?_; refine op_ro rfl rfl (by first | exact (c_l12Cred cl ⟨sw, _, ss, sm⟩ _ (hcat.mono (by exact kS))).eq (by rw [h1]) | exact (c_l1Serv _).eq (congrArg B a3)) ?_)) | refine nY ?_ | refine WA_alt ?_ ?_ | refine nR ?_ | refine WC_drawL (id := 4) (ops := o136x4L31) r136x4L31 (by kernel_rfl) rfl ?_ | refine WC_drawL (id := 7) (ops := o136x7L31) r136x7L31 (by kernel_rfl) rfl ?_ | refine WC_cond rfl (fun hc => ?_) (fun hc => ?_)))
    refine ret_ret (by exact kR) ?_; exact ⟨es ++ L0, by exact kP, ⟨sw, ⟨some ⟨b', o', none⟩, cl.creds.length, cap⟩, ss, sm⟩, es, [], Msg.zero, Sl.nil, false, rfl, hown, Row.nil, rfl, rfl⟩
theorem c_l12Ap0 (hu : usable cl serv serv now 1 = none) : Tri Tryz.prog 137 [clientV cl s, I serv, I now] (es ++ L0) (CliV L0 (clientAp cl serv now)) := by
  have he : clientAp cl serv now = (cl, none) := by unfold clientAp; rw [hu]
  rw [he]
  have hat : SliceAt es encCred s.c cl.creds := hown.at.c
  obtain ⟨sw, ⟨a, n, cap⟩, ss, sm⟩ := s
  dsimp only at hat
  have hcat := hat
  obtain ⟨hn', hcap, hbig, hrd⟩ := hat
  dsimp only at hn' hrd
  subst hn'
  simp only [big] at hbig
  rcases credIdx_cases cl serv with ⟨h1, h2⟩ | ⟨j, y, h1, h2, h3, h4⟩
  · have h1' : credIdx cl serv < 0 := by omega
    refine Tri.of Tryz.func137 rfl rfl Tryz.ntmps137 rfl rfl ?_
    (repeat' (first | refine nI ?_ | (refine nA ?_; intro _) | (refine nW ?_; first | (refine op_call_id ?_; refine op_ro rfl rfl (by exact c_l12Cred cl ⟨sw, _, ss, sm⟩ _ (hcat.mono (by exact kS))) ?_)) | refine nY ?_ | refine WA_alt ?_ ?_ | refine nR ?_ | refine WC_drawL (id := 7) (ops := o137x7L31) r137x7L31 (by kernel_rfl) rfl ?_ | refine WC_cond rfl (fun hc => ?_) (fun hc => ?_)))
    refine ret_ret (by exact kR) ?_; exact ⟨es ++ L0, by exact kP, ⟨sw, ⟨a, cl.creds.length, cap⟩, ss, sm⟩, es, [], Msg.zero, Sl.nil, false, rfl, hown, Row.nil, rfl, rfl⟩
  · have hlt := (List.getElem?_eq_some_iff.1 h2).1
    obtain ⟨b', o', cs, T', fr, rfl, hmem, hrow⟩ := hrd (by omega)
    have hrow' := hrow j y h2
    have hu' : 60 < cl.num + 1 ∨ servOk serv = false ∨ y.til < now := by
      simp only [usable, h4] at hu
      by_cases hc : 60 < cl.num + 1 ∨ servOk serv = false ∨ y.til < now
      · exact hc
      · rw [if_neg hc] at hu; cases hu
    by_cases a1 : y.til < now
    · refine Tri.of Tryz.func137 rfl rfl Tryz.ntmps137 rfl rfl ?_
      (repeat' (first | refine nI ?_ | (refine nA ?_; intro _) | (refine nW ?_; first | (refine op_call_id ?_; refine op_ro rfl rfl (by exact (c_l12Cred cl ⟨sw, _, ss, sm⟩ _ (hcat.mono (by exact kS))).eq (by rw [h1])) ?_)) | refine nY ?_ | refine WA_alt ?_ ?_ | refine nR ?_ | refine WC_drawL (id := 7) (ops := o137x7L31) r137x7L31 (by kernel_rfl) rfl ?_ | refine WC_cond rfl (fun hc => ?_) (fun hc => ?_)))
      refine ret_ret (by exact kR) ?_; exact ⟨es ++ L0, by exact kP, ⟨sw, ⟨some ⟨b', o', none⟩, cl.creds.length, cap⟩, ss, sm⟩, es, [], Msg.zero, Sl.nil, false, rfl, hown, Row.nil, rfl, rfl⟩
    by_cases a2 : 60 < cl.num + 1
    · refine Tri.of Tryz.func137 rfl rfl Tryz.ntmps137 rfl rfl ?_
      (repeat' (first | refine nI ?_ | (refine nA ?_; intro _) | (refine nW ?_; first | (refine op_call_id ?_; refine op_ro rfl rfl (by exact (c_l12Cred cl ⟨sw, _, ss, sm⟩ _ (hcat.mono (by exact kS))).eq (by rw [h1])) ?_)) | refine nY ?_ | refine WA_alt ?_ ?_ | refine nR ?_ | refine WC_drawL (id := 7) (ops := o137x7L31) r137x7L31 (by kernel_rfl) rfl ?_ | refine WC_cond rfl (fun hc => ?_) (fun hc => ?_)))
      refine ret_ret (by exact kR) ?_; exact ⟨es ++ L0, by exact kP, ⟨sw, ⟨some ⟨b', o', none⟩, cl.creds.length, cap⟩, ss, sm⟩, es, [], Msg.zero, Sl.nil, false, rfl, hown, Row.nil, rfl, rfl⟩
    have a3 : servOk serv = false := by
      rcases hu' with h | h | h
      · exact (a2 h).elim
      · exact h
      · exact (a1 h).elim
    refine Tri.of Tryz.func137 rfl rfl Tryz.ntmps137 rfl rfl ?_
    (repeat' (first | refine nI ?_ | (refine nA ?_; intro _) | (refine nW ?_; first | (refine op_call_id ?_; refine op_ro rfl rfl (by first | exact (c_l12Cred cl ⟨sw, _, ss, sm⟩ _ (hcat.mono (by exact kS))).eq (by rw [h1]) | exact (c_l1Serv _).eq (congrArg B a3)) ?_)) | refine nY ?_ | refine WA_alt ?_ ?_ | refine nR ?_ | refine WC_drawL (id := 7) (ops := o137x7L31) r137x7L31 (by kernel_rfl) rfl ?_ | refine WC_cond rfl (fun hc => ?_) (fun hc => ?_)))
    refine ret_ret (by exact kR) ?_; exact ⟨es ++ L0, by exact kP, ⟨sw, ⟨some ⟨b', o', none⟩, cl.creds.length, cap⟩, ss, sm⟩, es, [], Msg.zero, Sl.nil, false, rfl, hown, Row.nil, rfl, rfl⟩
end
end Go.Proofs.YtoledfhjmdpihaaGreat
/- The reference: users hear. -/
set_option linter.unusedVariables false
set_option linter.unusedSectionVars false
set_option linter.unusedSimpArgs false
namespace Go.Proofs.YtoledfhjmdpihaaGreat
open Go Go.Proofs Go.Proofs.YtoledfhjmdpihaaGreat.VE
attribute [local irreducible] Val Op1 WO WR WA WC seqQ blockQ loopQ retQ
noncomputable def o215x5L32 : Array Oper := cops (cl (cl (cr (cl (cl (cr (cl (cl (cr (cl (cr (codeOf Tryz.f215))))))))))))
noncomputable def r215x5L32 : Run := (.st 1 0 (.st 2 1 (.st 3 0 (.st 4 0 (.st 6 0 (.st 7 1 (.st 8 0 (.st 9 0 (.st 10 0 (.st 0 2 (.st 5 2 (.st 11 3 (.st 12 0 (.st 13 3 .done))))))))))))))
set_option maxHeartbeats 4000000
theorem frontA {e L L1 M : List Ent} (h : L.Perm (e ++ L1)) (k : L1.Perm M) : L.Perm (e ++ M) := h.trans (k.append_left e)
/-- What a user comes to who is handed on whole. -/
def CliW (L0 : List Ent) (r : Client) (v : Value) (L' : List Ent) : Prop := ∃ s' es', v = clientV r s' ∧ CliOwn (r, s') es' ∧ L' = es' ++ L0
section
variable {L0 : List Ent} (cl : Client) (s : CSl) (es : List Ent) (hw : cl.wants.length ≤ 100) (hs : cl.creds.length ≤ 100) (hlen : cl.met.length + cl.sent.length ≤ 1000) (hown : CliOwn (cl, s) es)
include hw hs hlen hown
omit hown in
theorem c_l12TakeT (sw sc ss sm : Sl) (e1 : List Ent) (M : List Ent) (h1 : Row encWant 162 sw cl.wants e1) (serv nonce : Int) (hin0 : (⟨serv, nonce⟩ : Want) ∈ cl.wants) : Tri Tryz.prog 215 [clientV cl ⟨sw, sc, ss, sm⟩, I serv, I nonce] (e1 ++ M) (fun v L' => ∃ sw' e1', v = .tuple [clientV { cl with wants := cl.wants.erase ⟨serv, nonce⟩ } ⟨sw', sc, ss, sm⟩, B true].toArray ∧ Row encWant 162 sw' (cl.wants.erase ⟨serv, nonce⟩) e1' ∧ L' = e1' ++ M) := by
  obtain ⟨a, n, cap⟩ := sw
  have hcat := h1.at
  have hat := hcat
  obtain ⟨hn', hcap, hbig, hrd⟩ := hat
  dsimp only at hn' hrd hcap
  subst hn'
  simp only [big] at hbig
  refine Tri.of Tryz.func215 rfl rfl Tryz.ntmps215 rfl rfl ?_
  (repeat' (first | refine nX ?_ | (refine nA ?_; intro _) | refine nY ?_ | refine WA_alt ?_ ?_ | refine nR ?_ | refine WC_drawL (id := 5) (ops := o215x5L32) r215x5L32 (by kernel_rfl) rfl ?_))
  rename_i b3 b6
  refine WC_loop (fun mz Ez Mz => ∃ k : Nat, k + mz = (cl.wants).length ∧ Ez = [(1, I serv), (2, I nonce), (3, .pointer (some ⟨b3, 0, none⟩)), (6, .pointer (some ⟨b6, 0, none⟩)), (8, I k)] ∧ Mz = (b3, cellsO (clientC cl ⟨⟨a, cl.wants.length, cap⟩, sc, ss, sm⟩) 112) :: (b6, cellsO (clientC (clientNew 0) CSl.nil) 112) :: (e1 ++ M) ∧ (∀ y ∈ cl.wants.take k, y ≠ (⟨serv, nonce⟩ : Want))) (cl.wants).length (by exact kQ) (by exact kL) ⟨0, by omega, rfl, rfl, by simp⟩ ?_
  rintro mz Ez Mz ⟨k, hk, rfl, rfl, hin⟩
  rcases Nat.lt_or_ge k (cl.wants).length with hlt | hge
  · obtain ⟨y2, hy2⟩ : ∃ y, (cl.wants)[k]? = some y := ⟨(cl.wants)[k]'(by omega), by simp [hlt]⟩; obtain ⟨b'2, o2, cs2, T2, fr2, rfl, hm2, hrow2⟩ := hrd (by omega); have hrow'2 := hrow2 k y2 hy2; have htk2 := take_next hy2
    by_cases k1 : y2.serv = serv
    rotate_left
    · (repeat' (first | refine nI ?_ | (refine nA ?_; intro _) | refine nY ?_ | refine WA_alt ?_ ?_ | refine nR ?_ | refine WC_drawL (id := 5) (ops := o215x5L32) r215x5L32 (by kernel_rfl) rfl ?_ | refine WC_cond rfl (fun hc => ?_) (fun hc => ?_)))
      exact loopQ_next ⟨mz - 1, _, _, by omega, by exact kQ, by exact kL, k + 1, by omega, rfl, rfl, by rw [htk2]; exact all_next hin (fun e => k1 (by rw [e]))⟩
    by_cases k2 : y2.nonce = nonce
    rotate_left
    · (repeat' (first | refine nI ?_ | (refine nA ?_; intro _) | refine nY ?_ | refine WA_alt ?_ ?_ | refine nR ?_ | refine WC_drawL (id := 5) (ops := o215x5L32) r215x5L32 (by kernel_rfl) rfl ?_ | refine WC_cond rfl (fun hc => ?_) (fun hc => ?_)))
      exact loopQ_next ⟨mz - 1, _, _, by omega, by exact kQ, by exact kL, k + 1, by omega, rfl, rfl, by rw [htk2]; exact all_next hin (fun e => k2 (by rw [e]))⟩
    have hy : y2 = ⟨serv, nonce⟩ := by cases y2; simp_all
    subst hy
    have he1 := erase_idx _ _ _ hy2 hin
    rw [he1]
    have htake : SliceAt e1 encWant ⟨some ⟨b'2, o2, none⟩, k, cap⟩ (cl.wants.take k) := hcat.take (by omega)
    have hdrop : SliceAt e1 encWant ⟨cutA (some ⟨b'2, o2, none⟩) (k + 1) cap 2, cl.wants.length - (k + 1), cap - (k + 1)⟩ (cl.wants.drop (k + 1)) := hcat.drop (by omega)
    have hfin : ([] ++ cl.wants.take k) ++ cl.wants.drop (k + 1) = cl.wants.eraseIdx k := by rw [List.nil_append, List.eraseIdx_eq_take_drop_succ]
    (repeat' (first | refine nI ?_ | (refine nA ?_; intro _) | (refine nW ?_; first | (refine go_append ?_; refine op_appendRow (sl := ⟨_, _, _⟩) (sx := ⟨_, _, _⟩) rfl rfl rfl rfl rfl rfl rfl rfl rfl (Row.nil) (by exact kE) ((htake.mono (by exact kS))) (by (simp only [List.length_nil, List.length_take, lim]; omega)) ?_; intro sl' es' hrow' hst') | (refine go_append ?_; refine op_appendRow (sl := ⟨_, _, _⟩) (sx := ⟨_, _, _⟩) rfl rfl rfl rfl rfl rfl rfl rfl rfl (hrow') (by exact kE) ((hdrop.mono (by exact kS))) (by (simp only [List.length_take, List.length_drop, List.nil_append, lim]; omega)) ?_; intro sl' es' hrow' hst')) | refine nY ?_ | refine WA_alt ?_ ?_ | refine nR ?_ | refine WC_draw (id := 5) (ops := o215x5L32) ([(b3, cellsO (clientC cl ⟨⟨some ⟨b'2, o2, none⟩, cl.wants.length, cap⟩, sc, ss, sm⟩) 112)]) r215x5L32 (by kernel_rfl) rfl ?_ | refine WC_cond rfl (fun hc => ?_) (fun hc => ?_)))
    rw [hfin] at hrow'
    refine ret_ret (by exact kR) ?_; exact ⟨es' ++ M, by exact kP, sl', es', rfl, hrow', rfl⟩
  · exfalso
    rw [take_all hge] at hin
    exact hin _ hin0 rfl
omit hown in
theorem c_l12TakeF {L : List Ent} (hat0 : SliceAt L encWant s.w cl.wants) (serv nonce : Int) (hno : (⟨serv, nonce⟩ : Want) ∉ cl.wants) : RO Tryz.prog 215 [clientV cl s, I serv, I nonce] L (.tuple [clientV cl s, B false].toArray) := by
  obtain ⟨⟨a, n, cap⟩, sc, ss, sm⟩ := s
  obtain ⟨hn', hcap, hbig, hrd⟩ := hat0
  dsimp only at hn' hrd hcap
  subst hn'
  simp only [big] at hbig
  refine Tri.of Tryz.func215 rfl rfl Tryz.ntmps215 rfl rfl ?_
  (repeat' (first | refine nX ?_ | (refine nA ?_; intro _) | refine nY ?_ | refine WA_alt ?_ ?_ | refine nR ?_ | refine WC_drawL (id := 5) (ops := o215x5L32) r215x5L32 (by kernel_rfl) rfl ?_))
  rename_i b3 b6
  refine WC_loop (fun mz Ez Mz => ∃ k : Nat, k + mz = (cl.wants).length ∧ Ez = [(1, I serv), (2, I nonce), (3, .pointer (some ⟨b3, 0, none⟩)), (6, .pointer (some ⟨b6, 0, none⟩)), (8, I k)] ∧ Mz = (b3, cellsO (clientC cl ⟨⟨a, cl.wants.length, cap⟩, sc, ss, sm⟩) 112) :: (b6, cellsO (clientC (clientNew 0) CSl.nil) 112) :: L ∧ (True)) (cl.wants).length (by exact kQ) (by exact kL) ⟨0, by omega, rfl, rfl, by trivial⟩ ?_
  rintro mz Ez Mz ⟨k, hk, rfl, rfl, hin⟩
  rcases Nat.lt_or_ge k (cl.wants).length with hlt | hge
  · obtain ⟨y2, hy2⟩ : ∃ y, (cl.wants)[k]? = some y := ⟨(cl.wants)[k]'(by omega), by simp [hlt]⟩; obtain ⟨b'2, o2, cs2, T2, fr2, rfl, hm2, hrow2⟩ := hrd (by omega); have hrow'2 := hrow2 k y2 hy2; have htk2 := take_next hy2
    by_cases k1 : y2.serv = serv
    rotate_left
    · (repeat' (first | refine nI ?_ | (refine nA ?_; intro _) | refine nY ?_ | refine WA_alt ?_ ?_ | refine nR ?_ | refine WC_drawL (id := 5) (ops := o215x5L32) r215x5L32 (by kernel_rfl) rfl ?_ | refine WC_cond rfl (fun hc => ?_) (fun hc => ?_)))
      exact loopQ_next ⟨mz - 1, _, _, by omega, by exact kQ, by exact kL, k + 1, by omega, rfl, rfl, by trivial⟩
    by_cases k2 : y2.nonce = nonce
    rotate_left
    · (repeat' (first | refine nI ?_ | (refine nA ?_; intro _) | refine nY ?_ | refine WA_alt ?_ ?_ | refine nR ?_ | refine WC_drawL (id := 5) (ops := o215x5L32) r215x5L32 (by kernel_rfl) rfl ?_ | refine WC_cond rfl (fun hc => ?_) (fun hc => ?_)))
      exact loopQ_next ⟨mz - 1, _, _, by omega, by exact kQ, by exact kL, k + 1, by omega, rfl, rfl, by trivial⟩
    have hy : y2 = ⟨serv, nonce⟩ := by cases y2; simp_all
    exact (hno (hy ▸ List.mem_of_getElem? hy2)).elim
  · (repeat' (first | refine nI ?_ | (refine nA ?_; intro _) | refine nY ?_ | refine WA_alt ?_ ?_ | refine nR ?_ | refine WC_drawL (id := 5) (ops := o215x5L32) r215x5L32 (by kernel_rfl) rfl ?_ | refine WC_cond rfl (fun hc => ?_) (fun hc => ?_)))
    refine ro_ret (by exact kR) (by exact kL) ?_; rfl
theorem c_l12Back (sl : Seal) : Tri Tryz.prog 192 [clientV cl s, sealV sl] (es ++ L0) (CliW L0 (met cl sl)) := by
  obtain ⟨sw, sc, ⟨a3, n3, c3⟩, sm⟩ := s
  obtain ⟨e1, e2, e3, e4, rfl, h1, h2, h3, h4⟩ := hown
  dsimp only at h1 h2 h3 h4
  have hat3 := h3.at
  obtain ⟨hn3, hc3, hb3, hat⟩ := hat3
  dsimp only at hn3 hc3 hat
  subst hn3
  simp only [big] at hb3
  simp only [List.append_assoc]
  by_cases k1 : sl.kind = 4
  rotate_left
  · have hall : ∀ xs mt, metAll sl xs mt = mt := by
      intro xs
      induction xs with
      | nil => intro mt; rfl
      | cons x r ih => intro mt; simp only [metAll]; rw [if_neg (fun hh => k1 hh.1)]; exact ih mt
    have he : met cl sl = cl := by unfold met; rw [hall]
    rw [he]
    refine Tri.of Tryz.func192 rfl rfl Tryz.ntmps192 rfl rfl ?_
    (repeat' (first | refine nI ?_ | (refine nA ?_; intro _) | refine nY ?_ | refine nR ?_ | refine WC_cond rfl (fun hc => ?_) (fun hc => ?_)))
    refine ret_ret (by exact kR) ?_; exact ⟨e1 ++ (e2 ++ (e3 ++ (e4 ++ L0))), by exact kP, ⟨sw, sc, ⟨a3, cl.sent.length, c3⟩, sm⟩, e1 ++ (e2 ++ (e3 ++ e4)), rfl, ⟨e1, e2, e3, e4, rfl, h1, h2, h3, h4⟩, by simp⟩
  · refine Tri.of Tryz.func192 rfl rfl Tryz.ntmps192 rfl rfl ?_
    (repeat' (first | refine nI ?_ | (refine nA ?_; intro _) | refine nY ?_ | refine nR ?_ | refine WC_cond rfl (fun hc => ?_) (fun hc => ?_)))
    rename_i b2 b3 b4
    refine WC_loop (fun mz Ez Mz => ∃ (k : Nat) (mt : List Call) (a2 : Option Addr) (n2 c2 : Nat) (em : List Ent), k + mz = (cl.sent).length ∧ Ez = [(2, .pointer (some ⟨b2, 0, none⟩)), (3, .pointer (some ⟨b3, 0, none⟩)), (4, .pointer (some ⟨b4, 0, none⟩)), (5, I k)] ∧ Mz = (b2, cellsO [I cl.id, I cl.num, sw.v, sc.v, .slice a3 cl.sent.length c3, .slice a2 n2 c2] 112) :: (b3, cellsO (sealC sl) 155) :: (b4, cellsO (clientC (clientNew 0) CSl.nil) 112) :: (e1 ++ (e2 ++ (e3 ++ (em ++ L0)))) ∧ (Row encCall 169 ⟨a2, n2, c2⟩ mt em ∧ metAll sl (cl.sent.drop k) mt = metAll sl cl.sent cl.met ∧ mt.length ≤ cl.met.length + k)) (cl.sent).length (by exact kQ) (by exact kL) ⟨0, cl.met, sm.a, sm.n, sm.c, e4, by omega, rfl, rfl, by exact ⟨h4, rfl, by omega⟩⟩ ?_
    rintro mz Ez Mz ⟨k, mt, a2, n2, c2, em, hk, rfl, rfl, hin⟩
    rcases Nat.lt_or_ge k (cl.sent).length with hlt | hge
    · obtain ⟨hr, hma, hml⟩ := hin
      obtain ⟨y2, hy2⟩ : ∃ y, (cl.sent)[k]? = some y := ⟨(cl.sent)[k]'(by omega), by simp [hlt]⟩; obtain ⟨b'2, o2, cs2, T2, fr2, rfl, hm2, hrow2⟩ := hat (by omega); have hrow'2 := hrow2 k y2 hy2; have htk2 := take_next hy2
      rw [drop_cons hy2] at hma
      simp only [metAll] at hma
      by_cases k2 : y2.key = sl.key
      rotate_left
      · (repeat' (first | refine nI ?_ | (refine nA ?_; intro _) | refine nY ?_ | refine nR ?_ | refine WC_cond rfl (fun hc => ?_) (fun hc => ?_)))
        rw [if_neg (fun hh => k2 hh.2.1)] at hma
        exact loopQ_next ⟨mz - 1, _, _, by omega, by exact kQ, by exact kL, k + 1, mt, a2, n2, c2, em, by omega, rfl, rfl, by exact ⟨hr, hma, by omega⟩⟩
      by_cases k3 : y2.time = sl.a
      rotate_left
      · (repeat' (first | refine nI ?_ | (refine nA ?_; intro _) | refine nY ?_ | refine nR ?_ | refine WC_cond rfl (fun hc => ?_) (fun hc => ?_)))
        rw [if_neg (fun hh => k3 hh.2.2.1)] at hma
        exact loopQ_next ⟨mz - 1, _, _, by omega, by exact kQ, by exact kL, k + 1, mt, a2, n2, c2, em, by omega, rfl, rfl, by exact ⟨hr, hma, by omega⟩⟩
      by_cases k4 : y2.num = sl.b
      rotate_left
      · (repeat' (first | refine nI ?_ | (refine nA ?_; intro _) | refine nY ?_ | refine nR ?_ | refine WC_cond rfl (fun hc => ?_) (fun hc => ?_)))
        rw [if_neg (fun hh => k4 hh.2.2.2.1)] at hma
        exact loopQ_next ⟨mz - 1, _, _, by omega, by exact kQ, by exact kL, k + 1, mt, a2, n2, c2, em, by omega, rfl, rfl, by exact ⟨hr, hma, by omega⟩⟩
      by_cases k5 : y2 ∈ mt
      · (repeat' (first | refine nI ?_ | (refine nA ?_; intro _) | (refine nW ?_; first | (refine op_call_id ?_; refine op_ro rfl rfl (by exact (c_spec.l12Called ⟨a2, n2, c2⟩ mt y2 (hr.atL (by exact kS))).eq (congrArg B (decide_eq_true k5))) ?_)) | refine nY ?_ | refine nR ?_ | refine WC_cond rfl (fun hc => ?_) (fun hc => ?_)))
        rw [if_neg (fun hh => hh.2.2.2.2 k5)] at hma
        exact loopQ_next ⟨mz - 1, _, _, by omega, by exact kQ, by exact kL, k + 1, mt, a2, n2, c2, em, by omega, rfl, rfl, by exact ⟨hr, hma, by omega⟩⟩
      · (repeat' (first | refine nI ?_ | (refine nA ?_; intro _) | (refine nW ?_; first | (refine op_call_id ?_; refine op_ro rfl rfl (by exact (c_spec.l12Called ⟨a2, n2, c2⟩ mt y2 (hr.atL (by exact kS))).eq (congrArg B (decide_eq_false k5))) ?_) | (refine go_append ?_; refine op_appendRow (sl := ⟨_, _, _⟩) (sx := ⟨_, _, _⟩) rfl rfl rfl rfl rfl rfl rfl rfl rfl (hr) (by exact kE) (SliceAt.one (x := y2) (by exact kM) rfl) (by exact kN) ?_; intro sl' es' hrow' hst')) | refine nY ?_ | refine nR ?_ | refine WC_cond rfl (fun hc => ?_) (fun hc => ?_)))
        rw [if_pos ⟨k1, k2, k3, k4, k5⟩] at hma
        obtain ⟨a9, n9, c9⟩ := sl'
        exact loopQ_next ⟨mz - 1, _, _, by omega, by exact kQ, by exact kL, k + 1, mt ++ [y2], a9, n9, c9, es', by omega, rfl, rfl, by exact ⟨hrow', hma, by simp; omega⟩⟩
    · obtain ⟨hr, hma, hml⟩ := hin
      rw [List.drop_of_length_le hge] at hma
      simp only [metAll] at hma
      (repeat' (first | refine nI ?_ | (refine nA ?_; intro _) | refine nY ?_ | refine nR ?_ | refine WC_cond rfl (fun hc => ?_) (fun hc => ?_)))
      have he : met cl sl = { cl with met := mt } := by unfold met; rw [← hma]
      rw [he]
      refine ret_ret (by exact kR) ?_; exact ⟨e1 ++ (e2 ++ (e3 ++ (em ++ L0))), by exact kP, ⟨sw, sc, ⟨a3, cl.sent.length, c3⟩, ⟨a2, n2, c2⟩⟩, e1 ++ (e2 ++ (e3 ++ em)), rfl, ⟨e1, e2, e3, em, rfl, h1, h2, h3, hr⟩, by simp⟩
theorem c_l12Got (tk pt : Seal) (key : Int) : Tri Tryz.prog 191 [clientV cl s, sealV tk, sealV pt, I key] (es ++ L0) (CliW L0 (if pt.kind = 2 ∧ pt.key = key then given cl tk pt else cl)) := by
  have hat := hown.at
  by_cases hp : pt.kind = 2 ∧ pt.key = key ∧ tk.kind = 1
  rotate_left
  · have he : (if pt.kind = 2 ∧ pt.key = key then given cl tk pt else cl) = cl := by
      split
      · rename_i h; unfold given; rw [if_neg (fun hh => hp ⟨h.1, h.2, hh.1⟩)]
      · rfl
    rw [he]
    by_cases p1 : pt.kind = 2
    rotate_left
    · refine Tri.of Tryz.func191 rfl rfl Tryz.ntmps191 rfl rfl ?_
      (repeat' (first | refine nI ?_ | (refine nA ?_; intro _) | refine nY ?_ | refine nR ?_ | refine WC_cond rfl (fun hc => ?_) (fun hc => ?_)))
      refine ret_ret (by exact kR) ?_; exact ⟨es ++ L0, by exact kP, s, es, rfl, hown, rfl⟩
    by_cases p2 : pt.key = key
    rotate_left
    · refine Tri.of Tryz.func191 rfl rfl Tryz.ntmps191 rfl rfl ?_
      (repeat' (first | refine nI ?_ | (refine nA ?_; intro _) | refine nY ?_ | refine nR ?_ | refine WC_cond rfl (fun hc => ?_) (fun hc => ?_)))
      refine ret_ret (by exact kR) ?_; exact ⟨es ++ L0, by exact kP, s, es, rfl, hown, rfl⟩
    have p3 : ¬ tk.kind = 1 := fun h => hp ⟨p1, p2, h⟩
    refine Tri.of Tryz.func191 rfl rfl Tryz.ntmps191 rfl rfl ?_
    (repeat' (first | refine nI ?_ | (refine nA ?_; intro _) | refine nY ?_ | refine nR ?_ | refine WC_cond rfl (fun hc => ?_) (fun hc => ?_)))
    refine ret_ret (by exact kR) ?_; exact ⟨es ++ L0, by exact kP, s, es, rfl, hown, rfl⟩
  obtain ⟨p1, p2, p3⟩ := hp
  rw [if_pos ⟨p1, p2⟩]
  by_cases hin : (⟨pt.a, pt.c⟩ : Want) ∈ cl.wants
  rotate_left
  · have he : given cl tk pt = cl := by unfold given; exact if_neg fun h => hin h.2
    rw [he]
    refine Tri.of Tryz.func191 rfl rfl Tryz.ntmps191 rfl rfl ?_
    (repeat' (first | refine nI ?_ | (refine nA ?_; intro _) | (refine nW ?_; first | (refine op_call_id ?_; refine op_ro rfl rfl (by exact c_l12TakeF cl s hw hs hlen (hat.w.mono (by exact kS)) pt.a pt.c hin) ?_)) | refine nY ?_ | refine nR ?_ | refine WC_cond rfl (fun hc => ?_) (fun hc => ?_)))
    refine ret_ret (by exact kR) ?_; exact ⟨es ++ L0, by exact kP, s, es, rfl, hown, rfl⟩
  have he : given cl tk pt = { cl with wants := cl.wants.erase ⟨pt.a, pt.c⟩, creds := putCred ⟨pt.a, pt.b, pt.d, tk⟩ cl.creds } := by unfold given; exact if_pos ⟨p3, hin⟩
  rw [he]
  obtain ⟨sw, ⟨a2, n2, c2⟩, ss, sm⟩ := s
  obtain ⟨e1, e2, e3, e4, rfl, h1, h2, h3, h4⟩ := hown
  dsimp only at h1 h2 h3 h4
  simp only [List.append_assoc]
  rcases idx_cases (fun x : Cred => x.serv == pt.a) cl.creds with ⟨hc1, hc2⟩ | ⟨j, y, hc1, hc2, hc3, hc4⟩
  · have hput := putCred_new ⟨pt.a, pt.b, pt.d, tk⟩ cl.creds fun z hz => by have := hc2 z hz; simpa using this
    rw [hput]
    have hci : credIdx { cl with wants := cl.wants.erase ⟨pt.a, pt.c⟩ } pt.a = -1 := hc1
    refine Tri.of Tryz.func191 rfl rfl Tryz.ntmps191 rfl rfl ?_
    (repeat' (first | refine nI ?_ | (refine nA ?_; intro _) | (refine nW ?_; first | (refine op_call_id ?_; refine op_ro rfl rfl (by exact (c_l12Cred { cl with wants := cl.wants.erase ⟨pt.a, pt.c⟩ } ⟨_, ⟨a2, n2, c2⟩, ss, sm⟩ pt.a (h2.atL (by exact kS))).eq (by rw [hci])) ?_) | (refine op_call_id ?_; refine op_call rfl ((c_l12TakeT cl hw hs hlen sw ⟨a2, n2, c2⟩ ss sm e1 _ h1 pt.a pt.c hin).perm (by exact kE)) rfl ?_; rintro _ _ ⟨⟨aq, nq, cq⟩, f1, rfl, hq, rfl⟩) | (refine go_append ?_; refine op_appendRow (sl := ⟨_, _, _⟩) (sx := ⟨_, _, _⟩) rfl rfl rfl rfl rfl rfl rfl rfl rfl (h2) (by exact kE) (SliceAt.one (x := (⟨pt.a, pt.b, pt.d, tk⟩ : Cred)) (by exact kM) rfl) (by exact kN) ?_; intro sl' es' hrow' hst')) | refine nY ?_ | refine nR ?_ | refine WC_cond rfl (fun hc => ?_) (fun hc => ?_)))
    refine ret_ret (by exact kR) ?_; exact ⟨f1 ++ (es' ++ (e3 ++ (e4 ++ L0))), by exact kP, ⟨⟨aq, nq, cq⟩, sl', ss, sm⟩, f1 ++ (es' ++ (e3 ++ e4)), rfl, ⟨f1, es', e3, e4, rfl, hq, hrow', h3, h4⟩, by simp⟩
  · have hput := putCred_set ⟨pt.a, pt.b, pt.d, tk⟩ cl.creds j y hc2 (by simpa using hc3) fun z hz => by have := hc4 z hz; simpa using this
    rw [hput]
    have hci : credIdx { cl with wants := cl.wants.erase ⟨pt.a, pt.c⟩ } pt.a = j := hc1
    have hlt := (List.getElem?_eq_some_iff.1 hc2).1
    obtain ⟨g, cap', rest, h21, rfl, h23, h24, h25⟩ := h2.block (by omega)
    cases h21
    refine Tri.of Tryz.func191 rfl rfl Tryz.ntmps191 rfl rfl ?_
    (repeat' (first | refine nI ?_ | (refine nA ?_; intro _) | (refine nW ?_; first | (refine op_call_id ?_; refine op_ro rfl rfl (by exact (c_l12Cred { cl with wants := cl.wants.erase ⟨pt.a, pt.c⟩ } ⟨_, ⟨_, _, _⟩, ss, sm⟩ pt.a (h2.atL (by exact kS))).eq (by rw [hci])) ?_) | (refine op_store_id ?_; (refine op_storeRow (E := encCred) (v := ⟨pt.a, pt.b, pt.d, tk⟩) (i := j) rfl rfl rfl rfl (by exact kF) rfl hlt ?_)) | (refine op_call_id ?_; refine op_call rfl ((c_l12TakeT cl hw hs hlen sw ⟨_, _, _⟩ ss sm e1 _ h1 pt.a pt.c hin).perm (by exact kE)) rfl ?_; rintro _ _ ⟨⟨aq, nq, cq⟩, f1, rfl, hq, rfl⟩)) | refine nY ?_ | refine nR ?_ | refine WC_cond rfl (fun hc => ?_) (fun hc => ?_)))
    have h2' : Row encCred 164 ⟨some ⟨g, 0, none⟩, cl.creds.length, c2⟩ (cl.creds.set j ⟨pt.a, pt.b, pt.d, tk⟩) [(g, cellsO (encCred.row (cl.creds.set j ⟨pt.a, pt.b, pt.d, tk⟩) ++ rest) 164)] := by
      have := Row.mk (E := encCred) (T := 164) (g := g) (cap := c2) (rest := rest) (xs := cl.creds.set j ⟨pt.a, pt.b, pt.d, tk⟩) (by simpa using h23) (by simpa using h24) h25 (by simpa using h2.2)
      simpa using this
    refine ret_ret (by exact kR) ?_; exact ⟨f1 ++ ([(g, cellsO (encCred.row (cl.creds.set j ⟨pt.a, pt.b, pt.d, tk⟩) ++ rest) 164)] ++ (e3 ++ (e4 ++ L0))), by exact kP, ⟨⟨aq, nq, cq⟩, ⟨_, _, _⟩, ss, sm⟩, f1 ++ ([(g, cellsO (encCred.row (cl.creds.set j ⟨pt.a, pt.b, pt.d, tk⟩) ++ rest) 164)] ++ (e3 ++ e4)), rfl, ⟨f1, _, e3, e4, rfl, hq, h2', h3, h4⟩, by simp⟩
end
end Go.Proofs.YtoledfhjmdpihaaGreat
/- The reference: users ask with what they have. -/
set_option linter.unusedVariables false
set_option linter.unusedSectionVars false
set_option linter.unusedSimpArgs false
namespace Go.Proofs.YtoledfhjmdpihaaGreat
open Go Go.Proofs Go.Proofs.YtoledfhjmdpihaaGreat.VE
attribute [local irreducible] Val Op1 WO WR WA WC seqQ blockQ loopQ retQ
noncomputable def o136x4L33 : Array Oper := cops (cl (cr (cr (cr (codeOf Tryz.f136)))))
noncomputable def o136x7L33 : Array Oper := cops (cl (cr (cr (cr (cr (cr (cr (codeOf Tryz.f136))))))))
noncomputable def o137x7L33 : Array Oper := cops (cl (cr (cr (cr (cr (cr (cr (codeOf Tryz.f137))))))))
noncomputable def r136x4L33 : Run := (.st 0 0 (.st 1 1 (.st 2 0 (.st 3 1 (.st 4 0 (.st 5 0 (.st 6 0 (.st 7 1 (.st 8 0 (.st 9 0 (.st 10 1 (.st 11 0 (.alt (.st 12 3 (.st 13 3 (.st 14 3 .done))) (.st 13 2 (.st 12 3 (.st 14 3 .done))))))))))))))))
noncomputable def r136x7L33 : Run := (.st 0 1 (.st 1 0 (.st 2 0 (.st 3 1 (.st 4 0 (.st 5 1 (.st 6 0 (.st 7 0 (.st 8 0 (.st 9 1 (.st 10 1 (.alt (.st 11 2 (.st 12 0 (.st 13 2 (.st 14 3 (.st 15 0 .done))))) (.st 13 2 (.st 11 2 (.st 12 0 (.st 14 3 (.st 15 0 .done)))))))))))))))))
noncomputable def r137x7L33 : Run := (.st 0 1 (.st 1 0 (.st 2 0 (.st 3 1 (.st 4 0 (.st 5 0 (.st 6 0 (.st 7 1 (.st 8 0 (.st 9 1 (.st 10 0 (.st 11 0 (.st 12 0 (.st 13 1 (.st 14 2 (.alt (.st 15 2 (.st 16 0 (.st 17 3 (.st 18 3 (.st 19 0 .done))))) (.st 17 2 (.st 15 3 (.st 16 0 (.st 18 3 (.st 19 0 .done)))))))))))))))))))))
set_option maxHeartbeats 4000000
theorem takeC_sub {l cs v : List Value} {o n k m : Nat} (h : takeC l o n = some cs) (hk : takeC cs k m = some v) : takeC l (o + k) m = some v := by
  unfold takeC at h hk ⊢
  split at h
  · obtain rfl := Option.some.inj h
    split at hk
    · rename_i h1 h2
      rw [List.length_take, List.length_drop] at h2
      rw [if_pos (by omega), ← hk]
      congr 1
      rw [List.drop_take, List.take_take, List.drop_drop]
      congr 1; omega
    · cases hk
  · cases h
section
variable {L0 : List Ent} (cl : Client) (s : CSl) (es : List Ent) (hn : 0 ≤ cl.num ∧ cl.num ≤ 60) (hw : cl.wants.length ≤ 100) (hs : cl.sent.length ≤ 100) (hown : CliOwn (cl, s) es)
include hn hw hs hown
variable (serv now : Int)
theorem c_l12Tgs1 (x : Cred) (hu : usable cl 6 serv now 2 = some x) : Tri Tryz.prog 136 [clientV cl s, I serv, I now] (es ++ L0) (CliV L0 (clientTgs cl serv now)) := by
  have he : clientTgs cl serv now = ({ cl with num := cl.num + 2, wants := cl.wants ++ [⟨serv, cl.num + 2⟩] }, some ⟨3, 0, serv, cl.num + 2, [x.ticket, mkAuth cl.id x.key now (cl.num + 1)]⟩) := by unfold clientTgs; rw [hu]
  rw [he]
  obtain ⟨j, hj, hx, a2, a3, a1⟩ := usable_at hu
  obtain ⟨⟨a0, n0, c0⟩, ⟨a, n, cap⟩, ss, sm⟩ := s
  obtain ⟨e1, e2, e3, e4, rfl, h1, h2, h3, h4⟩ := hown
  dsimp only at h1 h2 h3 h4
  have hat := h2.at
  have hcat := hat
  obtain ⟨hn', hcap, hbig, hrd⟩ := hat
  dsimp only at hn' hrd
  subst hn'
  simp only [big] at hbig
  have hlt := (List.getElem?_eq_some_iff.1 hx).1
  obtain ⟨b', o', cs, T', fr, rfl, hmem, hrow⟩ := hrd (by omega)
  have hrow' := hrow j x hx
  have htk3 := takeC_sub (k := 3) (m := 7) hrow' (rfl : takeC (encCred.cells x) 3 7 = some (sealC x.ticket))
  simp only [List.append_assoc]
  refine Tri.of Tryz.func136 rfl rfl Tryz.ntmps136 rfl rfl ?_
  (repeat' (first | refine nI ?_ | (refine nA ?_; intro _) | (refine nW ?_; first | (refine op_call_id ?_; refine op_ro rfl rfl (by first | exact (c_l12Cred cl ⟨⟨a0, n0, c0⟩, _, ss, sm⟩ _ (hcat.mono (by exact kS))).eq (by rw [hj]) | exact (c_l1Serv _).eq (congrArg B a3)) ?_)) | refine nY ?_ | refine WA_alt ?_ ?_ | refine nR ?_ | refine WC_drawL (id := 7) (ops := o136x7L33) r136x7L33 (by kernel_rfl) rfl ?_ | refine WC_cond rfl (fun hc => ?_) (fun hc => ?_)))
  rename_i b3 b6 b7
  refine WC_cut (X := Nat) (fun b10 => [(1, I serv), (2, I now), (3, .pointer (some ⟨b3, 0, none⟩)), (6, .pointer (some ⟨b6, 0, none⟩)), (7, .pointer (some ⟨b7, 0, none⟩)), (9, I (j : Int)), (10, .pointer (some ⟨b10, 0, none⟩))]) (fun b10 => (b10, cellsO (sealC (mkAuth cl.id x.key now (cl.num + 1))) 155) :: (b3, cellsO (clientC cl ⟨⟨a0, n0, c0⟩, ⟨some ⟨b', o', none⟩, cl.creds.length, cap⟩, ss, sm⟩) 112) :: (b6, cellsO (clientC (clientNew 0) CSl.nil) 112) :: (b7, cellsO (msgC Msg.zero Sl.nil) 47) :: (e1 ++ (e2 ++ (e3 ++ (e4 ++ L0))))) ?_ ?_
  · (repeat' (first | refine nX ?_ | (refine nA ?_; intro _) | (refine nW ?_; first | (refine op_call_id ?_; refine op_ro rfl rfl (by exact c_l12Auth _ _ _ _) ?_)) | refine nY ?_ | refine WA_alt ?_ ?_ | refine nR ?_ | refine WC_draw (id := 4) (ops := o136x4L33) ([(b3, cellsO (clientC cl ⟨⟨a0, n0, c0⟩, ⟨some ⟨b', o', none⟩, cl.creds.length, cap⟩, ss, sm⟩) 112), (b', Obj.cells cs.toArray T' fr)]) r136x4L33 (by kernel_rfl) rfl ?_ | refine WC_drawL (id := 7) (ops := o136x7L33) r136x7L33 (by kernel_rfl) rfl ?_))
    all_goals exact ⟨rfl, _, by exact kQ, by exact kL⟩
  · intro b10
    (repeat' (first | refine nI ?_ | (refine nA ?_; intro _) | (refine nW ?_; first | (refine go_append ?_; refine op_appendRow (sl := ⟨_, _, _⟩) (sx := ⟨_, _, _⟩) rfl rfl rfl rfl rfl rfl rfl rfl rfl (h1) (by exact kE) (SliceAt.one (x := (⟨serv, cl.num + 2⟩ : Want)) (by exact kM) rfl) (by exact kN) ?_; intro sl' es' hrow' hst')) | refine nY ?_ | refine WA_alt ?_ ?_ | refine nR ?_ | refine WC_drawL (id := 4) (ops := o136x4L33) r136x4L33 (by kernel_rfl) rfl ?_ | refine WC_cond rfl (fun hc => ?_) (fun hc => ?_)))
    (repeat' (first | refine nX ?_ | (refine nA ?_; intro _) | refine nY ?_ | refine WA_alt ?_ ?_ | refine nR ?_ | refine WC_drawL (id := 4) (ops := o136x4L33) r136x4L33 (by kernel_rfl) rfl ?_ | refine WC_draw (id := 7) (ops := o136x7L33) ([(b3, cellsO [I cl.id, I (cl.num + 2), sl'.v, .slice (some ⟨b', o', none⟩) cl.creds.length cap, ss.v, sm.v] 112), (b10, cellsO (sealC (mkAuth cl.id x.key now (cl.num + 1))) 155), (b', Obj.cells cs.toArray T' fr)]) r136x7L33 (by kernel_rfl) rfl ?_))
    all_goals rename_i b9
    all_goals (refine ret_ret (by exact kR) ?_; exact ⟨[(b9, cellsO (sealC x.ticket ++ sealC (mkAuth cl.id x.key now (cl.num + 1))) 155)] ++ (es' ++ (e2 ++ (e3 ++ (e4 ++ L0)))), by exact kP, ⟨sl', ⟨some ⟨b', o', none⟩, cl.creds.length, cap⟩, ss, sm⟩, es' ++ (e2 ++ (e3 ++ e4)), [(b9, cellsO (sealC x.ticket ++ sealC (mkAuth cl.id x.key now (cl.num + 1))) 155)], ⟨3, 0, serv, cl.num + 2, [x.ticket, mkAuth cl.id x.key now (cl.num + 1)]⟩, ⟨some ⟨b9, 0, none⟩, 2, 2⟩, true, rfl, ⟨es', e2, e3, e4, rfl, hrow', h2, h3, h4⟩, Row.lit (xs := [x.ticket, mkAuth cl.id x.key now (cl.num + 1)]) rfl (by simp [lim]), rfl, by simp⟩)
theorem c_l12Ap1 (x : Cred) (hu : usable cl serv serv now 1 = some x) : Tri Tryz.prog 137 [clientV cl s, I serv, I now] (es ++ L0) (CliV L0 (clientAp cl serv now)) := by
  have he : clientAp cl serv now = ({ cl with num := cl.num + 1, sent := cl.sent ++ [⟨serv, x.key, now, cl.num + 1⟩] }, some ⟨5, 0, serv, 0, [x.ticket, mkAuth cl.id x.key now (cl.num + 1)]⟩) := by unfold clientAp; rw [hu]
  rw [he]
  obtain ⟨j, hj, hx, a2, a3, a1⟩ := usable_at hu
  obtain ⟨sw, ⟨a, n, cap⟩, ⟨a0, n0, c0⟩, sm⟩ := s
  obtain ⟨e1, e2, e3, e4, rfl, h1, h2, h3, h4⟩ := hown
  dsimp only at h1 h2 h3 h4
  have hat := h2.at
  have hcat := hat
  obtain ⟨hn', hcap, hbig, hrd⟩ := hat
  dsimp only at hn' hrd
  subst hn'
  simp only [big] at hbig
  have hlt := (List.getElem?_eq_some_iff.1 hx).1
  obtain ⟨b', o', cs, T', fr, rfl, hmem, hrow⟩ := hrd (by omega)
  have hrow' := hrow j x hx
  have htk3 := takeC_sub (k := 3) (m := 7) hrow' (rfl : takeC (encCred.cells x) 3 7 = some (sealC x.ticket))
  simp only [List.append_assoc]
  refine Tri.of Tryz.func137 rfl rfl Tryz.ntmps137 rfl rfl ?_
  (repeat' (first | refine nI ?_ | (refine nA ?_; intro _) | (refine nW ?_; first | (refine op_call_id ?_; refine op_ro rfl rfl (by first | exact (c_l12Cred cl ⟨sw, _, ⟨a0, n0, c0⟩, sm⟩ _ (hcat.mono (by exact kS))).eq (by rw [hj]) | exact (c_l1Serv _).eq (congrArg B a3)) ?_) | (refine go_append ?_; refine op_appendRow (sl := ⟨_, _, _⟩) (sx := ⟨_, _, _⟩) rfl rfl rfl rfl rfl rfl rfl rfl rfl (h3) (by exact kE) (SliceAt.one (x := (⟨serv, x.key, now, cl.num + 1⟩ : Call)) (by exact kM) rfl) (by exact kN) ?_; intro sl' es' hrow' hst')) | refine nY ?_ | refine WA_alt ?_ ?_ | refine nR ?_ | refine WC_cond rfl (fun hc => ?_) (fun hc => ?_)))
  rename_i b3 b6 b7 b8
  (repeat' (first | refine nX ?_ | (refine nA ?_; intro _) | (refine nW ?_; first | (refine op_call_id ?_; refine op_ro rfl rfl (by exact c_l12Auth _ _ _ _) ?_)) | refine nY ?_ | refine WA_alt ?_ ?_ | refine nR ?_ | refine WC_draw (id := 7) (ops := o137x7L33) ([(b3, cellsO [I cl.id, I (cl.num + 1), sw.v, .slice (some ⟨b', o', none⟩) cl.creds.length cap, sl'.v, sm.v] 112), (b', Obj.cells cs.toArray T' fr)]) r137x7L33 (by kernel_rfl) rfl ?_))
  all_goals rename_i b9
  all_goals (refine ret_ret (by exact kR) ?_; exact ⟨[(b9, cellsO (sealC x.ticket ++ sealC (mkAuth cl.id x.key now (cl.num + 1))) 155)] ++ (e1 ++ (e2 ++ (es' ++ (e4 ++ L0)))), by exact kP, ⟨sw, ⟨some ⟨b', o', none⟩, cl.creds.length, cap⟩, sl', sm⟩, e1 ++ (e2 ++ (es' ++ e4)), [(b9, cellsO (sealC x.ticket ++ sealC (mkAuth cl.id x.key now (cl.num + 1))) 155)], ⟨5, 0, serv, 0, [x.ticket, mkAuth cl.id x.key now (cl.num + 1)]⟩, ⟨some ⟨b9, 0, none⟩, 2, 2⟩, true, rfl, ⟨e1, e2, es', e4, rfl, h1, h2, hrow', h4⟩, Row.lit (xs := [x.ticket, mkAuth cl.id x.key now (cl.num + 1)]) rfl (by simp [lim]), rfl, by simp⟩)
theorem c_l12Tgs : Tri Tryz.prog 136 [clientV cl s, I serv, I now] (es ++ L0) (CliV L0 (clientTgs cl serv now)) := by
  cases hu : usable cl 6 serv now 2 with
  | none => exact c_l12Tgs0 cl s es hn hw hs hown serv now hu
  | some x => exact c_l12Tgs1 cl s es hn hw hs hown serv now x hu
theorem c_l12Ap : Tri Tryz.prog 137 [clientV cl s, I serv, I now] (es ++ L0) (CliV L0 (clientAp cl serv now)) := by
  cases hu : usable cl serv serv now 1 with
  | none => exact c_l12Ap0 cl s es hn hw hs hown serv now hu
  | some x => exact c_l12Ap1 cl s es hn hw hs hown serv now x hu
end
end Go.Proofs.YtoledfhjmdpihaaGreat
/- The reference: users hear. -/
set_option linter.unusedVariables false
set_option linter.unusedSectionVars false
set_option linter.unusedSimpArgs false
namespace Go.Proofs.YtoledfhjmdpihaaGreat
open Go Go.Proofs Go.Proofs.YtoledfhjmdpihaaGreat.VE
attribute [local irreducible] Val Op1 WO WR WA WC seqQ blockQ loopQ retQ
noncomputable def o141x10L34 : Array Oper := cops (cl (cl (cr (cr (cl (cr (cr (cr (cl (cr (cl (cr (cr (codeOf Tryz.f141))))))))))))))
noncomputable def o141x12L34 : Array Oper := cops (cl (cl (cr (cr (cr (cr (cr (cl (cr (cl (cr (cr (codeOf Tryz.f141)))))))))))))
noncomputable def o141x6L34 : Array Oper := cops (cl (cl (cr (cl (cr (cl (cr (cl (cr (cr (codeOf Tryz.f141)))))))))))
noncomputable def r141x10L34 : Run := (.st 0 1 (.st 1 0 (.st 2 1 (.st 3 0 (.st 4 1 (.st 5 0 (.st 6 1 (.st 7 0 (.st 8 1 (.st 9 0 (.st 10 1 (.st 11 0 (.st 12 0 (.st 13 0 (.st 14 1 (.st 15 3 (.st 16 3 .done)))))))))))))))))
noncomputable def r141x12L34 : Run := (.st 0 1 (.st 1 0 (.st 2 1 (.st 3 0 (.st 4 1 (.st 5 3 (.st 6 3 .done)))))))
noncomputable def r141x6L34 : Run := (.st 0 1 (.st 1 0 (.st 2 1 (.st 3 0 (.st 4 1 (.st 5 0 (.st 6 1 (.st 7 0 (.st 8 1 (.st 9 0 (.st 10 1 (.st 11 3 (.st 12 3 .done)))))))))))))
set_option maxHeartbeats 4000000
section
variable {L0 : List Ent} (cl : Client) (s : CSl) (es : List Ent) (m : Msg) (sm : Sl) (hw : cl.wants.length ≤ 100) (hs : cl.creds.length ≤ 100) (hlen : cl.met.length + cl.sent.length ≤ 1000) (hown : CliOwn (cl, s) es) (hm : MsgAt L0 m sm)
include hw hs hlen hown hm
theorem c_l12Hear0 (h : msgOk m = false ∨ m.client ≠ cl.id ∨ (m.kind ≠ 2 ∧ m.kind ≠ 4 ∧ m.kind ≠ 6)) : Tri Tryz.prog 141 [clientV cl s, msgV m sm] (es ++ L0) (CliW L0 (clientHear cl m)) := by
  have he : clientHear cl m = cl := by
    unfold clientHear
    by_cases hc : msgOk m = false ∨ m.client ≠ cl.id
    · rw [if_pos hc]
    · rw [if_neg hc]
      have h3 : m.kind ≠ 2 ∧ m.kind ≠ 4 ∧ m.kind ≠ 6 := by
        rcases h with h | h | h
        · exact (hc (.inl h)).elim
        · exact (hc (.inr h)).elim
        · exact h
      rw [if_neg h3.1, if_neg h3.2.1, if_neg h3.2.2]
  rw [he]
  cases hok : msgOk m with
  | false =>
    refine Tri.of Tryz.func141 rfl rfl Tryz.ntmps141 rfl rfl ?_
    (repeat' (first | refine nI ?_ | (refine nA ?_; intro _) | (refine nW ?_; first | (refine op_call_id ?_; refine op_ro rfl rfl (by exact (c_sMsgOk m _ (hm.mono (by exact kS))).eq (congrArg B hok)) ?_)) | refine nY ?_ | refine WA_alt ?_ ?_ | refine nR ?_ | refine WC_drawL (id := 6) (ops := o141x6L34) r141x6L34 (by kernel_rfl) rfl ?_ | refine WC_drawL (id := 10) (ops := o141x10L34) r141x10L34 (by kernel_rfl) rfl ?_ | refine WC_drawL (id := 12) (ops := o141x12L34) r141x12L34 (by kernel_rfl) rfl ?_ | refine WC_cond rfl (fun hc => ?_) (fun hc => ?_)))
    refine ret_ret (by exact kR) ?_; exact ⟨es ++ L0, by exact kP, s, es, rfl, hown, rfl⟩
  | true =>
    by_cases hcl : m.client = cl.id
    rotate_left
    · refine Tri.of Tryz.func141 rfl rfl Tryz.ntmps141 rfl rfl ?_
      (repeat' (first | refine nI ?_ | (refine nA ?_; intro _) | (refine nW ?_; first | (refine op_call_id ?_; refine op_ro rfl rfl (by exact (c_sMsgOk m _ (hm.mono (by exact kS))).eq (congrArg B hok)) ?_)) | refine nY ?_ | refine WA_alt ?_ ?_ | refine nR ?_ | refine WC_drawL (id := 6) (ops := o141x6L34) r141x6L34 (by kernel_rfl) rfl ?_ | refine WC_drawL (id := 10) (ops := o141x10L34) r141x10L34 (by kernel_rfl) rfl ?_ | refine WC_drawL (id := 12) (ops := o141x12L34) r141x12L34 (by kernel_rfl) rfl ?_ | refine WC_cond rfl (fun hc => ?_) (fun hc => ?_)))
      refine ret_ret (by exact kR) ?_; exact ⟨es ++ L0, by exact kP, s, es, rfl, hown, rfl⟩
    obtain ⟨k2, k4, k6⟩ : m.kind ≠ 2 ∧ m.kind ≠ 4 ∧ m.kind ≠ 6 := by
      rcases h with h | h | h
      · rw [hok] at h; cases h
      · exact (h hcl).elim
      · exact h
    refine Tri.of Tryz.func141 rfl rfl Tryz.ntmps141 rfl rfl ?_
    (repeat' (first | refine nI ?_ | (refine nA ?_; intro _) | (refine nW ?_; first | (refine op_call_id ?_; refine op_ro rfl rfl (by exact (c_sMsgOk m _ (hm.mono (by exact kS))).eq (congrArg B hok)) ?_)) | refine nY ?_ | refine WA_alt ?_ ?_ | refine nR ?_ | refine WC_drawL (id := 6) (ops := o141x6L34) r141x6L34 (by kernel_rfl) rfl ?_ | refine WC_drawL (id := 10) (ops := o141x10L34) r141x10L34 (by kernel_rfl) rfl ?_ | refine WC_drawL (id := 12) (ops := o141x12L34) r141x12L34 (by kernel_rfl) rfl ?_ | refine WC_cond rfl (fun hc => ?_) (fun hc => ?_)))
    refine ret_ret (by exact kR) ?_; exact ⟨es ++ L0, by exact kP, s, es, rfl, hown, rfl⟩
variable (hok : msgOk m = true) (hcl : m.client = cl.id)
include hok hcl
theorem c_l12Hear6 (k6 : m.kind = 6) : Tri Tryz.prog 141 [clientV cl s, msgV m sm] (es ++ L0) (CliW L0 (clientHear cl m)) := by
  obtain ⟨s0, hs0, _⟩ := seals1 hok k6
  have hm' := hm
  simp only [MsgAt, hs0] at hm'
  obtain ⟨bs, os, cc, Ts, frs, cx, rfl, hmem, ht0⟩ := read1 hm'
  have he : clientHear cl m = met cl s0 := by unfold clientHear; rw [if_neg (by simp [hok, hcl]), if_neg (by omega), if_neg (by omega), if_pos k6, sealAt_1 hs0]
  rw [he]
  refine Tri.of Tryz.func141 rfl rfl Tryz.ntmps141 rfl rfl ?_
  (repeat' (first | refine nI ?_ | (refine nA ?_; intro _) | (refine nW ?_; first | (refine op_call_id ?_; refine op_ro rfl rfl (by exact (c_sMsgOk m _ (hm.mono (by exact kS))).eq (congrArg B hok)) ?_)) | refine nY ?_ | refine WA_alt ?_ ?_ | refine nR ?_ | refine WC_drawL (id := 6) (ops := o141x6L34) r141x6L34 (by kernel_rfl) rfl ?_ | refine WC_drawL (id := 10) (ops := o141x10L34) r141x10L34 (by kernel_rfl) rfl ?_ | refine WC_cond rfl (fun hc => ?_) (fun hc => ?_)))
  rename_i b2 b3 b4
  (repeat' (first | refine nX ?_ | (refine nA ?_; intro _) | (refine nW ?_; first | (refine op_call_id ?_; refine op_call rfl ((c_l12Back cl s es hw hs hlen hown s0).perm (by exact kE)) rfl ?_; rintro _ _ ⟨s9, es9, rfl, ho9, rfl⟩)) | refine nY ?_ | refine WA_alt ?_ ?_ | refine nR ?_ | refine WC_drawL (id := 6) (ops := o141x6L34) r141x6L34 (by kernel_rfl) rfl ?_ | refine WC_drawL (id := 10) (ops := o141x10L34) r141x10L34 (by kernel_rfl) rfl ?_ | refine WC_draw (id := 12) (ops := o141x12L34) ([(b2, cellsO (clientC cl s) 112), (b3, cellsO (msgC m ⟨some ⟨bs, os, none⟩, 1, cx⟩) 47), (bs, Obj.cells cc.toArray Ts frs)]) r141x12L34 (by kernel_rfl) rfl ?_))
  refine ret_ret (by exact kR) ?_; exact ⟨es9 ++ L0, by exact kP, s9, es9, rfl, ho9, rfl⟩
theorem c_l12Hear2 (k2 : m.kind = 2) : Tri Tryz.prog 141 [clientV cl s, msgV m sm] (es ++ L0) (CliW L0 (clientHear cl m)) := by
  obtain ⟨s0, s1, hss, _, _⟩ := seals2 hok (.inl k2)
  have hm' := hm
  simp only [MsgAt, hss] at hm'
  obtain ⟨bs, os, cc, Ts, frs, cx, rfl, hmem, ht0, ht1⟩ := read2 hm'
  obtain ⟨hs0, hs1⟩ := sealAt0 hss
  by_cases ha : s1.a = 6
  · have he : clientHear cl m = if s1.kind = 2 ∧ s1.key = cl.id then given cl s0 s1 else cl := by
      unfold clientHear
      rw [if_neg (by simp [hok, hcl]), if_pos k2, hs0, hs1]
      simp only [ha, and_true]
    rw [he]
    refine Tri.of Tryz.func141 rfl rfl Tryz.ntmps141 rfl rfl ?_
    (repeat' (first | refine nI ?_ | (refine nA ?_; intro _) | (refine nW ?_; first | (refine op_call_id ?_; refine op_ro rfl rfl (by exact (c_sMsgOk m _ (hm.mono (by exact kS))).eq (congrArg B hok)) ?_)) | refine nY ?_ | refine WA_alt ?_ ?_ | refine nR ?_ | refine WC_drawL (id := 10) (ops := o141x10L34) r141x10L34 (by kernel_rfl) rfl ?_ | refine WC_drawL (id := 12) (ops := o141x12L34) r141x12L34 (by kernel_rfl) rfl ?_ | refine WC_cond rfl (fun hc => ?_) (fun hc => ?_)))
    rename_i b2 b3 b4
    (repeat' (first | refine nX ?_ | (refine nA ?_; intro _) | (refine nW ?_; first | (refine op_call_id ?_; refine op_call rfl ((c_l12Got cl s es hw hs hlen hown s0 s1 cl.id).perm (by exact kE)) rfl ?_; rintro _ _ ⟨s9, es9, rfl, ho9, rfl⟩)) | refine nY ?_ | refine WA_alt ?_ ?_ | refine nR ?_ | refine WC_draw (id := 6) (ops := o141x6L34) ([(b2, cellsO (clientC cl s) 112), (b3, cellsO (msgC m ⟨some ⟨bs, os, none⟩, 2, cx⟩) 47), (bs, Obj.cells cc.toArray Ts frs)]) r141x6L34 (by kernel_rfl) rfl ?_ | refine WC_drawL (id := 10) (ops := o141x10L34) r141x10L34 (by kernel_rfl) rfl ?_ | refine WC_drawL (id := 12) (ops := o141x12L34) r141x12L34 (by kernel_rfl) rfl ?_))
    refine ret_ret (by exact kR) ?_; exact ⟨es9 ++ L0, by exact kP, s9, es9, rfl, ho9, rfl⟩
  · have he : clientHear cl m = cl := by
      unfold clientHear
      rw [if_neg (by simp [hok, hcl]), if_pos k2, if_neg (by rw [hs1]; exact fun h => ha h.2.2)]
    rw [he]
    refine Tri.of Tryz.func141 rfl rfl Tryz.ntmps141 rfl rfl ?_
    (repeat' (first | refine nI ?_ | (refine nA ?_; intro _) | (refine nW ?_; first | (refine op_call_id ?_; refine op_ro rfl rfl (by exact (c_sMsgOk m _ (hm.mono (by exact kS))).eq (congrArg B hok)) ?_)) | refine nY ?_ | refine WA_alt ?_ ?_ | refine nR ?_ | refine WC_drawL (id := 6) (ops := o141x6L34) r141x6L34 (by kernel_rfl) rfl ?_ | refine WC_drawL (id := 10) (ops := o141x10L34) r141x10L34 (by kernel_rfl) rfl ?_ | refine WC_drawL (id := 12) (ops := o141x12L34) r141x12L34 (by kernel_rfl) rfl ?_ | refine WC_cond rfl (fun hc => ?_) (fun hc => ?_)))
    refine ret_ret (by exact kR) ?_; exact ⟨es ++ L0, by exact kP, s, es, rfl, hown, rfl⟩
theorem c_l12Hear4 (k4 : m.kind = 4) : Tri Tryz.prog 141 [clientV cl s, msgV m sm] (es ++ L0) (CliW L0 (clientHear cl m)) := by
  obtain ⟨s0, s1, hss, _, _⟩ := seals2 hok (.inr (.inr (.inl k4)))
  have hm' := hm
  simp only [MsgAt, hss] at hm'
  obtain ⟨bs, os, cc, Ts, frs, cx, rfl, hmem, ht0, ht1⟩ := read2 hm'
  obtain ⟨hs0, hs1⟩ := sealAt0 hss
  have k2 : ¬ m.kind = 2 := by omega
  have hat : SliceAt es encCred s.c cl.creds := hown.at.c
  obtain ⟨sw, ⟨a, n, cap⟩, ss, smm⟩ := s
  dsimp only at hat
  have hcat := hat
  obtain ⟨hn', hcap, hbig, hrd⟩ := hat
  dsimp only at hn' hrd
  subst hn'
  simp only [big] at hbig
  rcases credIdx_cases cl 6 with ⟨h1, h2⟩ | ⟨j, x, h1, h2, h3, h4⟩
  · have he : clientHear cl m = cl := by unfold clientHear; rw [if_neg (by simp [hok, hcl]), if_neg k2, if_pos k4, h2]
    rw [he]
    refine Tri.of Tryz.func141 rfl rfl Tryz.ntmps141 rfl rfl ?_
    (repeat' (first | refine nI ?_ | (refine nA ?_; intro _) | (refine nW ?_; first | (refine op_call_id ?_; refine op_ro rfl rfl (by first | exact (c_sMsgOk m _ (hm.mono (by exact kS))).eq (congrArg B hok) | exact (c_l12Cred cl ⟨sw, _, ss, smm⟩ _ (hcat.mono (by exact kS))).eq (by rw [h1])) ?_)) | refine nY ?_ | refine WA_alt ?_ ?_ | refine nR ?_ | refine WC_drawL (id := 6) (ops := o141x6L34) r141x6L34 (by kernel_rfl) rfl ?_ | refine WC_drawL (id := 10) (ops := o141x10L34) r141x10L34 (by kernel_rfl) rfl ?_ | refine WC_drawL (id := 12) (ops := o141x12L34) r141x12L34 (by kernel_rfl) rfl ?_ | refine WC_cond rfl (fun hc => ?_) (fun hc => ?_)))
    refine ret_ret (by exact kR) ?_; exact ⟨es ++ L0, by exact kP, ⟨sw, ⟨a, cl.creds.length, cap⟩, ss, smm⟩, es, rfl, hown, rfl⟩
  have hlt := (List.getElem?_eq_some_iff.1 h2).1
  obtain ⟨b', o', cs, T', fr, rfl, hmem2, hrow⟩ := hrd (by omega)
  have hrow' := hrow j x h2
  cases hsv : servOk s1.a with
  | false =>
    have he : clientHear cl m = cl := by
      unfold clientHear; rw [if_neg (by simp [hok, hcl]), if_neg k2, if_pos k4, h4]
      simp only []
      rw [if_neg (by rw [hs1]; exact fun h => by rw [hsv] at h; cases h.2.2)]
    rw [he]
    refine Tri.of Tryz.func141 rfl rfl Tryz.ntmps141 rfl rfl ?_
    (repeat' (first | refine nI ?_ | (refine nA ?_; intro _) | (refine nW ?_; first | (refine op_call_id ?_; refine op_ro rfl rfl (by first | exact (c_sMsgOk m _ (hm.mono (by exact kS))).eq (congrArg B hok) | exact (c_l12Cred cl ⟨sw, _, ss, smm⟩ _ (hcat.mono (by exact kS))).eq (by rw [h1]) | exact (c_l1Serv _).eq (congrArg B hsv)) ?_)) | refine nY ?_ | refine WA_alt ?_ ?_ | refine nR ?_ | refine WC_drawL (id := 6) (ops := o141x6L34) r141x6L34 (by kernel_rfl) rfl ?_ | refine WC_drawL (id := 10) (ops := o141x10L34) r141x10L34 (by kernel_rfl) rfl ?_ | refine WC_drawL (id := 12) (ops := o141x12L34) r141x12L34 (by kernel_rfl) rfl ?_ | refine WC_cond rfl (fun hc => ?_) (fun hc => ?_)))
    refine ret_ret (by exact kR) ?_; exact ⟨es ++ L0, by exact kP, ⟨sw, ⟨some ⟨b', o', none⟩, cl.creds.length, cap⟩, ss, smm⟩, es, rfl, hown, rfl⟩
  | true =>
    have he : clientHear cl m = if s1.kind = 2 ∧ s1.key = x.key then given cl s0 s1 else cl := by
      unfold clientHear
      rw [if_neg (by simp [hok, hcl]), if_neg k2, if_pos k4, h4]
      simp only [hs0, hs1, hsv, and_true]
    rw [he]
    refine Tri.of Tryz.func141 rfl rfl Tryz.ntmps141 rfl rfl ?_
    (repeat' (first | refine nI ?_ | (refine nA ?_; intro _) | (refine nW ?_; first | (refine op_call_id ?_; refine op_ro rfl rfl (by first | exact (c_sMsgOk m _ (hm.mono (by exact kS))).eq (congrArg B hok) | exact (c_l12Cred cl ⟨sw, _, ss, smm⟩ _ (hcat.mono (by exact kS))).eq (by rw [h1]) | exact (c_l1Serv _).eq (congrArg B hsv)) ?_)) | refine nY ?_ | refine WA_alt ?_ ?_ | refine nR ?_ | refine WC_drawL (id := 6) (ops := o141x6L34) r141x6L34 (by kernel_rfl) rfl ?_ | refine WC_drawL (id := 12) (ops := o141x12L34) r141x12L34 (by kernel_rfl) rfl ?_ | refine WC_cond rfl (fun hc => ?_) (fun hc => ?_)))
    rename_i b2 b3 b4
    (repeat' (first | refine nX ?_ | (refine nA ?_; intro _) | (refine nW ?_; first | (refine op_call_id ?_; refine op_call rfl ((c_l12Got cl ⟨sw, ⟨some ⟨b', o', none⟩, cl.creds.length, cap⟩, ss, smm⟩ es hw hs hlen hown s0 s1 x.key).perm (by exact kE)) rfl ?_; rintro _ _ ⟨s9, es9, rfl, ho9, rfl⟩)) | refine nY ?_ | refine WA_alt ?_ ?_ | refine nR ?_ | refine WC_drawL (id := 6) (ops := o141x6L34) r141x6L34 (by kernel_rfl) rfl ?_ | refine WC_draw (id := 10) (ops := o141x10L34) ([(b2, cellsO (clientC cl ⟨sw, ⟨some ⟨b', o', none⟩, cl.creds.length, cap⟩, ss, smm⟩) 112), (b3, cellsO (msgC m ⟨some ⟨bs, os, none⟩, 2, cx⟩) 47), (bs, Obj.cells cc.toArray Ts frs), (b', Obj.cells cs.toArray T' fr)]) r141x10L34 (by kernel_rfl) rfl ?_ | refine WC_drawL (id := 12) (ops := o141x12L34) r141x12L34 (by kernel_rfl) rfl ?_))
    refine ret_ret (by exact kR) ?_; exact ⟨es9 ++ L0, by exact kP, s9, es9, rfl, ho9, rfl⟩
omit hok hcl in
theorem c_l12Hear : Tri Tryz.prog 141 [clientV cl s, msgV m sm] (es ++ L0) (CliW L0 (clientHear cl m)) := by
  cases hok : msgOk m with
  | false => exact c_l12Hear0 cl s es m sm hw hs hlen hown hm (.inl hok)
  | true =>
    by_cases hcl : m.client = cl.id
    rotate_left
    · exact c_l12Hear0 cl s es m sm hw hs hlen hown hm (.inr (.inl hcl))
    by_cases k2 : m.kind = 2
    · exact c_l12Hear2 cl s es m sm hw hs hlen hown hm hok hcl k2
    by_cases k4 : m.kind = 4
    · exact c_l12Hear4 cl s es m sm hw hs hlen hown hm hok hcl k4
    by_cases k6 : m.kind = 6
    · exact c_l12Hear6 cl s es m sm hw hs hlen hown hm hok hcl k6
    · exact c_l12Hear0 cl s es m sm hw hs hlen hown hm (.inr (.inr ⟨k2, k4, k6⟩))
end
end Go.Proofs.YtoledfhjmdpihaaGreat
