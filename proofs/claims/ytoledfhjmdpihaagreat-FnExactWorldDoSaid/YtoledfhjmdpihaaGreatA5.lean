/- Services: what they hear. -/
import Derived.Test.YtoledfhjmdpihaaGreatA4
import Derived.Test.YtoledfhjmdpihaaGreatA2
import Derived.Test.YtoledfhjmdpihaaGreatA3
set_option linter.unusedVariables false
set_option linter.unusedSectionVars false
set_option linter.unusedSimpArgs false
namespace Go.Proofs.YtoledfhjmdpihaaGreat
open Go Go.Proofs Go.Proofs.YtoledfhjmdpihaaGreat.VE
attribute [local irreducible] Val Op1 WO WR WA WC seqQ blockQ loopQ retQ
noncomputable def o177x1L17 : Array Oper := cops (cl (cl (cr (codeOf Tryz.f177))))
noncomputable def o177x4L17 : Array Oper := cops (cl (cr (cr (cr (codeOf Tryz.f177)))))
noncomputable def o177x8L17 : Array Oper := cops (cl (cr (cr (cr (cr (cr (cr (codeOf Tryz.f177))))))))
noncomputable def r177x1L17 : Run := (.st 0 0 (.st 1 1 (.st 2 0 (.st 3 0 (.st 4 1 (.st 5 3 (.st 6 0 (.st 7 0 (.st 8 0 (.st 9 0 (.st 10 1 (.st 11 0 (.st 12 0 (.st 13 0 (.st 14 1 (.st 15 0 (.st 16 0 (.st 17 0 (.st 18 0 (.st 19 1 (.st 20 0 (.st 21 1 (.st 22 0 (.st 23 1 (.st 24 0 (.st 25 1 (.st 26 0 (.st 27 0 (.st 28 0 (.st 29 1 (.st 30 0 (.st 31 3 (.st 32 0 (.st 33 0 (.st 34 0 (.st 35 0 (.st 36 1 (.st 37 0 (.st 38 0 (.st 39 1 (.st 40 0 (.st 41 0 (.st 42 0 (.st 43 1 (.st 44 0 (.st 45 0 .done))))))))))))))))))))))))))))))))))))))))))))))
noncomputable def r177x4L17 : Run := (.st 0 0 (.st 1 0 (.st 2 0 (.st 3 1 (.st 4 1 (.st 5 0 (.st 6 3 (.st 7 0 (.st 8 0 (.st 9 0 (.st 10 0 (.st 11 0 .done))))))))))))
noncomputable def r177x8L17 : Run := (.st 0 0 (.st 1 0 (.st 2 0 (.st 3 0 (.st 4 1 (.st 5 0 (.st 6 1 (.st 7 0 (.st 8 1 (.st 9 0 (.st 10 1 (.st 11 0 (.st 12 1 (.st 13 0 (.st 14 2 (.st 15 3 (.st 16 0 (.st 17 0 (.st 18 3 .done)))))))))))))))))))
set_option maxHeartbeats 4000000
def SrvR (L0 : List Ent) (b o : Nat) (c : List Value) (T : TypeId) (r : Serv × Option Msg) (v : Value) (L' : List Ent) : Prop := ∃ c' t' es' em, AnsR r.2 v em ∧ SrvOwn (r.1, c', t') es' ∧ L' = em ++ ((b, cellsO (putC c o (servC r.1 c' t')) T) :: (es' ++ L0))
section
variable {L0 : List Ent} (b o : Nat) (c : List Value) (T : TypeId) (sv : Serv) (cs ts : Sl) (m : Msg) (sm : Sl) (now : Int) (es : List Ent) (ho : o + 4 ≤ c.length) (hn : 0 ≤ now ∧ now ≤ 100) (hl : sv.cache.length ≤ 20) (hl2 : sv.took.length + 1 ≤ lim) (hown : SrvOwn (sv, cs, ts) es) (hm : MsgAt L0 m sm)
include ho hn hl hl2 hown hm
theorem c_servHear1 (hk5 : m.kind ≠ 5) : Tri Tryz.prog 177 [.pointer (some ⟨b, o, none⟩), msgV m sm, I now] ((b, cellsO (putC c o (servC sv cs ts)) T) :: (es ++ L0)) (SrvR L0 b o c T (servHear sv m now)) := by
  have he : servHear sv m now = (sv, none) := by
    unfold servHear; exact if_pos (.inl hk5)
  rw [he]
  refine Tri.of Tryz.func177 rfl rfl Tryz.ntmps177 rfl rfl ?_
  (repeat' (first | (refine nW ?_; refine op_val rfl (by exact val_neq_t rfl rfl hk5) ?_) | (refine WR_id ?_; refine WR_pure rfl rfl rfl (by exact val_neq_t rfl rfl hk5) ?_) | refine nX ?_ | (refine nA ?_; intro _) | refine nY ?_ | refine WA_alt ?_ ?_ | refine nR ?_ | refine WC_drawL (id := 1) (ops := o177x1L17) r177x1L17 (by kernel_rfl) rfl ?_ | refine WC_drawL (id := 4) (ops := o177x4L17) r177x4L17 (by kernel_rfl) rfl ?_ | refine WC_drawL (id := 8) (ops := o177x8L17) r177x8L17 (by kernel_rfl) rfl ?_ | refine WC_cond rfl (fun hc => ?_) (fun hc => ?_)))
  refine ret_ret (by exact kR) ?_; exact ⟨(b, cellsO (putC c o (servC sv cs ts)) T) :: (es ++ L0), by exact kP, cs, ts, es, [], ⟨rfl, rfl⟩, hown, rfl⟩
theorem c_servHear2 (hk5 : m.kind = 5) (hok : msgOk m = false) : Tri Tryz.prog 177 [.pointer (some ⟨b, o, none⟩), msgV m sm, I now] ((b, cellsO (putC c o (servC sv cs ts)) T) :: (es ++ L0)) (SrvR L0 b o c T (servHear sv m now)) := by
  have he : servHear sv m now = (sv, none) := by
    unfold servHear; exact if_pos (.inr (.inl hok))
  rw [he]
  refine Tri.of Tryz.func177 rfl rfl Tryz.ntmps177 rfl rfl ?_
  (repeat' (first | (refine nW ?_; refine op_val rfl (by exact val_neq_f rfl rfl hk5) ?_) | (refine WR_id ?_; refine WR_pure rfl rfl rfl (by exact val_neq_f rfl rfl hk5) ?_) | refine nX ?_ | (refine nA ?_; intro _) | (refine nW ?_; first | (refine op_call_id ?_; refine op_ro rfl rfl (by exact (c_msgOk m _ (hm.mono (by exact kS))).eq (by rw [hok])) ?_)) | refine nY ?_ | refine WA_alt ?_ ?_ | refine nR ?_ | refine WC_drawL (id := 1) (ops := o177x1L17) r177x1L17 (by kernel_rfl) rfl ?_ | refine WC_drawL (id := 4) (ops := o177x4L17) r177x4L17 (by kernel_rfl) rfl ?_ | refine WC_drawL (id := 8) (ops := o177x8L17) r177x8L17 (by kernel_rfl) rfl ?_ | refine WC_cond rfl (fun hc => ?_) (fun hc => ?_)))
  refine ret_ret (by exact kR) ?_; exact ⟨(b, cellsO (putC c o (servC sv cs ts)) T) :: (es ++ L0), by exact kP, cs, ts, es, [], ⟨rfl, rfl⟩, hown, rfl⟩
theorem c_servHear3 (hk5 : m.kind = 5) (hok : msgOk m = true) (hsv : m.serv ≠ sv.id) : Tri Tryz.prog 177 [.pointer (some ⟨b, o, none⟩), msgV m sm, I now] ((b, cellsO (putC c o (servC sv cs ts)) T) :: (es ++ L0)) (SrvR L0 b o c T (servHear sv m now)) := by
  have he : servHear sv m now = (sv, none) := by
    unfold servHear; exact if_pos (.inr (.inr (.inl hsv)))
  rw [he]
  refine Tri.of Tryz.func177 rfl rfl Tryz.ntmps177 rfl rfl ?_
  (repeat' (first | (refine nW ?_; refine op_val rfl (by first | exact val_neq_f rfl rfl hk5 | exact val_neq_t rfl rfl hsv) ?_) | (refine WR_id ?_; refine WR_pure rfl rfl rfl (by first | exact val_neq_f rfl rfl hk5 | exact val_neq_t rfl rfl hsv) ?_) | refine nX ?_ | (refine nA ?_; intro _) | (refine nW ?_; first | (refine op_call_id ?_; refine op_ro rfl rfl (by exact (c_msgOk m _ (hm.mono (by exact kS))).eq (by rw [hok])) ?_)) | refine nY ?_ | refine WA_alt ?_ ?_ | refine nR ?_ | refine WC_drawL (id := 1) (ops := o177x1L17) r177x1L17 (by kernel_rfl) rfl ?_ | refine WC_drawL (id := 4) (ops := o177x4L17) r177x4L17 (by kernel_rfl) rfl ?_ | refine WC_drawL (id := 8) (ops := o177x8L17) r177x8L17 (by kernel_rfl) rfl ?_ | refine WC_cond rfl (fun hc => ?_) (fun hc => ?_)))
  refine ret_ret (by exact kR) ?_; exact ⟨(b, cellsO (putC c o (servC sv cs ts)) T) :: (es ++ L0), by exact kP, cs, ts, es, [], ⟨rfl, rfl⟩, hown, rfl⟩
theorem c_servHear4 (hk5 : m.kind = 5) (hok : msgOk m = true) (hsv : m.serv = sv.id) (hsh : shown (sealAt m 0) (sealAt m 1) sv.id now = false) : Tri Tryz.prog 177 [.pointer (some ⟨b, o, none⟩), msgV m sm, I now] ((b, cellsO (putC c o (servC sv cs ts)) T) :: (es ++ L0)) (SrvR L0 b o c T (servHear sv m now)) := by
  obtain ⟨s0, s1, hs, _, _⟩ := seals2 hok (.inr (.inr (.inr hk5)))
  have hm' := hm
  simp only [MsgAt, hs] at hm'
  obtain ⟨bs, os, cc, Ts, frs, cx, rfl, hmem, ht0, ht1⟩ := read2 hm'
  obtain ⟨hs0, hs1⟩ := sealAt0 hs
  have hsh' := hsh
  rw [hs0, hs1] at hsh
  have he : servHear sv m now = (sv, none) := by
    unfold servHear; exact if_pos (.inr (.inr (.inr (.inl hsh'))))
  rw [he]
  refine Tri.of Tryz.func177 rfl rfl Tryz.ntmps177 rfl rfl ?_
  (repeat' (first | (refine nW ?_; refine op_val rfl (by first | exact val_neq_f rfl rfl hk5 | exact val_neq_f rfl rfl hsv) ?_) | (refine WR_id ?_; refine WR_pure rfl rfl rfl (by first | exact val_neq_f rfl rfl hk5 | exact val_neq_f rfl rfl hsv) ?_) | refine nX ?_ | (refine nA ?_; intro _) | (refine nW ?_; first | (refine op_call_id ?_; refine op_ro rfl rfl (by first | exact (c_msgOk m _ (hm.mono (by exact kS))).eq (by rw [hok]) | exact (c_shown s0 s1 sv.id now).eq (by rw [hsh])) ?_)) | refine nY ?_ | refine WA_alt ?_ ?_ | refine nR ?_ | refine WC_drawL (id := 1) (ops := o177x1L17) r177x1L17 (by kernel_rfl) rfl ?_ | refine WC_drawL (id := 4) (ops := o177x4L17) r177x4L17 (by kernel_rfl) rfl ?_ | refine WC_drawL (id := 8) (ops := o177x8L17) r177x8L17 (by kernel_rfl) rfl ?_ | refine WC_cond rfl (fun hc => ?_) (fun hc => ?_)))
  refine ret_ret (by exact kR) ?_; exact ⟨(b, cellsO (putC c o (servC sv cs ts)) T) :: (es ++ L0), by exact kP, cs, ts, es, [], ⟨rfl, rfl⟩, hown, rfl⟩
theorem c_servHear5 (hk5 : m.kind = 5) (hok : msgOk m = true) (hsv : m.serv = sv.id) (hsh : shown (sealAt m 0) (sealAt m 1) sv.id now = true) (hsi : (sealAt m 1).b ≤ sv.since) : Tri Tryz.prog 177 [.pointer (some ⟨b, o, none⟩), msgV m sm, I now] ((b, cellsO (putC c o (servC sv cs ts)) T) :: (es ++ L0)) (SrvR L0 b o c T (servHear sv m now)) := by
  obtain ⟨s0, s1, hs, _, _⟩ := seals2 hok (.inr (.inr (.inr hk5)))
  have hm' := hm
  simp only [MsgAt, hs] at hm'
  obtain ⟨bs, os, cc, Ts, frs, cx, rfl, hmem, ht0, ht1⟩ := read2 hm'
  obtain ⟨hs0, hs1⟩ := sealAt0 hs
  have hsi' := hsi
  rw [hs0, hs1] at hsh
  rw [hs1] at hsi
  have he : servHear sv m now = (sv, none) := by
    unfold servHear; exact if_pos (.inr (.inr (.inr (.inr hsi'))))
  rw [he]
  refine Tri.of Tryz.func177 rfl rfl Tryz.ntmps177 rfl rfl ?_
  (repeat' (first | (refine nW ?_; refine op_val rfl (by first | exact val_neq_f rfl rfl hk5 | exact val_neq_f rfl rfl hsv | exact val_leq_t rfl rfl hsi) ?_) | (refine WR_id ?_; refine WR_pure rfl rfl rfl (by first | exact val_neq_f rfl rfl hk5 | exact val_neq_f rfl rfl hsv | exact val_leq_t rfl rfl hsi) ?_) | refine nX ?_ | (refine nA ?_; intro _) | (refine nW ?_; first | (refine op_call_id ?_; refine op_ro rfl rfl (by first | exact (c_msgOk m _ (hm.mono (by exact kS))).eq (by rw [hok]) | exact (c_shown s0 s1 sv.id now).eq (by rw [hsh])) ?_)) | refine nY ?_ | refine WA_alt ?_ ?_ | refine nR ?_ | refine WC_drawL (id := 1) (ops := o177x1L17) r177x1L17 (by kernel_rfl) rfl ?_ | refine WC_drawL (id := 4) (ops := o177x4L17) r177x4L17 (by kernel_rfl) rfl ?_ | refine WC_drawL (id := 8) (ops := o177x8L17) r177x8L17 (by kernel_rfl) rfl ?_ | refine WC_cond rfl (fun hc => ?_) (fun hc => ?_)))
  refine ret_ret (by exact kR) ?_; exact ⟨(b, cellsO (putC c o (servC sv cs ts)) T) :: (es ++ L0), by exact kP, cs, ts, es, [], ⟨rfl, rfl⟩, hown, rfl⟩
theorem c_servHear6 (hk5 : m.kind = 5) (hok : msgOk m = true) (hsv : m.serv = sv.id) (hsh : shown (sealAt m 0) (sealAt m 1) sv.id now = true) (hsi : sv.since < (sealAt m 1).b) : Tri Tryz.prog 177 [.pointer (some ⟨b, o, none⟩), msgV m sm, I now] ((b, cellsO (putC c o (servC sv cs ts)) T) :: (es ++ L0)) (SrvR L0 b o c T (servHear sv m now)) := by
  obtain ⟨s0, s1, hs, _, _⟩ := seals2 hok (.inr (.inr (.inr hk5)))
  have hm' := hm
  simp only [MsgAt, hs] at hm'
  obtain ⟨bs, os, cc, Ts, frs, cx, rfl, hmem, ht0, ht1⟩ := read2 hm'
  obtain ⟨hs0, hs1⟩ := sealAt0 hs
  rw [hs0, hs1] at hsh
  rw [hs1] at hsi
  have h0 : servHear sv m now = if canKeep sv.cache s1 now = false then ({ sv with cache := remember sv.cache s1 now }, none) else ({ sv with cache := remember sv.cache s1 now, took := sv.took ++ [⟨s1.a, s1.key, s1.b, s1.c⟩] }, some ⟨6, s1.a, 0, 0, [mkBack s1.key s1.b s1.c]⟩) := by
    unfold servHear
    rw [hs0, hs1]
    exact if_neg (by rw [not_or, not_or, not_or, not_or]; exact ⟨fun h => h hk5, by simp [hok], fun h => h hsv, by simp [hsh], by omega⟩)
  obtain ⟨a3, n3, c3⟩ := ts
  obtain ⟨e1, e2, rfl, h1, h2⟩ := hown
  dsimp only at h1 h2
  simp only [List.append_assoc]
  refine Tri.of Tryz.func177 rfl rfl Tryz.ntmps177 rfl rfl ?_
  (repeat' (first | (refine nW ?_; refine op_val rfl (by first | exact val_neq_f rfl rfl hk5 | exact val_neq_f rfl rfl hsv | exact val_leq_f rfl rfl hsi) ?_) | (refine WR_id ?_; refine WR_pure rfl rfl rfl (by first | exact val_neq_f rfl rfl hk5 | exact val_neq_f rfl rfl hsv | exact val_leq_f rfl rfl hsi) ?_) | refine nX ?_ | (refine nA ?_; intro _) | (refine nW ?_; first | (refine op_call_id ?_; refine op_ro rfl rfl (by first | exact (c_msgOk m _ (hm.mono (by exact kS))).eq (by rw [hok]) | exact (c_shown s0 s1 sv.id now).eq (by rw [hsh])) ?_) | (refine op_call_id ?_; refine op_call rfl (c_remember cs sv.cache s1 now (h1.atL (by exact kS)) hl ⟨hn.1, by omega⟩) rfl ?_; rintro _ _ ⟨⟨aq, nq, cq⟩, eq, rfl, hrq, rfl⟩)) | refine nY ?_ | refine WA_alt ?_ ?_ | refine nR ?_ | refine WC_drawL (id := 1) (ops := o177x1L17) r177x1L17 (by kernel_rfl) rfl ?_ | refine WC_drawL (id := 4) (ops := o177x4L17) r177x4L17 (by kernel_rfl) rfl ?_ | refine WC_cond rfl (fun hc => ?_) (fun hc => ?_)))
  · have hck : canKeep sv.cache s1 now = false := by simpa using hc
    rw [h0, if_pos hck]
    refine ret_ret (by exact kR) ?_; exact ⟨(b, cellsO (putC c o [I sv.id, I sv.since, .slice aq nq cq, .slice a3 n3 c3]) T) :: (eq ++ (e2 ++ L0)), by exact kP, ⟨aq, nq, cq⟩, ⟨a3, n3, c3⟩, eq ++ e2, [], ⟨rfl, rfl⟩, ⟨eq, e2, rfl, hrq, h2⟩, by simp⟩
  · have hck : canKeep sv.cache s1 now = true := by simpa using hc
    rw [h0, if_neg (by simp [hck])]
    rename_i b4 b6 b8
    (repeat' (first | refine nX ?_ | (refine nA ?_; intro _) | (refine nW ?_; first | (refine go_append ?_; refine op_appendRow (sl := ⟨_, _, _⟩) (sx := ⟨_, _, _⟩) rfl rfl rfl rfl rfl rfl rfl rfl rfl (h2) (by exact kE) (SliceAt.one (x := (⟨s1.a, s1.key, s1.b, s1.c⟩ : Call)) (by exact kM) rfl) (by exact kN) ?_; intro sl' es' hrow' hst')) | refine nY ?_ | refine WA_alt ?_ ?_ | refine nR ?_ | refine WC_drawL (id := 1) (ops := o177x1L17) r177x1L17 (by kernel_rfl) rfl ?_ | refine WC_drawL (id := 4) (ops := o177x4L17) r177x4L17 (by kernel_rfl) rfl ?_ | refine WC_draw (id := 8) (ops := o177x8L17) ([(b8, cellsO (sealC s1) 155), (b, cellsO (putC c o [I sv.id, I sv.since, .slice aq nq cq, .slice a3 n3 c3]) T)]) r177x8L17 (by kernel_rfl) rfl ?_ | refine WC_cond rfl (fun hc => ?_) (fun hc => ?_)))
    rename_i b10 b11
    refine ret_ret (by exact kR) ?_; exact ⟨[(b11, cellsO (sealC (mkBack s1.key s1.b s1.c)) 155)] ++ ((b, cellsO (putC c o [I sv.id, I sv.since, .slice aq nq cq, sl'.v]) T) :: (eq ++ (es' ++ L0))), by exact kP, ⟨aq, nq, cq⟩, sl', eq ++ es', [(b11, cellsO (sealC (mkBack s1.key s1.b s1.c)) 155)], ⟨⟨_, _, _⟩, rfl, Row.lit (cs := sealC (mkBack s1.key s1.b s1.c)) (xs := [mkBack s1.key s1.b s1.c]) (by simp [Enc.row, encSeal]) (by simp [lim])⟩, ⟨eq, es', rfl, hrq, hrow'⟩, by simp⟩
theorem c_servHear : Tri Tryz.prog 177 [.pointer (some ⟨b, o, none⟩), msgV m sm, I now] ((b, cellsO (putC c o (servC sv cs ts)) T) :: (es ++ L0)) (SrvR L0 b o c T (servHear sv m now)) := by
  by_cases hk5 : m.kind = 5
  · cases hok : msgOk m with
    | false => exact c_servHear2 b o c T sv cs ts m sm now es ho hn hl hl2 hown hm hk5 hok
    | true =>
      by_cases hsv : m.serv = sv.id
      · cases hsh : shown (sealAt m 0) (sealAt m 1) sv.id now with
        | false => exact c_servHear4 b o c T sv cs ts m sm now es ho hn hl hl2 hown hm hk5 hok hsv hsh
        | true =>
          by_cases hsi : (sealAt m 1).b ≤ sv.since
          · exact c_servHear5 b o c T sv cs ts m sm now es ho hn hl hl2 hown hm hk5 hok hsv hsh hsi
          · exact c_servHear6 b o c T sv cs ts m sm now es ho hn hl hl2 hown hm hk5 hok hsv hsh (by omega)
      · exact c_servHear3 b o c T sv cs ts m sm now es ho hn hl hl2 hown hm hk5 hok hsv
  · exact c_servHear1 b o c T sv cs ts m sm now es ho hn hl hl2 hown hm hk5
end
end Go.Proofs.YtoledfhjmdpihaaGreat
/- Worlds: what is sent; whose keys. -/
set_option linter.unusedVariables false
set_option linter.unusedSectionVars false
set_option linter.unusedSimpArgs false
namespace Go.Proofs.YtoledfhjmdpihaaGreat
open Go Go.Proofs Go.Proofs.YtoledfhjmdpihaaGreat.VE
attribute [local irreducible] Val Op1 WO WR WA WC seqQ blockQ loopQ retQ
noncomputable def o100x3L19 : Array Oper := cops (cl (cr (cr (codeOf Tryz.f100))))
noncomputable def r100x3L19 : Run := (.st 0 0 (.st 1 0 (.st 2 0 (.st 3 0 (.st 4 1 (.st 5 1 (.st 6 2 (.st 7 2 (.st 8 3 (.st 9 0 (.st 10 0 (.st 11 3 .done))))))))))))
set_option maxHeartbeats 4000000
def WldR (L0 : List Ent) (bw : Nat) (w : World) (L' : List Ent) : Prop := ∃ q ps ss ms ek ec ca es sa el la, WldOwn w q ps ss ms ek ec ca es sa el la ∧ L' = (bw, cellsO (worldC w q) 43) :: (wldE ek ec ca es sa el la ++ L0)
theorem ms_len {w : World} {q : WSl} {ps : List (Client × CSl)} {ss : List (Serv × (Sl × Sl))} {ms : List (Msg × Sl)} {ek ec ca es sa el la : List Ent} (hown : WldOwn w q ps ss ms ek ec ca es sa el la) : ms.length = w.log.length := by rw [← hown.me]; simp
section
variable {L0 : List Ent} (bw : Nat) (w : World) (q : WSl) (ps : List (Client × CSl)) (ss : List (Serv × (Sl × Sl))) (ms : List (Msg × Sl)) (ek ec ca es sa el la : List Ent) (hown : WldOwn w q ps ss ms ek ec ca es sa el la) (m : Msg) (sm : Sl)
include hown
theorem c_send1 : Tri Tryz.prog 100 [.pointer (some ⟨bw, 0, none⟩), msgV m sm, B false] ((bw, cellsO (worldC w q) 43) :: (wldE ek ec ca es sa el la ++ L0)) (fun v L' => v = B false ∧ WldR L0 bw w L') := by
  refine Tri.of Tryz.func100 rfl rfl Tryz.ntmps100 rfl rfl ?_
  (repeat' (first | refine nX ?_ | (refine nA ?_; intro _) | refine nY ?_ | refine WA_alt ?_ ?_ | refine nR ?_ | refine WC_drawL (id := 3) (ops := o100x3L19) r100x3L19 (by kernel_rfl) rfl ?_ | refine WC_cond rfl (fun hc => ?_) (fun hc => ?_)))
  refine ret_ret (by exact kR) ?_; exact ⟨(bw, cellsO (worldC w q) 43) :: (wldE ek ec ca es sa el la ++ L0), by exact kP, rfl, q, ps, ss, ms, ek, ec, ca, es, sa, el, la, hown, rfl⟩
variable (hll : w.log.length ≤ 80)
include hll
theorem c_send2 (hfull : 80 ≤ w.log.length) : Tri Tryz.prog 100 [.pointer (some ⟨bw, 0, none⟩), msgV m sm, B true] ((bw, cellsO (worldC w q) 43) :: (wldE ek ec ca es sa el la ++ L0)) (fun v L' => v = B false ∧ WldR L0 bw w L') := by
  have hl := ms_len hown
  obtain ⟨kc, cs, ss', ⟨a, n, cap⟩⟩ := q
  have hn := hown.mr.n
  dsimp only at hn
  subst hn
  refine Tri.of Tryz.func100 rfl rfl Tryz.ntmps100 rfl rfl ?_
  (repeat' (first | (refine nW ?_; refine op_val rfl (by first | exact val_geq_t rfl rfl (by first | omega | (dsimp only; omega))) ?_) | (refine WR_id ?_; refine WR_pure rfl rfl rfl (by first | exact val_geq_t rfl rfl (by first | omega | (dsimp only; omega))) ?_) | refine nX ?_ | (refine nA ?_; intro _) | refine nY ?_ | refine WA_alt ?_ ?_ | refine nR ?_ | refine WC_drawL (id := 3) (ops := o100x3L19) r100x3L19 (by kernel_rfl) rfl ?_ | refine WC_cond rfl (fun hc => ?_) (fun hc => ?_)))
  refine ret_ret (by exact kR) ?_; exact ⟨(bw, cellsO (worldC w ⟨kc, cs, ss', ⟨a, ms.length, cap⟩⟩) 43) :: (wldE ek ec ca es sa el la ++ L0), by exact kP, rfl, _, ps, ss, ms, ek, ec, ca, es, sa, el, la, hown, rfl⟩
variable (hm : MsgAt L0 m sm) (hml : m.seals.length ≤ lim)
include hm hml
theorem c_send3 (hroom : w.log.length < 80) : Tri Tryz.prog 100 [.pointer (some ⟨bw, 0, none⟩), msgV m sm, B true] ((bw, cellsO (worldC w q) 43) :: (wldE ek ec ca es sa el la ++ L0)) (fun v L' => v = B true ∧ WldR L0 bw { w with log := w.log ++ [m] } L') := by
  have hl := ms_len hown
  obtain ⟨kc, cs, ss', ⟨a, n, cap⟩⟩ := q
  have hn := hown.mr.n
  dsimp only at hn
  subst hn
  have hmr := hown.mr
  dsimp only at hmr
  simp only [wldE, List.append_assoc]
  refine Tri.of Tryz.func100 rfl rfl Tryz.ntmps100 rfl rfl ?_
  (repeat' (first | (refine nW ?_; refine op_val rfl (by first | exact val_geq_f rfl rfl (by first | omega | (dsimp only; omega))) ?_) | (refine WR_id ?_; refine WR_pure rfl rfl rfl (by first | exact val_geq_f rfl rfl (by first | omega | (dsimp only; omega))) ?_) | refine nX ?_ | (refine nA ?_; intro _) | refine nY ?_ | refine WA_alt ?_ ?_ | refine nR ?_ | refine WC_cond rfl (fun hc => ?_) (fun hc => ?_)))
  rename_i b4
  (repeat' (first | refine nX ?_ | (refine nA ?_; intro _) | (refine nW ?_; first | (refine op_call_id ?_; refine op_call rfl (c_msgCopied m sm (hm.mono (by exact kS)) hml) rfl ?_; rintro _ _ ⟨s2, e2, rfl, hr2, rfl⟩) | (refine go_append ?_; refine op_appendRow (sl := ⟨_, _, _⟩) (sx := ⟨_, _, _⟩) rfl rfl rfl rfl rfl rfl rfl rfl rfl (hmr) (by exact kE) (SliceAt.one (E := encMsg) (x := (m, s2)) (by exact kM) rfl) (by exact kN) ?_; intro sl' es' hrow' hst')) | refine nY ?_ | refine WA_alt ?_ ?_ | refine nR ?_ | refine WC_draw (id := 3) (ops := o100x3L19) ([(b4, cellsO (msgC m sm) 47), (bw, cellsO (worldC w ⟨kc, cs, ss', ⟨a, ms.length, cap⟩⟩) 43)]) r100x3L19 (by kernel_rfl) rfl ?_))
  refine ret_ret (by exact kR) ?_; exact ⟨(bw, cellsO (worldC { w with log := w.log ++ [m] } ⟨kc, cs, ss', sl'⟩) 43) :: (ek ++ (ec ++ (ca ++ (es ++ (sa ++ (es' ++ (la ++ (e2 ++ L0)))))))), by exact kP, rfl, ⟨kc, cs, ss', sl'⟩, ps, ss, ms ++ [(m, s2)], ek, ec, ca, es, sa, es', la ++ e2, ⟨hown.kc, hown.pe, hown.pr, hown.pa, hown.se, hown.sr, hown.sa, by simp [hown.me], hrow', hown.ma.snoc hr2⟩, by simp [wldE]⟩
end
theorem c_own {L : List Ent} (bw : Nat) (w : World) (q : WSl) (hm : (bw, cellsO (worldC w q) 43) ∈ L) : Tri Tryz.prog 102 [.pointer (some ⟨bw, 0, none⟩)] L (fun v L' => ∃ s es, v = s.v ∧ Row encInt 3 s (own w) es ∧ L' = es ++ L) := by
  by_cases hb : w.bad = 0
  · have he : own w = [] := by unfold own; exact if_pos hb
    rw [he]
    refine Tri.of Tryz.func102 rfl rfl Tryz.ntmps102 rfl rfl ?_
    (repeat' (first | (refine nW ?_; refine op_val rfl (by exact val_eql_t rfl rfl hb) ?_) | refine nX ?_ | (refine nA ?_; intro _) | refine nY ?_ | refine nR ?_ | refine WC_cond rfl (fun hc => ?_) (fun hc => ?_)))
    refine ret_ret (by exact kR) ?_; exact ⟨L, by exact kP, Sl.nil, [], rfl, Row.nil, rfl⟩
  · have he : own w = [w.bad] := by unfold own; exact if_neg hb
    rw [he]
    refine Tri.of Tryz.func102 rfl rfl Tryz.ntmps102 rfl rfl ?_
    (repeat' (first | (refine nW ?_; refine op_val rfl (by exact val_eql_f rfl rfl hb) ?_) | refine nX ?_ | (refine nA ?_; intro _) | refine nY ?_ | refine nR ?_ | refine WC_cond rfl (fun hc => ?_) (fun hc => ?_)))
    rename_i b1
    refine ret_ret (by exact kR) ?_; exact ⟨[(b1, _)] ++ L, by exact kP, ⟨_, _, _⟩, _, rfl, Row.lit (xs := [w.bad]) (by simp [Enc.row, encInt]) (by simp [lim]), rfl⟩
theorem c_honest0 {L : List Ent} (bw : Nat) (w : World) (q : WSl) (id : Int) (hm : (bw, cellsO (worldC w q) 43) ∈ L) (h : userOk id = false ∨ id = w.bad) : RO Tryz.prog 171 [.pointer (some ⟨bw, 0, none⟩), I id] L (.pointer none) := by
  cases hu : userOk id with
  | false =>
    refine Tri.of Tryz.func171 rfl rfl Tryz.ntmps171 rfl rfl ?_
    (repeat' (first | refine nX ?_ | (refine nA ?_; intro _) | (refine nW ?_; first | (refine op_call_id ?_; refine op_ro rfl rfl (by exact (c_userOk id).eq (congrArg B hu)) ?_)) | refine nY ?_ | refine nR ?_ | refine WC_cond rfl (fun hc => ?_) (fun hc => ?_)))
    refine ro_ret (by exact kR) (by exact kL) ?_; rfl
  | true =>
    have hb : id = w.bad := by
      rcases h with h | h
      · rw [h] at hu; cases hu
      · exact h
    refine Tri.of Tryz.func171 rfl rfl Tryz.ntmps171 rfl rfl ?_
    (repeat' (first | (refine nW ?_; refine op_val rfl (by exact val_eql_t rfl rfl hb) ?_) | refine nX ?_ | (refine nA ?_; intro _) | (refine nW ?_; first | (refine op_call_id ?_; refine op_ro rfl rfl (by exact (c_userOk id).eq (congrArg B hu)) ?_)) | refine nY ?_ | refine nR ?_ | refine WC_cond rfl (fun hc => ?_) (fun hc => ?_)))
    refine ro_ret (by exact kR) (by exact kL) ?_; rfl
theorem c_honest1 {L : List Ent} (bw : Nat) (w : World) (kc ss ls : Sl) (g cap : Nat) (id : Int) (hm : (bw, cellsO (worldC w ⟨kc, ⟨some ⟨g, 0, none⟩, 3, cap⟩, ss, ls⟩) 43) ∈ L) (hu : userOk id = true) (hi : 1 ≤ id ∧ id ≤ 3) (hb : id ≠ w.bad) :
    RO Tryz.prog 171 [.pointer (some ⟨bw, 0, none⟩), I id] L (.pointer (some ⟨g, 0 + (id - 1).toNat * 6, none⟩)) := by
  refine Tri.of Tryz.func171 rfl rfl Tryz.ntmps171 rfl rfl ?_
  (repeat' (first | (refine nW ?_; refine op_val rfl (by exact val_eql_f rfl rfl hb) ?_) | refine nX ?_ | (refine nA ?_; intro _) | (refine nW ?_; first | (refine op_call_id ?_; refine op_ro rfl rfl (by exact (c_userOk id).eq (congrArg B hu)) ?_)) | refine nY ?_ | refine nR ?_ | refine WC_cond rfl (fun hc => ?_) (fun hc => ?_)))
  refine ro_ret (by exact kR) (by exact kL) ?_; rfl
/-- It is sent, or it is not; what comes back says whether. -/
theorem c_send {L L0 : List Ent} (bw : Nat) (w : World) (q : WSl) (ps : List (Client × CSl)) (ss : List (Serv × (Sl × Sl))) (ms : List (Msg × Sl)) (ek ec ca es sa el la : List Ent) (hL : L.Perm ((bw, cellsO (worldC w q) 43) :: (wldE ek ec ca es sa el la ++ L0))) (hown : WldOwn w q ps ss ms ek ec ca es sa el la) (m : Msg) (sm : Sl) (ok : Bool) (hll : w.log.length ≤ 80) (hm : ok = true → MsgAt L0 m sm) (hml : ok = true → m.seals.length ≤ lim) :
    Tri Tryz.prog 100 [.pointer (some ⟨bw, 0, none⟩), msgV m sm, B ok] L (fun v L' => v = B (decide (w.log.length < (send w (if ok then some m else none)).log.length)) ∧ WldR L0 bw (send w (if ok then some m else none)) L') := by
  refine Tri.perm ?_ hL
  cases ok with
  | false =>
    refine (c_send1 bw w q ps ss ms ek ec ca es sa el la hown m sm).mono fun v L' h => ?_
    simpa [send] using h
  | true =>
    by_cases hr : w.log.length < 80
    · refine (c_send3 bw w q ps ss ms ek ec ca es sa el la hown m sm hll (hm rfl) (hml rfl) hr).mono fun v L' h => ?_
      simpa [send, hr] using h
    · refine (c_send2 bw w q ps ss ms ek ec ca es sa el la hown m sm hll (by omega)).mono fun v L' h => ?_
      simpa [send, hr] using h
end Go.Proofs.YtoledfhjmdpihaaGreat
/- Users: whom they met. -/
set_option linter.unusedVariables false
set_option linter.unusedSectionVars false
set_option linter.unusedSimpArgs false
namespace Go.Proofs.YtoledfhjmdpihaaGreat
open Go Go.Proofs Go.Proofs.YtoledfhjmdpihaaGreat.VE
attribute [local irreducible] Val Op1 WO WR WA WC seqQ blockQ loopQ retQ
noncomputable def o209x4L20 : Array Oper := cops (cl (cr (cl (cl (cr (cr (cl (cl (cr (cr (codeOf Tryz.f209)))))))))))
noncomputable def o209x5L20 : Array Oper := cops (cl (cr (cr (cl (cl (cr (cr (cl (cl (cr (cr (codeOf Tryz.f209))))))))))))
noncomputable def r209x4L20 : Run := (.st 0 0 (.st 1 1 (.st 2 0 (.st 3 0 (.st 4 0 (.st 5 1 (.st 6 0 (.st 7 1 (.st 8 0 (.st 9 0 (.st 10 0 (.st 11 0 (.st 12 1 (.st 13 0 (.st 14 1 (.st 15 0 (.st 16 0 (.st 17 0 (.st 18 0 (.st 19 1 (.st 20 0 (.st 21 1 (.st 22 0 (.st 23 0 (.st 24 0 (.st 25 0 (.st 26 0 (.st 27 0 (.st 28 1 (.st 29 1 (.st 30 3 (.st 31 0 (.st 32 0 .done)))))))))))))))))))))))))))))))))
noncomputable def r209x5L20 : Run := (.st 0 0 (.st 1 0 (.st 2 0 (.st 3 0 (.st 4 1 (.st 5 1 (.st 6 2 (.st 7 3 (.st 8 0 (.st 9 0 (.st 10 3 .done)))))))))))
set_option maxHeartbeats 4000000
theorem drop_cons {X : Type} {xs : List X} {k : Nat} {y : X} (h : xs[k]? = some y) : xs.drop k = y :: xs.drop (k + 1) := by
  obtain ⟨hlt, he⟩ := List.getElem?_eq_some_iff.1 h
  rw [← he, List.getElem_cons_drop]
section
variable {L0 : List Ent} (b o : Nat) (c : List Value) (T : TypeId) (cl : Client) (s : CSl) (es : List Ent) (sl : Seal) (ho : o + 6 ≤ c.length) (hlen : cl.met.length + cl.sent.length ≤ 1000) (hown : CliOwn (cl, s) es)
include ho hlen hown
theorem c_met : Tri Tryz.prog 209 [.pointer (some ⟨b, o, none⟩), sealV sl] ((b, cellsO (putC c o (clientC cl s)) T) :: (es ++ L0)) (CliH L0 b o c T (met cl sl)) := by
  obtain ⟨sw, sc, ⟨a3, n3, c3⟩, sm⟩ := s
  obtain ⟨e1, e2, e3, e4, rfl, h1, h2, h3, h4⟩ := hown
  dsimp only at h1 h2 h3 h4
  have hat3 := h3.at
  obtain ⟨hn3, hc3, hb3, hat⟩ := hat3
  dsimp only at hn3 hc3
  subst hn3
  simp only [big] at hb3
  simp only [List.append_assoc]
  refine Tri.of Tryz.func209 rfl rfl Tryz.ntmps209 rfl rfl ?_
  (repeat' (first | refine nX ?_ | (refine nA ?_; intro _) | refine nY ?_ | refine WA_alt ?_ ?_ | refine nR ?_ | refine WC_drawL (id := 4) (ops := o209x4L20) r209x4L20 (by kernel_rfl) rfl ?_ | refine WC_drawL (id := 5) (ops := o209x5L20) r209x5L20 (by kernel_rfl) rfl ?_))
  rename_i bx
  refine WC_loop (fun mz Ez Mz => ∃ (k : Nat) (mt : List Call) (a2 : Option Addr) (n2 c2 : Nat) (em : List Ent), k + mz = (cl.sent).length ∧ Ez = [(0, .pointer (some ⟨b, o, none⟩)), (3, .pointer (some ⟨bx, 0, none⟩)), (9, .slice a3 cl.sent.length c3), (10, I cl.sent.length), (11, I k)] ∧ Mz = (bx, cellsO (sealC sl) 155) :: (b, cellsO (putC c o [I cl.id, I cl.num, sw.v, sc.v, .slice a3 cl.sent.length c3, .slice a2 n2 c2]) T) :: (e1 ++ (e2 ++ (e3 ++ (em ++ L0)))) ∧ (Row encCall 169 ⟨a2, n2, c2⟩ mt em ∧ metAll sl (cl.sent.drop k) mt = metAll sl cl.sent cl.met ∧ mt.length ≤ cl.met.length + k)) (cl.sent).length (by exact kQ) (by exact kL) ⟨0, cl.met, sm.a, sm.n, sm.c, e4, by omega, rfl, rfl, by exact ⟨h4, rfl, by omega⟩⟩ ?_
  rintro mz Ez Mz ⟨k, mt, a2, n2, c2, em, hk, rfl, rfl, hin⟩
  rcases Nat.lt_or_ge k (cl.sent).length with hlt | hge
  · obtain ⟨y2, hy2⟩ : ∃ y, (cl.sent)[k]? = some y := ⟨(cl.sent)[k]'(by omega), by simp [hlt]⟩; obtain ⟨b'2, o2, cs2, T2, fr2, rfl, hm2, hrow2⟩ := hat (by omega); have hrow'2 := hrow2 k y2 hy2; have htk2 := take_next hy2
    obtain ⟨hr, hma, hml⟩ := hin
    rw [drop_cons hy2] at hma
    simp only [metAll] at hma
    by_cases k1 : sl.kind = 4
    rotate_left
    · (repeat' (first | (refine nW ?_; refine op_val rfl (by first | exact val_eql_t rfl rfl (by assumption) | exact val_eql_f rfl rfl (by assumption)) ?_) | (refine WR_id ?_; refine WR_pure rfl rfl rfl (by first | exact val_eql_t rfl rfl (by assumption) | exact val_eql_f rfl rfl (by assumption)) ?_) | refine nX ?_ | (refine nA ?_; intro _) | refine nY ?_ | refine WA_alt ?_ ?_ | refine nR ?_ | refine WC_drawL (id := 4) (ops := o209x4L20) r209x4L20 (by kernel_rfl) rfl ?_ | refine WC_condT rfl (by exact kD) ?_ | refine WC_condF rfl (by exact kD) ?_ | refine WC_cond rfl (fun hc => ?_) (fun hc => ?_)))
      have hno : ¬ (sl.kind = 4 ∧ y2.key = sl.key ∧ y2.time = sl.a ∧ y2.num = sl.b ∧ y2 ∉ mt) := fun hh => k1 hh.1
      rw [if_neg hno] at hma
      exact loopQ_next ⟨mz - 1, _, _, by omega, by exact kQ, by exact kL, k + 1, mt, a2, n2, c2, em, by omega, rfl, rfl, by exact ⟨hr, hma, by omega⟩⟩
    by_cases k2 : y2.key = sl.key
    rotate_left
    · (repeat' (first | (refine nW ?_; refine op_val rfl (by first | exact val_eql_t rfl rfl (by assumption) | exact val_eql_f rfl rfl (by assumption)) ?_) | (refine WR_id ?_; refine WR_pure rfl rfl rfl (by first | exact val_eql_t rfl rfl (by assumption) | exact val_eql_f rfl rfl (by assumption)) ?_) | refine nX ?_ | (refine nA ?_; intro _) | refine nY ?_ | refine WA_alt ?_ ?_ | refine nR ?_ | refine WC_drawL (id := 4) (ops := o209x4L20) r209x4L20 (by kernel_rfl) rfl ?_ | refine WC_condT rfl (by exact kD) ?_ | refine WC_condF rfl (by exact kD) ?_ | refine WC_cond rfl (fun hc => ?_) (fun hc => ?_)))
      have hno : ¬ (sl.kind = 4 ∧ y2.key = sl.key ∧ y2.time = sl.a ∧ y2.num = sl.b ∧ y2 ∉ mt) := fun hh => k2 hh.2.1
      rw [if_neg hno] at hma
      exact loopQ_next ⟨mz - 1, _, _, by omega, by exact kQ, by exact kL, k + 1, mt, a2, n2, c2, em, by omega, rfl, rfl, by exact ⟨hr, hma, by omega⟩⟩
    by_cases k3 : y2.time = sl.a
    rotate_left
    · (repeat' (first | (refine nW ?_; refine op_val rfl (by first | exact val_eql_t rfl rfl (by assumption) | exact val_eql_f rfl rfl (by assumption)) ?_) | (refine WR_id ?_; refine WR_pure rfl rfl rfl (by first | exact val_eql_t rfl rfl (by assumption) | exact val_eql_f rfl rfl (by assumption)) ?_) | refine nX ?_ | (refine nA ?_; intro _) | refine nY ?_ | refine WA_alt ?_ ?_ | refine nR ?_ | refine WC_drawL (id := 4) (ops := o209x4L20) r209x4L20 (by kernel_rfl) rfl ?_ | refine WC_condT rfl (by exact kD) ?_ | refine WC_condF rfl (by exact kD) ?_ | refine WC_cond rfl (fun hc => ?_) (fun hc => ?_)))
      have hno : ¬ (sl.kind = 4 ∧ y2.key = sl.key ∧ y2.time = sl.a ∧ y2.num = sl.b ∧ y2 ∉ mt) := fun hh => k3 hh.2.2.1
      rw [if_neg hno] at hma
      exact loopQ_next ⟨mz - 1, _, _, by omega, by exact kQ, by exact kL, k + 1, mt, a2, n2, c2, em, by omega, rfl, rfl, by exact ⟨hr, hma, by omega⟩⟩
    by_cases k4 : y2.num = sl.b
    rotate_left
    · (repeat' (first | (refine nW ?_; refine op_val rfl (by first | exact val_eql_t rfl rfl (by assumption) | exact val_eql_f rfl rfl (by assumption)) ?_) | (refine WR_id ?_; refine WR_pure rfl rfl rfl (by first | exact val_eql_t rfl rfl (by assumption) | exact val_eql_f rfl rfl (by assumption)) ?_) | refine nX ?_ | (refine nA ?_; intro _) | refine nY ?_ | refine WA_alt ?_ ?_ | refine nR ?_ | refine WC_drawL (id := 4) (ops := o209x4L20) r209x4L20 (by kernel_rfl) rfl ?_ | refine WC_condT rfl (by exact kD) ?_ | refine WC_condF rfl (by exact kD) ?_ | refine WC_cond rfl (fun hc => ?_) (fun hc => ?_)))
      have hno : ¬ (sl.kind = 4 ∧ y2.key = sl.key ∧ y2.time = sl.a ∧ y2.num = sl.b ∧ y2 ∉ mt) := fun hh => k4 hh.2.2.2.1
      rw [if_neg hno] at hma
      exact loopQ_next ⟨mz - 1, _, _, by omega, by exact kQ, by exact kL, k + 1, mt, a2, n2, c2, em, by omega, rfl, rfl, by exact ⟨hr, hma, by omega⟩⟩
    by_cases k5 : y2 ∈ mt
    · (repeat' (first | (refine nW ?_; refine op_val rfl (by first | exact val_eql_t rfl rfl (by assumption) | exact val_eql_f rfl rfl (by assumption)) ?_) | (refine WR_id ?_; refine WR_pure rfl rfl rfl (by first | exact val_eql_t rfl rfl (by assumption) | exact val_eql_f rfl rfl (by assumption)) ?_) | refine nX ?_ | (refine nA ?_; intro _) | (refine nW ?_; first | (refine op_call_id ?_; refine op_ro rfl rfl (by exact (c_containsimpl.Call ⟨a2, n2, c2⟩ mt y2 (hr.atL (by exact kS))).eq (congrArg B (decide_eq_true k5))) ?_)) | refine nY ?_ | refine WA_alt ?_ ?_ | refine nR ?_ | refine WC_drawL (id := 4) (ops := o209x4L20) r209x4L20 (by kernel_rfl) rfl ?_ | refine WC_condT rfl (by exact kD) ?_ | refine WC_condF rfl (by exact kD) ?_ | refine WC_cond rfl (fun hc => ?_) (fun hc => ?_)))
      have hno : ¬ (sl.kind = 4 ∧ y2.key = sl.key ∧ y2.time = sl.a ∧ y2.num = sl.b ∧ y2 ∉ mt) := fun hh => hh.2.2.2.2 k5
      rw [if_neg hno] at hma
      exact loopQ_next ⟨mz - 1, _, _, by omega, by exact kQ, by exact kL, k + 1, mt, a2, n2, c2, em, by omega, rfl, rfl, by exact ⟨hr, hma, by omega⟩⟩
    · (repeat' (first | (refine nW ?_; refine op_val rfl (by first | exact val_eql_t rfl rfl (by assumption) | exact val_eql_f rfl rfl (by assumption)) ?_) | (refine WR_id ?_; refine WR_pure rfl rfl rfl (by first | exact val_eql_t rfl rfl (by assumption) | exact val_eql_f rfl rfl (by assumption)) ?_) | refine nX ?_ | (refine nA ?_; intro _) | (refine nW ?_; first | (refine op_call_id ?_; refine op_ro rfl rfl (by exact (c_containsimpl.Call ⟨a2, n2, c2⟩ mt y2 (hr.atL (by exact kS))).eq (congrArg B (decide_eq_false k5))) ?_)) | refine nY ?_ | refine WA_alt ?_ ?_ | refine nR ?_ | refine WC_drawL (id := 4) (ops := o209x4L20) r209x4L20 (by kernel_rfl) rfl ?_ | refine WC_condT rfl (by exact kD) ?_ | refine WC_condF rfl (by exact kD) ?_ | refine WC_cond rfl (fun hc => ?_) (fun hc => ?_)))
      rename_i b5
      rw [if_pos ⟨k1, k2, k3, k4, k5⟩] at hma
      (repeat' (first | refine nX ?_ | (refine nA ?_; intro _) | (refine nW ?_; first | (refine go_append ?_; refine op_appendRow (sl := ⟨_, _, _⟩) (sx := ⟨_, _, _⟩) rfl rfl rfl rfl rfl rfl rfl rfl rfl (hr) (by exact kE) (SliceAt.one (x := y2) (by exact kM) rfl) (by exact kN) ?_; intro sl' es' hrow' hst')) | refine nY ?_ | refine WA_alt ?_ ?_ | refine nR ?_ | refine WC_drawL (id := 4) (ops := o209x4L20) r209x4L20 (by kernel_rfl) rfl ?_ | refine WC_draw (id := 5) (ops := o209x5L20) ([(b5, cellsO (callC y2) 169), (b, cellsO (putC c o [I cl.id, I cl.num, sw.v, sc.v, .slice (some ⟨b'2, o2, none⟩) cl.sent.length c3, .slice a2 n2 c2]) T)]) r209x5L20 (by kernel_rfl) rfl ?_))
      obtain ⟨a9, n9, c9⟩ := sl'
      exact loopQ_next ⟨mz - 1, _, _, by omega, by exact kQ, by exact kL, k + 1, mt ++ [y2], a9, n9, c9, es', by omega, rfl, rfl, by exact ⟨hrow', hma, by simp; omega⟩⟩
  · obtain ⟨hr, hma, hml⟩ := hin
    rw [List.drop_of_length_le hge] at hma
    simp only [metAll] at hma
    (repeat' (first | refine nX ?_ | (refine nA ?_; intro _) | refine nY ?_ | refine WA_alt ?_ ?_ | refine nR ?_ | refine WC_drawL (id := 4) (ops := o209x4L20) r209x4L20 (by kernel_rfl) rfl ?_ | refine WC_drawL (id := 5) (ops := o209x5L20) r209x5L20 (by kernel_rfl) rfl ?_ | refine WC_condT rfl (by exact kD) ?_ | refine WC_condF rfl (by exact kD) ?_ | refine WC_cond rfl (fun hc => ?_) (fun hc => ?_)))
    have he : met cl sl = { cl with met := mt } := by unfold met; rw [← hma]
    rw [he]
    refine ret_normal (by exact kR) ?_; exact ⟨(b, cellsO (putC c o [I cl.id, I cl.num, sw.v, sc.v, .slice a3 cl.sent.length c3, .slice a2 n2 c2]) T) :: (e1 ++ (e2 ++ (e3 ++ (em ++ L0)))), by exact kP, rfl, ⟨sw, sc, ⟨a3, cl.sent.length, c3⟩, ⟨a2, n2, c2⟩⟩, e1 ++ (e2 ++ (e3 ++ em)), ⟨e1, e2, e3, em, rfl, h1, h2, h3, hr⟩, by simp⟩
end
end Go.Proofs.YtoledfhjmdpihaaGreat
/- Users: what they hear. -/
set_option linter.unusedVariables false
set_option linter.unusedSectionVars false
set_option linter.unusedSimpArgs false
namespace Go.Proofs.YtoledfhjmdpihaaGreat
open Go Go.Proofs Go.Proofs.YtoledfhjmdpihaaGreat.VE
attribute [local irreducible] Val Op1 WO WR WA WC seqQ blockQ loopQ retQ
noncomputable def o178x10L21 : Array Oper := cops (cl (cr (cr (cl (cr (cr (cr (cl (cr (cr (cr (codeOf Tryz.f178))))))))))))
noncomputable def o178x11L21 : Array Oper := cops (cl (cr (cr (cr (cl (cr (cr (cr (cl (cr (cr (cr (codeOf Tryz.f178)))))))))))))
noncomputable def o178x1L21 : Array Oper := cops (cl (cl (cr (codeOf Tryz.f178))))
noncomputable def o178x5L21 : Array Oper := cops (cl (cr (cl (cr (cl (cr (cr (cr (codeOf Tryz.f178)))))))))
noncomputable def o178x6L21 : Array Oper := cops (cl (cr (cr (cl (cr (cl (cr (cr (cr (codeOf Tryz.f178))))))))))
noncomputable def r178x10L21 : Run := (.st 0 0 (.st 1 0 (.st 2 0 (.st 3 0 (.st 4 1 (.st 5 0 (.st 6 0 (.st 7 0 (.st 8 0 (.st 9 1 (.st 10 0 (.st 11 0 (.st 12 0 (.st 13 1 (.st 14 0 (.st 15 0 (.st 16 0 (.st 17 1 (.st 18 0 (.st 19 0 (.st 20 0 (.st 21 0 (.st 22 1 (.st 23 2 (.st 24 0 .done)))))))))))))))))))))))))
noncomputable def r178x11L21 : Run := (.st 0 0 (.st 1 0 (.st 2 1 (.st 3 0 (.st 4 1 (.st 5 1 (.st 6 3 .done)))))))
noncomputable def r178x1L21 : Run := (.st 0 1 (.st 1 3 (.st 2 0 (.st 3 0 (.st 4 0 (.st 5 1 (.st 6 0 (.st 7 0 (.st 8 0 (.st 9 1 (.st 10 0 (.st 11 0 .done))))))))))))
noncomputable def r178x5L21 : Run := (.st 0 0 (.st 1 1 (.st 2 0 (.st 3 0 (.st 4 0 (.st 5 1 (.st 6 0 (.st 7 0 (.st 8 0 (.st 9 1 (.st 10 0 (.st 11 0 (.st 12 0 (.st 13 0 (.st 14 1 (.st 15 0 (.st 16 0 .done)))))))))))))))))
noncomputable def r178x6L21 : Run := (.st 0 0 (.st 1 0 (.st 2 1 (.st 3 0 (.st 4 1 (.st 5 1 (.st 6 3 .done)))))))
set_option maxHeartbeats 4000000
theorem front2 {e : Ent} {es L L1 L2 : List Ent} (h : L.Perm (e :: L1)) (k : L1.Perm (es ++ L2)) : L.Perm (e :: (es ++ L2)) := h.trans (k.cons e)
theorem sealAt_1 {m : Msg} {s0 : Seal} (h : m.seals = [s0]) : sealAt m 0 = s0 := by simp [sealAt, h]
section
variable {L0 : List Ent} (b o : Nat) (c : List Value) (T : TypeId) (cl : Client) (s : CSl) (es : List Ent) (m : Msg) (sm : Sl) (ho : o + 6 ≤ c.length) (hw : cl.wants.length ≤ 100) (hs : cl.creds.length ≤ 100) (hlen : cl.met.length + cl.sent.length ≤ 1000) (hown : CliOwn (cl, s) es) (hm : MsgAt L0 m sm)
include ho hw hs hlen hown hm
theorem c_hear1 (hok : msgOk m = false) : Tri Tryz.prog 178 [.pointer (some ⟨b, o, none⟩), msgV m sm] ((b, cellsO (putC c o (clientC cl s)) T) :: (es ++ L0)) (CliH L0 b o c T (clientHear cl m)) := by
  have he : clientHear cl m = cl := by unfold clientHear; exact if_pos (.inl hok)
  rw [he]
  refine Tri.of Tryz.func178 rfl rfl Tryz.ntmps178 rfl rfl ?_
  (repeat' (first | refine nX ?_ | (refine nA ?_; intro _) | (refine nW ?_; first | (refine op_call_id ?_; refine op_ro rfl rfl (by exact (c_msgOk m _ (hm.mono (by exact kS))).eq (congrArg B hok)) ?_)) | refine nY ?_ | refine WA_alt ?_ ?_ | refine nR ?_ | refine WC_drawL (id := 1) (ops := o178x1L21) r178x1L21 (by kernel_rfl) rfl ?_ | refine WC_drawL (id := 5) (ops := o178x5L21) r178x5L21 (by kernel_rfl) rfl ?_ | refine WC_drawL (id := 6) (ops := o178x6L21) r178x6L21 (by kernel_rfl) rfl ?_ | refine WC_drawL (id := 10) (ops := o178x10L21) r178x10L21 (by kernel_rfl) rfl ?_ | refine WC_drawL (id := 11) (ops := o178x11L21) r178x11L21 (by kernel_rfl) rfl ?_ | refine WC_cond rfl (fun hc => ?_) (fun hc => ?_)))
  refine ret_ret (by exact kR) ?_; exact ⟨(b, cellsO (putC c o (clientC cl s)) T) :: (es ++ L0), by exact kP, rfl, s, es, hown, rfl⟩
theorem c_hear2 (hok : msgOk m = true) (hne : m.client ≠ cl.id) : Tri Tryz.prog 178 [.pointer (some ⟨b, o, none⟩), msgV m sm] ((b, cellsO (putC c o (clientC cl s)) T) :: (es ++ L0)) (CliH L0 b o c T (clientHear cl m)) := by
  have he : clientHear cl m = cl := by unfold clientHear; exact if_pos (.inr hne)
  rw [he]
  refine Tri.of Tryz.func178 rfl rfl Tryz.ntmps178 rfl rfl ?_
  (repeat' (first | (refine nW ?_; refine op_val rfl (by exact val_neq_t rfl rfl hne) ?_) | (refine WR_id ?_; refine WR_pure rfl rfl rfl (by exact val_neq_t rfl rfl hne) ?_) | refine nX ?_ | (refine nA ?_; intro _) | (refine nW ?_; first | (refine op_call_id ?_; refine op_ro rfl rfl (by exact (c_msgOk m _ (hm.mono (by exact kS))).eq (congrArg B hok)) ?_)) | refine nY ?_ | refine WA_alt ?_ ?_ | refine nR ?_ | refine WC_drawL (id := 1) (ops := o178x1L21) r178x1L21 (by kernel_rfl) rfl ?_ | refine WC_drawL (id := 5) (ops := o178x5L21) r178x5L21 (by kernel_rfl) rfl ?_ | refine WC_drawL (id := 6) (ops := o178x6L21) r178x6L21 (by kernel_rfl) rfl ?_ | refine WC_drawL (id := 10) (ops := o178x10L21) r178x10L21 (by kernel_rfl) rfl ?_ | refine WC_drawL (id := 11) (ops := o178x11L21) r178x11L21 (by kernel_rfl) rfl ?_ | refine WC_cond rfl (fun hc => ?_) (fun hc => ?_)))
  refine ret_ret (by exact kR) ?_; exact ⟨(b, cellsO (putC c o (clientC cl s)) T) :: (es ++ L0), by exact kP, rfl, s, es, hown, rfl⟩
theorem c_hear3 (hok : msgOk m = true) (hcl : m.client = cl.id) (k2 : ¬ m.kind = 2) (k4 : ¬ m.kind = 4) (k6 : ¬ m.kind = 6) : Tri Tryz.prog 178 [.pointer (some ⟨b, o, none⟩), msgV m sm] ((b, cellsO (putC c o (clientC cl s)) T) :: (es ++ L0)) (CliH L0 b o c T (clientHear cl m)) := by
  have he : clientHear cl m = cl := by unfold clientHear; rw [if_neg (by simp [hok, hcl]), if_neg k2, if_neg k4, if_neg k6]
  rw [he]
  refine Tri.of Tryz.func178 rfl rfl Tryz.ntmps178 rfl rfl ?_
  (repeat' (first | (refine nW ?_; refine op_val rfl (by first | exact val_neq_f rfl rfl hcl | exact val_eql_f rfl rfl (by assumption)) ?_) | (refine WR_id ?_; refine WR_pure rfl rfl rfl (by first | exact val_neq_f rfl rfl hcl | exact val_eql_f rfl rfl (by assumption)) ?_) | refine nX ?_ | (refine nA ?_; intro _) | (refine nW ?_; first | (refine op_call_id ?_; refine op_ro rfl rfl (by exact (c_msgOk m _ (hm.mono (by exact kS))).eq (congrArg B hok)) ?_)) | refine nY ?_ | refine WA_alt ?_ ?_ | refine nR ?_ | refine WC_drawL (id := 1) (ops := o178x1L21) r178x1L21 (by kernel_rfl) rfl ?_ | refine WC_drawL (id := 5) (ops := o178x5L21) r178x5L21 (by kernel_rfl) rfl ?_ | refine WC_drawL (id := 6) (ops := o178x6L21) r178x6L21 (by kernel_rfl) rfl ?_ | refine WC_drawL (id := 10) (ops := o178x10L21) r178x10L21 (by kernel_rfl) rfl ?_ | refine WC_drawL (id := 11) (ops := o178x11L21) r178x11L21 (by kernel_rfl) rfl ?_ | refine WC_cond rfl (fun hc => ?_) (fun hc => ?_)))
  refine ret_normal (by exact kR) ?_; exact ⟨(b, cellsO (putC c o (clientC cl s)) T) :: (es ++ L0), by exact kP, rfl, s, es, hown, rfl⟩
theorem c_hear6 (hok : msgOk m = true) (hcl : m.client = cl.id) (k6 : m.kind = 6) : Tri Tryz.prog 178 [.pointer (some ⟨b, o, none⟩), msgV m sm] ((b, cellsO (putC c o (clientC cl s)) T) :: (es ++ L0)) (CliH L0 b o c T (clientHear cl m)) := by
  have k2 : ¬ m.kind = 2 := by omega
  have k4 : ¬ m.kind = 4 := by omega
  obtain ⟨s0, hs0, _⟩ := seals1 hok k6
  have hm' := hm
  simp only [MsgAt, hs0] at hm'
  obtain ⟨bs, os, cc, Ts, frs, cx, rfl, hmem, ht0⟩ := read1 hm'
  have he : clientHear cl m = met cl s0 := by unfold clientHear; rw [if_neg (by simp [hok, hcl]), if_neg k2, if_neg k4, if_pos k6, sealAt_1 hs0]
  rw [he]
  refine Tri.of Tryz.func178 rfl rfl Tryz.ntmps178 rfl rfl ?_
  (repeat' (first | (refine nW ?_; refine op_val rfl (by first | exact val_neq_f rfl rfl hcl | exact val_eql_f rfl rfl (by assumption) | exact val_eql_t rfl rfl (by assumption)) ?_) | (refine WR_id ?_; refine WR_pure rfl rfl rfl (by first | exact val_neq_f rfl rfl hcl | exact val_eql_f rfl rfl (by assumption) | exact val_eql_t rfl rfl (by assumption)) ?_) | refine nX ?_ | (refine nA ?_; intro _) | (refine nW ?_; first | (refine op_call_id ?_; refine op_ro rfl rfl (by exact (c_msgOk m _ (hm.mono (by exact kS))).eq (congrArg B hok)) ?_) | (refine op_call_id ?_; refine op_call rfl ((c_met b o c T cl s es s0 ho hlen hown).perm (front2 (by exact kF) (by exact kE))) rfl ?_; rintro _ _ ⟨rfl, s9, es9, hown9, rfl⟩)) | refine nY ?_ | refine WA_alt ?_ ?_ | refine nR ?_ | refine WC_drawL (id := 1) (ops := o178x1L21) r178x1L21 (by kernel_rfl) rfl ?_ | refine WC_drawL (id := 5) (ops := o178x5L21) r178x5L21 (by kernel_rfl) rfl ?_ | refine WC_drawL (id := 6) (ops := o178x6L21) r178x6L21 (by kernel_rfl) rfl ?_ | refine WC_drawL (id := 10) (ops := o178x10L21) r178x10L21 (by kernel_rfl) rfl ?_ | refine WC_drawL (id := 11) (ops := o178x11L21) r178x11L21 (by kernel_rfl) rfl ?_ | refine WC_cond rfl (fun hc => ?_) (fun hc => ?_)))
  refine ret_normal (by exact kR) ?_; exact ⟨(b, cellsO (putC c o (clientC (met cl s0) s9)) T) :: (es9 ++ L0), by exact kP, rfl, s9, es9, hown9, rfl⟩
theorem c_hear2a (hok : msgOk m = true) (hcl : m.client = cl.id) (k2 : m.kind = 2) (hp : (sealAt m 1).kind = 2 ∧ (sealAt m 1).key = cl.id ∧ (sealAt m 1).a = 6) : Tri Tryz.prog 178 [.pointer (some ⟨b, o, none⟩), msgV m sm] ((b, cellsO (putC c o (clientC cl s)) T) :: (es ++ L0)) (CliH L0 b o c T (clientHear cl m)) := by
  obtain ⟨s0, s1, hss, _, _⟩ := seals2 hok (.inl k2)
  have hm' := hm
  simp only [MsgAt, hss] at hm'
  obtain ⟨bs, os, cc, Ts, frs, cx, rfl, hmem, ht0, ht1⟩ := read2 hm'
  obtain ⟨hs0, hs1⟩ := sealAt0 hss
  have he : clientHear cl m = given cl s0 s1 := by unfold clientHear; rw [if_neg (by simp [hok, hcl]), if_pos k2, if_pos hp, hs0, hs1]
  rw [he]
  rw [hs1] at hp
  obtain ⟨p1, p2, p3⟩ := hp
  refine Tri.of Tryz.func178 rfl rfl Tryz.ntmps178 rfl rfl ?_
  (repeat' (first | (refine nW ?_; refine op_val rfl (by first | exact val_neq_f rfl rfl hcl | exact val_eql_t rfl rfl (by assumption)) ?_) | (refine WR_id ?_; refine WR_pure rfl rfl rfl (by first | exact val_neq_f rfl rfl hcl | exact val_eql_t rfl rfl (by assumption)) ?_) | refine nX ?_ | (refine nA ?_; intro _) | (refine nW ?_; first | (refine op_call_id ?_; refine op_ro rfl rfl (by exact (c_msgOk m _ (hm.mono (by exact kS))).eq (congrArg B hok)) ?_)) | refine nY ?_ | refine WA_alt ?_ ?_ | refine nR ?_ | refine WC_drawL (id := 1) (ops := o178x1L21) r178x1L21 (by kernel_rfl) rfl ?_ | refine WC_drawL (id := 5) (ops := o178x5L21) r178x5L21 (by kernel_rfl) rfl ?_ | refine WC_drawL (id := 10) (ops := o178x10L21) r178x10L21 (by kernel_rfl) rfl ?_ | refine WC_drawL (id := 11) (ops := o178x11L21) r178x11L21 (by kernel_rfl) rfl ?_ | refine WC_cond rfl (fun hc => ?_) (fun hc => ?_)))
  rename_i bp bx
  (repeat' (first | refine nX ?_ | (refine nA ?_; intro _) | (refine nW ?_; first | (refine op_call_id ?_; refine op_call rfl ((c_given b o c T cl s es s0 s1 ho hw hs hown).perm (front2 (by exact kF) (by exact kE))) rfl ?_; rintro _ _ ⟨rfl, s9, es9, hown9, rfl⟩)) | refine nY ?_ | refine WA_alt ?_ ?_ | refine nR ?_ | refine WC_drawL (id := 1) (ops := o178x1L21) r178x1L21 (by kernel_rfl) rfl ?_ | refine WC_drawL (id := 5) (ops := o178x5L21) r178x5L21 (by kernel_rfl) rfl ?_ | refine WC_draw (id := 6) (ops := o178x6L21) ([(bx, cellsO (sealC s1) 155), (bp, cellsO (msgC m ⟨some ⟨bs, os, none⟩, 2, cx⟩) 47), (bs, Obj.cells cc.toArray Ts frs)]) r178x6L21 (by kernel_rfl) rfl ?_ | refine WC_drawL (id := 10) (ops := o178x10L21) r178x10L21 (by kernel_rfl) rfl ?_ | refine WC_drawL (id := 11) (ops := o178x11L21) r178x11L21 (by kernel_rfl) rfl ?_))
  refine ret_normal (by exact kR) ?_; exact ⟨(b, cellsO (putC c o (clientC (given cl s0 s1) s9)) T) :: (es9 ++ L0), by exact kP, rfl, s9, es9, hown9, rfl⟩
theorem c_hear2b (hok : msgOk m = true) (hcl : m.client = cl.id) (k2 : m.kind = 2) (hp : ¬ ((sealAt m 1).kind = 2 ∧ (sealAt m 1).key = cl.id ∧ (sealAt m 1).a = 6)) : Tri Tryz.prog 178 [.pointer (some ⟨b, o, none⟩), msgV m sm] ((b, cellsO (putC c o (clientC cl s)) T) :: (es ++ L0)) (CliH L0 b o c T (clientHear cl m)) := by
  obtain ⟨s0, s1, hss, _, _⟩ := seals2 hok (.inl k2)
  have hm' := hm
  simp only [MsgAt, hss] at hm'
  obtain ⟨bs, os, cc, Ts, frs, cx, rfl, hmem, ht0, ht1⟩ := read2 hm'
  obtain ⟨hs0, hs1⟩ := sealAt0 hss
  have he : clientHear cl m = cl := by unfold clientHear; rw [if_neg (by simp [hok, hcl]), if_pos k2, if_neg hp]
  rw [he]
  rw [hs1] at hp
  by_cases p1 : s1.kind = 2
  · by_cases p2 : s1.key = cl.id
    · have p3 : ¬ s1.a = 6 := fun h => hp ⟨p1, p2, h⟩
      refine Tri.of Tryz.func178 rfl rfl Tryz.ntmps178 rfl rfl ?_
      (repeat' (first | (refine nW ?_; refine op_val rfl (by first | exact val_neq_f rfl rfl hcl | exact val_eql_t rfl rfl (by assumption) | exact val_eql_f rfl rfl (by assumption)) ?_) | (refine WR_id ?_; refine WR_pure rfl rfl rfl (by first | exact val_neq_f rfl rfl hcl | exact val_eql_t rfl rfl (by assumption) | exact val_eql_f rfl rfl (by assumption)) ?_) | refine nX ?_ | (refine nA ?_; intro _) | (refine nW ?_; first | (refine op_call_id ?_; refine op_ro rfl rfl (by exact (c_msgOk m _ (hm.mono (by exact kS))).eq (congrArg B hok)) ?_)) | refine nY ?_ | refine WA_alt ?_ ?_ | refine nR ?_ | refine WC_drawL (id := 1) (ops := o178x1L21) r178x1L21 (by kernel_rfl) rfl ?_ | refine WC_drawL (id := 5) (ops := o178x5L21) r178x5L21 (by kernel_rfl) rfl ?_ | refine WC_drawL (id := 6) (ops := o178x6L21) r178x6L21 (by kernel_rfl) rfl ?_ | refine WC_drawL (id := 10) (ops := o178x10L21) r178x10L21 (by kernel_rfl) rfl ?_ | refine WC_drawL (id := 11) (ops := o178x11L21) r178x11L21 (by kernel_rfl) rfl ?_ | refine WC_cond rfl (fun hc => ?_) (fun hc => ?_)))
      refine ret_normal (by exact kR) ?_; exact ⟨(b, cellsO (putC c o (clientC cl s)) T) :: (es ++ L0), by exact kP, rfl, s, es, hown, rfl⟩
    · refine Tri.of Tryz.func178 rfl rfl Tryz.ntmps178 rfl rfl ?_
      (repeat' (first | (refine nW ?_; refine op_val rfl (by first | exact val_neq_f rfl rfl hcl | exact val_eql_t rfl rfl (by assumption) | exact val_eql_f rfl rfl (by assumption)) ?_) | (refine WR_id ?_; refine WR_pure rfl rfl rfl (by first | exact val_neq_f rfl rfl hcl | exact val_eql_t rfl rfl (by assumption) | exact val_eql_f rfl rfl (by assumption)) ?_) | refine nX ?_ | (refine nA ?_; intro _) | (refine nW ?_; first | (refine op_call_id ?_; refine op_ro rfl rfl (by exact (c_msgOk m _ (hm.mono (by exact kS))).eq (congrArg B hok)) ?_)) | refine nY ?_ | refine WA_alt ?_ ?_ | refine nR ?_ | refine WC_drawL (id := 1) (ops := o178x1L21) r178x1L21 (by kernel_rfl) rfl ?_ | refine WC_drawL (id := 5) (ops := o178x5L21) r178x5L21 (by kernel_rfl) rfl ?_ | refine WC_drawL (id := 6) (ops := o178x6L21) r178x6L21 (by kernel_rfl) rfl ?_ | refine WC_drawL (id := 10) (ops := o178x10L21) r178x10L21 (by kernel_rfl) rfl ?_ | refine WC_drawL (id := 11) (ops := o178x11L21) r178x11L21 (by kernel_rfl) rfl ?_ | refine WC_cond rfl (fun hc => ?_) (fun hc => ?_)))
      refine ret_normal (by exact kR) ?_; exact ⟨(b, cellsO (putC c o (clientC cl s)) T) :: (es ++ L0), by exact kP, rfl, s, es, hown, rfl⟩
  · refine Tri.of Tryz.func178 rfl rfl Tryz.ntmps178 rfl rfl ?_
    (repeat' (first | (refine nW ?_; refine op_val rfl (by first | exact val_neq_f rfl rfl hcl | exact val_eql_t rfl rfl (by assumption) | exact val_eql_f rfl rfl (by assumption)) ?_) | (refine WR_id ?_; refine WR_pure rfl rfl rfl (by first | exact val_neq_f rfl rfl hcl | exact val_eql_t rfl rfl (by assumption) | exact val_eql_f rfl rfl (by assumption)) ?_) | refine nX ?_ | (refine nA ?_; intro _) | (refine nW ?_; first | (refine op_call_id ?_; refine op_ro rfl rfl (by exact (c_msgOk m _ (hm.mono (by exact kS))).eq (congrArg B hok)) ?_)) | refine nY ?_ | refine WA_alt ?_ ?_ | refine nR ?_ | refine WC_drawL (id := 1) (ops := o178x1L21) r178x1L21 (by kernel_rfl) rfl ?_ | refine WC_drawL (id := 5) (ops := o178x5L21) r178x5L21 (by kernel_rfl) rfl ?_ | refine WC_drawL (id := 6) (ops := o178x6L21) r178x6L21 (by kernel_rfl) rfl ?_ | refine WC_drawL (id := 10) (ops := o178x10L21) r178x10L21 (by kernel_rfl) rfl ?_ | refine WC_drawL (id := 11) (ops := o178x11L21) r178x11L21 (by kernel_rfl) rfl ?_ | refine WC_cond rfl (fun hc => ?_) (fun hc => ?_)))
    refine ret_normal (by exact kR) ?_; exact ⟨(b, cellsO (putC c o (clientC cl s)) T) :: (es ++ L0), by exact kP, rfl, s, es, hown, rfl⟩
theorem c_hear4n (hok : msgOk m = true) (hcl : m.client = cl.id) (k4 : m.kind = 4) (hi : credIdx cl 6 = -1) (hc0 : credAt cl 6 = none) : Tri Tryz.prog 178 [.pointer (some ⟨b, o, none⟩), msgV m sm] ((b, cellsO (putC c o (clientC cl s)) T) :: (es ++ L0)) (CliH L0 b o c T (clientHear cl m)) := by
  have k2 : ¬ m.kind = 2 := by omega
  obtain ⟨s0, s1, hss, _, _⟩ := seals2 hok (.inr (.inr (.inl k4)))
  have hm' := hm
  simp only [MsgAt, hss] at hm'
  obtain ⟨bs, os, cc, Ts, frs, cx, rfl, hmem, ht0, ht1⟩ := read2 hm'
  have he : clientHear cl m = cl := by unfold clientHear; rw [if_neg (by simp [hok, hcl]), if_neg k2, if_pos k4, hc0]
  rw [he]
  have hat := hown.at
  refine Tri.of Tryz.func178 rfl rfl Tryz.ntmps178 rfl rfl ?_
  (repeat' (first | (refine nW ?_; refine op_val rfl (by first | exact val_neq_f rfl rfl hcl | exact val_eql_t rfl rfl (by assumption) | exact val_eql_f rfl rfl (by assumption) | exact val_geq_f rfl rfl (by decide)) ?_) | (refine WR_id ?_; refine WR_pure rfl rfl rfl (by first | exact val_neq_f rfl rfl hcl | exact val_eql_t rfl rfl (by assumption) | exact val_eql_f rfl rfl (by assumption) | exact val_geq_f rfl rfl (by decide)) ?_) | refine nX ?_ | (refine nA ?_; intro _) | (refine nW ?_; first | (refine op_call_id ?_; refine op_ro rfl rfl (by first | exact (c_msgOk m _ (hm.mono (by exact kS))).eq (congrArg B hok) | exact (c_cred b o c T cl s _ _ _ _ 6 ho (by exact kM) (hat.c.mono (by exact kS))).eq (by rw [hi])) ?_)) | refine nY ?_ | refine WA_alt ?_ ?_ | refine nR ?_ | refine WC_drawL (id := 1) (ops := o178x1L21) r178x1L21 (by kernel_rfl) rfl ?_ | refine WC_drawL (id := 5) (ops := o178x5L21) r178x5L21 (by kernel_rfl) rfl ?_ | refine WC_drawL (id := 6) (ops := o178x6L21) r178x6L21 (by kernel_rfl) rfl ?_ | refine WC_drawL (id := 10) (ops := o178x10L21) r178x10L21 (by kernel_rfl) rfl ?_ | refine WC_drawL (id := 11) (ops := o178x11L21) r178x11L21 (by kernel_rfl) rfl ?_ | refine WC_cond rfl (fun hc => ?_) (fun hc => ?_)))
  refine ret_normal (by exact kR) ?_; exact ⟨(b, cellsO (putC c o (clientC cl s)) T) :: (es ++ L0), by exact kP, rfl, s, es, hown, rfl⟩
theorem c_hear4a (hok : msgOk m = true) (hcl : m.client = cl.id) (k4 : m.kind = 4) (j : Nat) (x : Cred) (hi : credIdx cl 6 = j) (hx : cl.creds[j]? = some x) (hc0 : credAt cl 6 = some x) (hp : (sealAt m 1).kind = 2 ∧ (sealAt m 1).key = x.key ∧ servOk (sealAt m 1).a = true) : Tri Tryz.prog 178 [.pointer (some ⟨b, o, none⟩), msgV m sm] ((b, cellsO (putC c o (clientC cl s)) T) :: (es ++ L0)) (CliH L0 b o c T (clientHear cl m)) := by
  have k2 : ¬ m.kind = 2 := by omega
  obtain ⟨s0, s1, hss, _, _⟩ := seals2 hok (.inr (.inr (.inl k4)))
  have hm' := hm
  simp only [MsgAt, hss] at hm'
  obtain ⟨bs, os, cc, Ts, frs, cx, rfl, hmem, ht0, ht1⟩ := read2 hm'
  obtain ⟨hs0, hs1⟩ := sealAt0 hss
  have he : clientHear cl m = given cl s0 s1 := by unfold clientHear; rw [if_neg (by simp [hok, hcl]), if_neg k2, if_pos k4, hc0]; simp only []; rw [if_pos hp, hs0, hs1]
  rw [he]
  rw [hs1] at hp
  obtain ⟨p1, p2, p3⟩ := hp
  have hat : SliceAt es encCred s.c cl.creds := hown.at.c
  obtain ⟨sw, ⟨a, n, cap⟩, ss, smm⟩ := s
  dsimp only at hat
  have hcat := hat
  have hlt := (List.getElem?_eq_some_iff.1 hx).1
  obtain ⟨hn', hcap, hbig, hrd⟩ := hat
  simp only [big] at hbig
  replace hn' : n = cl.creds.length := hn'
  subst hn'
  obtain ⟨b', o', cs, T', fr, ha, hmem2, hrow⟩ := hrd (by omega)
  replace ha : a = _ := ha
  subst ha
  have hrow' := hrow j x hx
  refine Tri.of Tryz.func178 rfl rfl Tryz.ntmps178 rfl rfl ?_
  (repeat' (first | (refine nW ?_; refine op_val rfl (by first | exact val_neq_f rfl rfl hcl | exact val_eql_t rfl rfl (by assumption) | exact val_eql_f rfl rfl (by assumption) | exact val_geq_t rfl rfl (by omega)) ?_) | (refine WR_id ?_; refine WR_pure rfl rfl rfl (by first | exact val_neq_f rfl rfl hcl | exact val_eql_t rfl rfl (by assumption) | exact val_eql_f rfl rfl (by assumption) | exact val_geq_t rfl rfl (by omega)) ?_) | refine nX ?_ | (refine nA ?_; intro _) | (refine nW ?_; first | (refine op_call_id ?_; refine op_ro rfl rfl (by first | exact (c_msgOk m _ (hm.mono (by exact kS))).eq (congrArg B hok) | exact (c_cred b o c T cl ⟨sw, _, ss, smm⟩ _ _ _ _ 6 ho (by exact kM) (hcat.mono (by exact kS))).eq (by rw [hi]) | exact (c_servOk _).eq (congrArg B p3)) ?_)) | refine nY ?_ | refine WA_alt ?_ ?_ | refine nR ?_ | refine WC_drawL (id := 1) (ops := o178x1L21) r178x1L21 (by kernel_rfl) rfl ?_ | refine WC_drawL (id := 5) (ops := o178x5L21) r178x5L21 (by kernel_rfl) rfl ?_ | refine WC_drawL (id := 6) (ops := o178x6L21) r178x6L21 (by kernel_rfl) rfl ?_ | refine WC_drawL (id := 10) (ops := o178x10L21) r178x10L21 (by kernel_rfl) rfl ?_ | refine WC_cond rfl (fun hc => ?_) (fun hc => ?_)))
  rename_i bp bx
  (repeat' (first | refine nX ?_ | (refine nA ?_; intro _) | (refine nW ?_; first | (refine op_call_id ?_; refine op_call rfl ((c_given b o c T cl ⟨sw, ⟨some ⟨b', o', none⟩, cl.creds.length, cap⟩, ss, smm⟩ es s0 s1 ho hw hs hown).perm (front2 (by exact kF) (by exact kE))) rfl ?_; rintro _ _ ⟨rfl, s9, es9, hown9, rfl⟩)) | refine nY ?_ | refine WA_alt ?_ ?_ | refine nR ?_ | refine WC_drawL (id := 1) (ops := o178x1L21) r178x1L21 (by kernel_rfl) rfl ?_ | refine WC_drawL (id := 5) (ops := o178x5L21) r178x5L21 (by kernel_rfl) rfl ?_ | refine WC_drawL (id := 6) (ops := o178x6L21) r178x6L21 (by kernel_rfl) rfl ?_ | refine WC_drawL (id := 10) (ops := o178x10L21) r178x10L21 (by kernel_rfl) rfl ?_ | refine WC_draw (id := 11) (ops := o178x11L21) ([(bx, cellsO (sealC s1) 155), (bp, cellsO (msgC m ⟨some ⟨bs, os, none⟩, 2, cx⟩) 47), (bs, Obj.cells cc.toArray Ts frs)]) r178x11L21 (by kernel_rfl) rfl ?_))
  refine ret_normal (by exact kR) ?_; exact ⟨(b, cellsO (putC c o (clientC (given cl s0 s1) s9)) T) :: (es9 ++ L0), by exact kP, rfl, s9, es9, hown9, rfl⟩
theorem c_hear4b (hok : msgOk m = true) (hcl : m.client = cl.id) (k4 : m.kind = 4) (j : Nat) (x : Cred) (hi : credIdx cl 6 = j) (hx : cl.creds[j]? = some x) (hc0 : credAt cl 6 = some x) (hp : ¬ ((sealAt m 1).kind = 2 ∧ (sealAt m 1).key = x.key ∧ servOk (sealAt m 1).a = true)) : Tri Tryz.prog 178 [.pointer (some ⟨b, o, none⟩), msgV m sm] ((b, cellsO (putC c o (clientC cl s)) T) :: (es ++ L0)) (CliH L0 b o c T (clientHear cl m)) := by
  have k2 : ¬ m.kind = 2 := by omega
  obtain ⟨s0, s1, hss, _, _⟩ := seals2 hok (.inr (.inr (.inl k4)))
  have hm' := hm
  simp only [MsgAt, hss] at hm'
  obtain ⟨bs, os, cc, Ts, frs, cx, rfl, hmem, ht0, ht1⟩ := read2 hm'
  obtain ⟨hs0, hs1⟩ := sealAt0 hss
  have he : clientHear cl m = cl := by unfold clientHear; rw [if_neg (by simp [hok, hcl]), if_neg k2, if_pos k4, hc0]; simp only []; rw [if_neg hp]
  rw [he]
  rw [hs1] at hp
  have hat : SliceAt es encCred s.c cl.creds := hown.at.c
  obtain ⟨sw, ⟨a, n, cap⟩, ss, smm⟩ := s
  dsimp only at hat
  have hcat := hat
  have hlt := (List.getElem?_eq_some_iff.1 hx).1
  obtain ⟨hn', hcap, hbig, hrd⟩ := hat
  simp only [big] at hbig
  replace hn' : n = cl.creds.length := hn'
  subst hn'
  obtain ⟨b', o', cs, T', fr, ha, hmem2, hrow⟩ := hrd (by omega)
  replace ha : a = _ := ha
  subst ha
  have hrow' := hrow j x hx
  by_cases p1 : s1.kind = 2
  · by_cases p2 : s1.key = x.key
    · have p3 : servOk s1.a = false := by
        cases h3 : servOk s1.a with
        | false => rfl
        | true => exact (hp ⟨p1, p2, h3⟩).elim
      refine Tri.of Tryz.func178 rfl rfl Tryz.ntmps178 rfl rfl ?_
      (repeat' (first | (refine nW ?_; refine op_val rfl (by first | exact val_neq_f rfl rfl hcl | exact val_eql_t rfl rfl (by assumption) | exact val_eql_f rfl rfl (by assumption) | exact val_geq_t rfl rfl (by omega)) ?_) | (refine WR_id ?_; refine WR_pure rfl rfl rfl (by first | exact val_neq_f rfl rfl hcl | exact val_eql_t rfl rfl (by assumption) | exact val_eql_f rfl rfl (by assumption) | exact val_geq_t rfl rfl (by omega)) ?_) | refine nX ?_ | (refine nA ?_; intro _) | (refine nW ?_; first | (refine op_call_id ?_; refine op_ro rfl rfl (by first | exact (c_msgOk m _ (hm.mono (by exact kS))).eq (congrArg B hok) | exact (c_cred b o c T cl ⟨sw, _, ss, smm⟩ _ _ _ _ 6 ho (by exact kM) (hcat.mono (by exact kS))).eq (by rw [hi]) | exact (c_servOk _).eq (congrArg B p3)) ?_)) | refine nY ?_ | refine WA_alt ?_ ?_ | refine nR ?_ | refine WC_drawL (id := 1) (ops := o178x1L21) r178x1L21 (by kernel_rfl) rfl ?_ | refine WC_drawL (id := 5) (ops := o178x5L21) r178x5L21 (by kernel_rfl) rfl ?_ | refine WC_drawL (id := 6) (ops := o178x6L21) r178x6L21 (by kernel_rfl) rfl ?_ | refine WC_drawL (id := 10) (ops := o178x10L21) r178x10L21 (by kernel_rfl) rfl ?_ | refine WC_drawL (id := 11) (ops := o178x11L21) r178x11L21 (by kernel_rfl) rfl ?_ | refine WC_cond rfl (fun hc => ?_) (fun hc => ?_)))
      refine ret_normal (by exact kR) ?_; exact ⟨(b, cellsO (putC c o (clientC cl ⟨sw, ⟨some ⟨b', o', none⟩, cl.creds.length, cap⟩, ss, smm⟩)) T) :: (es ++ L0), by exact kP, rfl, _, es, hown, rfl⟩
    · refine Tri.of Tryz.func178 rfl rfl Tryz.ntmps178 rfl rfl ?_
      (repeat' (first | (refine nW ?_; refine op_val rfl (by first | exact val_neq_f rfl rfl hcl | exact val_eql_t rfl rfl (by assumption) | exact val_eql_f rfl rfl (by assumption) | exact val_geq_t rfl rfl (by omega)) ?_) | (refine WR_id ?_; refine WR_pure rfl rfl rfl (by first | exact val_neq_f rfl rfl hcl | exact val_eql_t rfl rfl (by assumption) | exact val_eql_f rfl rfl (by assumption) | exact val_geq_t rfl rfl (by omega)) ?_) | refine nX ?_ | (refine nA ?_; intro _) | (refine nW ?_; first | (refine op_call_id ?_; refine op_ro rfl rfl (by first | exact (c_msgOk m _ (hm.mono (by exact kS))).eq (congrArg B hok) | exact (c_cred b o c T cl ⟨sw, _, ss, smm⟩ _ _ _ _ 6 ho (by exact kM) (hcat.mono (by exact kS))).eq (by rw [hi])) ?_)) | refine nY ?_ | refine WA_alt ?_ ?_ | refine nR ?_ | refine WC_drawL (id := 1) (ops := o178x1L21) r178x1L21 (by kernel_rfl) rfl ?_ | refine WC_drawL (id := 5) (ops := o178x5L21) r178x5L21 (by kernel_rfl) rfl ?_ | refine WC_drawL (id := 6) (ops := o178x6L21) r178x6L21 (by kernel_rfl) rfl ?_ | refine WC_drawL (id := 10) (ops := o178x10L21) r178x10L21 (by kernel_rfl) rfl ?_ | refine WC_drawL (id := 11) (ops := o178x11L21) r178x11L21 (by kernel_rfl) rfl ?_ | refine WC_cond rfl (fun hc => ?_) (fun hc => ?_)))
      refine ret_normal (by exact kR) ?_; exact ⟨(b, cellsO (putC c o (clientC cl ⟨sw, ⟨some ⟨b', o', none⟩, cl.creds.length, cap⟩, ss, smm⟩)) T) :: (es ++ L0), by exact kP, rfl, _, es, hown, rfl⟩
  · refine Tri.of Tryz.func178 rfl rfl Tryz.ntmps178 rfl rfl ?_
    (repeat' (first | (refine nW ?_; refine op_val rfl (by first | exact val_neq_f rfl rfl hcl | exact val_eql_t rfl rfl (by assumption) | exact val_eql_f rfl rfl (by assumption) | exact val_geq_t rfl rfl (by omega)) ?_) | (refine WR_id ?_; refine WR_pure rfl rfl rfl (by first | exact val_neq_f rfl rfl hcl | exact val_eql_t rfl rfl (by assumption) | exact val_eql_f rfl rfl (by assumption) | exact val_geq_t rfl rfl (by omega)) ?_) | refine nX ?_ | (refine nA ?_; intro _) | (refine nW ?_; first | (refine op_call_id ?_; refine op_ro rfl rfl (by first | exact (c_msgOk m _ (hm.mono (by exact kS))).eq (congrArg B hok) | exact (c_cred b o c T cl ⟨sw, _, ss, smm⟩ _ _ _ _ 6 ho (by exact kM) (hcat.mono (by exact kS))).eq (by rw [hi])) ?_)) | refine nY ?_ | refine WA_alt ?_ ?_ | refine nR ?_ | refine WC_drawL (id := 1) (ops := o178x1L21) r178x1L21 (by kernel_rfl) rfl ?_ | refine WC_drawL (id := 5) (ops := o178x5L21) r178x5L21 (by kernel_rfl) rfl ?_ | refine WC_drawL (id := 6) (ops := o178x6L21) r178x6L21 (by kernel_rfl) rfl ?_ | refine WC_drawL (id := 10) (ops := o178x10L21) r178x10L21 (by kernel_rfl) rfl ?_ | refine WC_drawL (id := 11) (ops := o178x11L21) r178x11L21 (by kernel_rfl) rfl ?_ | refine WC_cond rfl (fun hc => ?_) (fun hc => ?_)))
    refine ret_normal (by exact kR) ?_; exact ⟨(b, cellsO (putC c o (clientC cl ⟨sw, ⟨some ⟨b', o', none⟩, cl.creds.length, cap⟩, ss, smm⟩)) T) :: (es ++ L0), by exact kP, rfl, _, es, hown, rfl⟩
theorem c_hear : Tri Tryz.prog 178 [.pointer (some ⟨b, o, none⟩), msgV m sm] ((b, cellsO (putC c o (clientC cl s)) T) :: (es ++ L0)) (CliH L0 b o c T (clientHear cl m)) := by
  cases hok : msgOk m with
  | false => exact c_hear1 b o c T cl s es m sm ho hw hs hlen hown hm hok
  | true =>
    by_cases hcl : m.client = cl.id
    rotate_left
    · exact c_hear2 b o c T cl s es m sm ho hw hs hlen hown hm hok hcl
    by_cases k2 : m.kind = 2
    · by_cases hp : (sealAt m 1).kind = 2 ∧ (sealAt m 1).key = cl.id ∧ (sealAt m 1).a = 6
      · exact c_hear2a b o c T cl s es m sm ho hw hs hlen hown hm hok hcl k2 hp
      · exact c_hear2b b o c T cl s es m sm ho hw hs hlen hown hm hok hcl k2 hp
    by_cases k4 : m.kind = 4
    · rcases credIdx_cases cl 6 with ⟨h1, h2⟩ | ⟨j, x, h1, h2, h3, h4⟩
      · exact c_hear4n b o c T cl s es m sm ho hw hs hlen hown hm hok hcl k4 h1 h2
      · by_cases hp : (sealAt m 1).kind = 2 ∧ (sealAt m 1).key = x.key ∧ servOk (sealAt m 1).a = true
        · exact c_hear4a b o c T cl s es m sm ho hw hs hlen hown hm hok hcl k4 j x h1 h2 h4 hp
        · exact c_hear4b b o c T cl s es m sm ho hw hs hlen hown hm hok hcl k4 j x h1 h2 h4 hp
    by_cases k6 : m.kind = 6
    · exact c_hear6 b o c T cl s es m sm ho hw hs hlen hown hm hok hcl k6
    · exact c_hear3 b o c T cl s es m sm ho hw hs hlen hown hm hok hcl k2 k4 k6
end
end Go.Proofs.YtoledfhjmdpihaaGreat
/- Worlds: what is done by one who is in them. -/
set_option linter.unusedVariables false
set_option linter.unusedSectionVars false
set_option linter.unusedSimpArgs false
namespace Go.Proofs.YtoledfhjmdpihaaGreat
open Go Go.Proofs Go.Proofs.YtoledfhjmdpihaaGreat.VE
attribute [local irreducible] Val Op1 WO WR WA WC seqQ blockQ loopQ retQ
set_option maxHeartbeats 4000000
/-! ### How many there can be -/
theorem incr_len {X : Type} (f : X → Int) (n : Int) : ∀ (xs : List X) (lo : Int), lo ≤ n → (∀ x ∈ xs, lo < f x ∧ f x ≤ n) → xs.Pairwise (fun x y => f x < f y) → (xs.length : Int) ≤ n - lo
  | [], lo, hl, _, _ => by simp; omega
  | x :: r, lo, hl, h, hp => by
    obtain ⟨hx, hr⟩ := List.pairwise_cons.1 hp
    have h1 := h x List.mem_cons_self
    have := incr_len f n r (f x) h1.2 (fun y hy => ⟨hx y hy, (h y (List.mem_cons_of_mem _ hy)).2⟩) hr
    simp only [List.length_cons]; omega
theorem nodup3 : ∀ (xs : List Int), xs.Nodup → (∀ x ∈ xs, 4 ≤ x ∧ x ≤ 6) → xs.length ≤ 3
  | [], _, _ => by simp
  | [_], _, _ => by simp
  | [_, _], _, _ => by simp
  | [_, _, _], _, _ => by simp
  | a :: b :: c :: d :: r, hn, h => by
    exfalso
    have ha := h a (by simp)
    have hb := h b (by simp)
    have hc := h c (by simp)
    have hd := h d (by simp)
    simp only [List.nodup_cons, List.mem_cons, not_or] at hn
    obtain ⟨⟨h1, h2, h3, _⟩, ⟨h4, h5, _⟩, ⟨h6, _⟩, _⟩ := hn
    omega
theorem nodup_le {X : Type} [DecidableEq X] : ∀ (a b : List X), a.Nodup → (∀ x ∈ a, x ∈ b) → a.length ≤ b.length
  | [], _, _, _ => by simp
  | x :: r, b, hn, h => by
    have hx := h x List.mem_cons_self
    obtain ⟨h1, h2⟩ := List.nodup_cons.1 hn
    have h3 := nodup_le r (b.erase x) h2 (fun y hy => (List.mem_erase_of_ne (fun e : y = x => h1 (by rw [← e]; exact hy))).2 (h y (List.mem_cons_of_mem _ hy)))
    rw [List.length_erase_of_mem hx] at h3
    have h4 : 0 < b.length := List.length_pos_of_mem hx
    simp only [List.length_cons]; omega
theorem COk.wl {c : Client} (h : COk c) : c.wants.length ≤ 60 := by
  have := incr_len Want.nonce c.num c.wants 0 h.num.1 (fun x hx => (h.wants x hx).2) h.wp
  have := h.num.2; omega
theorem COk.sl {c : Client} (h : COk c) : c.sent.length ≤ 60 := by
  have := incr_len Call.num c.num c.sent 0 h.num.1 (fun x hx => (h.sent x hx).2) h.sp
  have := h.num.2; omega
theorem COk.cl {c : Client} (h : COk c) : c.creds.length ≤ 3 := by
  have := nodup3 (c.creds.map Cred.serv) h.cn (fun x hx => by
    obtain ⟨y, hy, rfl⟩ := List.mem_map.1 hx
    have := h.creds y hy
    simp only [credOk, Bool.and_eq_true] at this
    exact within_iff.1 this.1.1.1)
  simpa using this
theorem COk.ml {c : Client} (h : COk c) : c.met.length ≤ 60 := Nat.le_trans (nodup_le _ _ h.mn h.met) h.sl

theorem Tri.to {P : Program} {f : FuncId} {args : List Value} {L : List Ent} {R R' : Value → List Ent → Prop} (h : Tri P f args L R) (k : ∀ v L', R v L' → ∃ M, SubP L' M ∧ R' v M) : Tri P f args L R' :=
  ⟨h.enters, fun g w hs => (h.calls g w hs).mono fun _ _ ⟨v, L', e, s, r⟩ => let ⟨M, h1, h2⟩ := k v L' r; ⟨v, M, e, h1.lsub g _ s, h2⟩⟩
theorem AnsR.parts {o : Option Msg} {v : Value} {em : List Ent} (h : AnsR o v em) : ∃ (m : Msg) (sm : Sl) (ok : Bool), v = .tuple [msgV m sm, B ok].toArray ∧ Row encSeal 155 sm m.seals em ∧ o = (if ok then some m else none) := by
  cases o with
  | none => obtain ⟨h1, h2⟩ := h; subst h2; exact ⟨Msg.zero, Sl.nil, false, h1, Row.nil, rfl⟩
  | some m => obtain ⟨sm, h1, h2⟩ := h; exact ⟨m, sm, true, h1, h2, rfl⟩
section
variable {w : World} {q : WSl} {ps : List (Client × CSl)} {ss : List (Serv × (Sl × Sl))} {ms : List (Msg × Sl)} {ek ec ca es sa el la : List Ent}
theorem wldE_ca {ca' L0 : List Ent} (h : ca.Perm ca') : (wldE ek ec ca es sa el la ++ L0).Perm (wldE ek ec ca' es sa el la ++ L0) := (((h.append_right _).append_left _).append_left _).append_right _
theorem wldE_sa {sa' L0 : List Ent} (h : sa.Perm sa') : (wldE ek ec ca es sa el la ++ L0).Perm (wldE ek ec ca es sa' el la ++ L0) := (((((h.append_right _).append_left _).append_left _).append_left _).append_left _).append_right _
theorem WldOwn.cli (h : WldOwn w q ps ss ms ek ec ca es sa el la) {i : Nat} {cl : Client} (hi : w.clients[i]? = some cl) :
    ∃ (s : CSl) (g cap : Nat) (c : List Value) (e1 e2 : List Ent), q.cs = ⟨some ⟨g, 0, none⟩, w.clients.length, cap⟩ ∧ 0 + i * 6 + 6 ≤ c.length ∧ ec = [(g, cellsO (putC c (0 + i * 6) (clientC cl s)) 112)] ∧ ca.Perm (e1 ++ e2) ∧ CliOwn (cl, s) e1 ∧
      ∀ r s' e1', CliOwn (r, s') e1' → ∃ ps' ca', ca'.Perm (e1' ++ e2) ∧ WldOwn { w with clients := w.clients.set i r } q ps' ss ms ek [(g, cellsO (putC c (0 + i * 6) (clientC r s')) 112)] ca' es sa el la := by
  have hpl : ps.length = w.clients.length := by rw [← h.pe]; simp
  have hlt := (List.getElem?_eq_some_iff.1 hi).1
  obtain ⟨p, hp⟩ : ∃ p, ps[i]? = some p := ⟨ps[i]'(by omega), by simp [hpl, hlt]⟩
  have hpc : p.1 = cl := by
    have h0 : (ps.map Prod.fst)[i]? = some p.1 := by rw [List.getElem?_map, hp]; rfl
    rw [h.pe, hi] at h0; exact (Option.some.inj h0).symm
  obtain ⟨cl', s⟩ := p
  dsimp only at hpc; subst hpc
  obtain ⟨e1, e2, hperm, hR, hset⟩ := h.pa.get hp
  obtain ⟨g, cap, rest, hq, rfl, hb1, hb2, hb3⟩ := h.pr.block (by omega)
  have hle : (i + 1) * 6 ≤ ps.length * 6 := Nat.mul_le_mul_right _ (by omega)
  have hset0 : ∀ p' : Client × CSl, putC (encClient.row ps ++ rest) (0 + i * 6) (encClient.cells p') = encClient.row (ps.set i p') ++ rest := fun p' => by
    rw [Nat.zero_add]; exact row_set encClient ps p' rest (by omega)
  have hsame : ps.set i (cl', s) = ps := by
    obtain ⟨hl, he⟩ := List.getElem?_eq_some_iff.1 hp
    rw [← he, List.set_getElem_self]
  refine ⟨s, g, cap, encClient.row ps ++ rest, e1, e2, by rw [hq, hpl], ?_, ?_, hperm, hR, fun r s' e1' hr => ?_⟩
  · rw [List.length_append, encClient.row_length]; show 0 + i * 6 + 6 ≤ ps.length * 6 + _; omega
  · have h9 := hset0 (cl', s)
    rw [hsame] at h9
    exact congrArg (fun x => [(g, cellsO x 112)]) h9.symm
  · obtain ⟨ca', h1, h2⟩ := hset (r, s') e1' hr
    refine ⟨ps.set i (r, s'), ca', h2, ?_⟩
    have hk := Row.mk (E := encClient) (T := 112) (g := g) (cap := cap) (rest := rest) (xs := ps.set i (r, s')) (by simpa using hb1) (by simpa using hb2) hb3 (by simpa using h.pr.2)
    rw [← hset0 (r, s')] at hk
    refine ⟨h.kc, by rw [List.map_set, h.pe], ?_, h1, h.se, h.sr, h.sa, h.me, h.mr, h.ma⟩
    rw [hq]; rw [List.length_set] at hk; exact hk
theorem WldOwn.srv (h : WldOwn w q ps ss ms ek ec ca es sa el la) {i : Nat} {sv : Serv} (hi : w.servs[i]? = some sv) :
    ∃ (cs ts : Sl) (g cap : Nat) (c : List Value) (e1 e2 : List Ent), q.ss = ⟨some ⟨g, 0, none⟩, w.servs.length, cap⟩ ∧ 0 + i * 4 + 4 ≤ c.length ∧ es = [(g, cellsO (putC c (0 + i * 4) (servC sv cs ts)) 115)] ∧ sa.Perm (e1 ++ e2) ∧ SrvOwn (sv, cs, ts) e1 ∧
      ∀ r c' t' e1', SrvOwn (r, c', t') e1' → ∃ ss' sa', sa'.Perm (e1' ++ e2) ∧ WldOwn { w with servs := w.servs.set i r } q ps ss' ms ek ec ca [(g, cellsO (putC c (0 + i * 4) (servC r c' t')) 115)] sa' el la := by
  have hpl : ss.length = w.servs.length := by rw [← h.se]; simp
  have hlt := (List.getElem?_eq_some_iff.1 hi).1
  obtain ⟨p, hp⟩ : ∃ p, ss[i]? = some p := ⟨ss[i]'(by omega), by simp [hpl, hlt]⟩
  have hpc : p.1 = sv := by
    have h0 : (ss.map Prod.fst)[i]? = some p.1 := by rw [List.getElem?_map, hp]; rfl
    rw [h.se, hi] at h0; exact (Option.some.inj h0).symm
  obtain ⟨sv', cs, ts⟩ := p
  dsimp only at hpc; subst hpc
  obtain ⟨e1, e2, hperm, hR, hset⟩ := h.sa.get hp
  obtain ⟨g, cap, rest, hq, rfl, hb1, hb2, hb3⟩ := h.sr.block (by omega)
  have hle : (i + 1) * 4 ≤ ss.length * 4 := Nat.mul_le_mul_right _ (by omega)
  have hset0 : ∀ p' : Serv × (Sl × Sl), putC (encServ.row ss ++ rest) (0 + i * 4) (encServ.cells p') = encServ.row (ss.set i p') ++ rest := fun p' => by
    rw [Nat.zero_add]; exact row_set encServ ss p' rest (by omega)
  have hsame : ss.set i (sv', cs, ts) = ss := by
    obtain ⟨hl, he⟩ := List.getElem?_eq_some_iff.1 hp
    rw [← he, List.set_getElem_self]
  refine ⟨cs, ts, g, cap, encServ.row ss ++ rest, e1, e2, by rw [hq, hpl], ?_, ?_, hperm, hR, fun r c' t' e1' hr => ?_⟩
  · rw [List.length_append, encServ.row_length]; show 0 + i * 4 + 4 ≤ ss.length * 4 + _; omega
  · have h9 := hset0 (sv', cs, ts)
    rw [hsame] at h9
    exact congrArg (fun x => [(g, cellsO x 115)]) h9.symm
  · obtain ⟨sa', h1, h2⟩ := hset (r, c', t') e1' hr
    refine ⟨ss.set i (r, c', t'), sa', h2, ?_⟩
    have hk := Row.mk (E := encServ) (T := 115) (g := g) (cap := cap) (rest := rest) (xs := ss.set i (r, c', t')) (by simpa using hb1) (by simpa using hb2) hb3 (by simpa using h.sr.2)
    rw [← hset0 (r, c', t')] at hk
    refine ⟨h.kc, h.pe, h.pr, h.pa, by rw [List.map_set, h.se], ?_, h1, h.me, h.mr, h.ma⟩
    rw [hq]; rw [List.length_set] at hk; exact hk
theorem WldOwn.msg (h : WldOwn w q ps ss ms ek ec ca es sa el la) {i : Nat} {m : Msg} (hi : w.log[i]? = some m) : ∃ sm, ms[i]? = some (m, sm) ∧ MsgAt la m sm := by
  have hpl := ms_len h
  have hlt := (List.getElem?_eq_some_iff.1 hi).1
  obtain ⟨p, hp⟩ : ∃ p, ms[i]? = some p := ⟨ms[i]'(by omega), by simp [hpl, hlt]⟩
  have hpc : p.1 = m := by
    have h0 : (ms.map Prod.fst)[i]? = some p.1 := by rw [List.getElem?_map, hp]; rfl
    rw [h.me, hi] at h0; exact (Option.some.inj h0).symm
  obtain ⟨m', sm⟩ := p
  dsimp only at hpc; subst hpc
  obtain ⟨e1, h1, h2⟩ := h.ma.mem (List.mem_of_getElem? hp)
  exact ⟨sm, hp, h1.atL h2⟩
/-- A world, and what somebody in it answered. -/
def WAns (L0 : List Ent) (bw : Nat) (w : World) (o : Option Msg) (v : Value) (L' : List Ent) : Prop := ∃ m sm ok em q ps ss ms ek ec ca es sa el la, v = .tuple [msgV m sm, B ok].toArray ∧ Row encSeal 155 sm m.seals em ∧ o = (if ok then some m else none) ∧ WldOwn w q ps ss ms ek ec ca es sa el la ∧ L' = (bw, cellsO (worldC w q) 43) :: (wldE ek ec ca es sa el la ++ (em ++ L0))
theorem cli_lift {f : FuncId} {xs : List Value} (bw : Nat) (hown : WldOwn w q ps ss ms ek ec ca es sa el la) {i : Nat} {cl : Client} (hi : w.clients[i]? = some cl) {R : Client × Option Msg}
    (h : ∀ (L1 : List Ent) (g : Nat) (c : List Value) (s : CSl) (e1 : List Ent), (∀ e ∈ la, e ∈ L1) → 0 + i * 6 + 6 ≤ c.length → CliOwn (cl, s) e1 → Tri Tryz.prog f (.pointer (some ⟨g, 0 + i * 6, none⟩) :: xs) ((g, cellsO (putC c (0 + i * 6) (clientC cl s)) 112) :: (e1 ++ L1)) (CliR L1 g (0 + i * 6) c 112 R)) :
    ∃ g cap, q.cs = ⟨some ⟨g, 0, none⟩, w.clients.length, cap⟩ ∧ ∀ L L0, L.Perm ((bw, cellsO (worldC w q) 43) :: (wldE ek ec ca es sa el la ++ L0)) → Tri Tryz.prog f (.pointer (some ⟨g, 0 + i * 6, none⟩) :: xs) L (WAns L0 bw { w with clients := w.clients.set i R.1 } R.2) := by
  obtain ⟨s, g, cap, c, e1, e2, hq, hc, rfl, hperm, hown1, hback⟩ := hown.cli hi
  refine ⟨g, cap, hq, fun L L0 hL => ?_⟩
  have h1 := h ((bw, cellsO (worldC w q) 43) :: (ek ++ (e2 ++ (es ++ (sa ++ (el ++ (la ++ L0))))))) g c s e1 (by exact kS) hc hown1
  refine Tri.to (h1.perm ?_) ?_
  · refine hL.trans (((wldE_ca hperm).cons _).trans ?_)
    simp only [wldE, List.append_assoc, List.cons_append, List.nil_append]
    exact front2 (by exact kF) (by exact kE)
  · rintro v L' ⟨s', es', em, hans, hown', rfl⟩
    obtain ⟨m, sm, ok, rfl, hr, ho⟩ := hans.parts
    obtain ⟨ps', ca', hp', hown2⟩ := hback _ _ _ hown'
    refine ⟨_, SubP.trans (M := (bw, cellsO (worldC w q) 43) :: (wldE ek [(g, cellsO (putC c (0 + i * 6) (clientC R.1 s')) 112)] (es' ++ e2) es sa el la ++ (em ++ L0))) ?_ (Perm.sub ((wldE_ca hp'.symm).cons _)), m, sm, ok, em, q, ps', ss, ms, ek, _, ca', es, sa, el, la, rfl, hr, ho, hown2, rfl⟩
    simp only [wldE, List.append_assoc, List.cons_append, List.nil_append]
    exact kP
theorem cli_liftH {f : FuncId} {xs : List Value} (bw : Nat) (hown : WldOwn w q ps ss ms ek ec ca es sa el la) {i : Nat} {cl : Client} (hi : w.clients[i]? = some cl) {R : Client}
    (h : ∀ (L1 : List Ent) (g : Nat) (c : List Value) (s : CSl) (e1 : List Ent), (∀ e ∈ la, e ∈ L1) → 0 + i * 6 + 6 ≤ c.length → CliOwn (cl, s) e1 → Tri Tryz.prog f (.pointer (some ⟨g, 0 + i * 6, none⟩) :: xs) ((g, cellsO (putC c (0 + i * 6) (clientC cl s)) 112) :: (e1 ++ L1)) (CliH L1 g (0 + i * 6) c 112 R)) :
    ∃ g cap, q.cs = ⟨some ⟨g, 0, none⟩, w.clients.length, cap⟩ ∧ ∀ L L0, L.Perm ((bw, cellsO (worldC w q) 43) :: (wldE ek ec ca es sa el la ++ L0)) → Tri Tryz.prog f (.pointer (some ⟨g, 0 + i * 6, none⟩) :: xs) L (fun v L' => v = .tuple #[] ∧ WldR L0 bw { w with clients := w.clients.set i R } L') := by
  obtain ⟨s, g, cap, c, e1, e2, hq, hc, rfl, hperm, hown1, hback⟩ := hown.cli hi
  refine ⟨g, cap, hq, fun L L0 hL => ?_⟩
  have h1 := h ((bw, cellsO (worldC w q) 43) :: (ek ++ (e2 ++ (es ++ (sa ++ (el ++ (la ++ L0))))))) g c s e1 (by exact kS) hc hown1
  refine Tri.to (h1.perm ?_) ?_
  · refine hL.trans (((wldE_ca hperm).cons _).trans ?_)
    simp only [wldE, List.append_assoc, List.cons_append, List.nil_append]
    exact front2 (by exact kF) (by exact kE)
  · rintro v L' ⟨rfl, s', es', hown', rfl⟩
    obtain ⟨ps', ca', hp', hown2⟩ := hback _ _ _ hown'
    refine ⟨_, SubP.trans (M := (bw, cellsO (worldC w q) 43) :: (wldE ek [(g, cellsO (putC c (0 + i * 6) (clientC R s')) 112)] (es' ++ e2) es sa el la ++ L0)) ?_ (Perm.sub ((wldE_ca hp'.symm).cons _)), rfl, q, ps', ss, ms, ek, _, ca', es, sa, el, la, hown2, rfl⟩
    simp only [wldE, List.append_assoc, List.cons_append, List.nil_append]
    exact kP
theorem srv_lift {f : FuncId} {xs : List Value} (bw : Nat) (hown : WldOwn w q ps ss ms ek ec ca es sa el la) {i : Nat} {sv : Serv} (hi : w.servs[i]? = some sv) {R : Serv × Option Msg}
    (h : ∀ (L1 : List Ent) (g : Nat) (c : List Value) (cs ts : Sl) (e1 : List Ent), (∀ e ∈ la, e ∈ L1) → 0 + i * 4 + 4 ≤ c.length → SrvOwn (sv, cs, ts) e1 → Tri Tryz.prog f (.pointer (some ⟨g, 0 + i * 4, none⟩) :: xs) ((g, cellsO (putC c (0 + i * 4) (servC sv cs ts)) 115) :: (e1 ++ L1)) (SrvR L1 g (0 + i * 4) c 115 R)) :
    ∃ g cap, q.ss = ⟨some ⟨g, 0, none⟩, w.servs.length, cap⟩ ∧ ∀ L L0, L.Perm ((bw, cellsO (worldC w q) 43) :: (wldE ek ec ca es sa el la ++ L0)) → Tri Tryz.prog f (.pointer (some ⟨g, 0 + i * 4, none⟩) :: xs) L (WAns L0 bw { w with servs := w.servs.set i R.1 } R.2) := by
  obtain ⟨cs, ts, g, cap, c, e1, e2, hq, hc, rfl, hperm, hown1, hback⟩ := hown.srv hi
  refine ⟨g, cap, hq, fun L L0 hL => ?_⟩
  have h1 := h ((bw, cellsO (worldC w q) 43) :: (ek ++ (ec ++ (ca ++ (e2 ++ (el ++ (la ++ L0))))))) g c cs ts e1 (by exact kS) hc hown1
  refine Tri.to (h1.perm ?_) ?_
  · refine hL.trans (((wldE_sa hperm).cons _).trans ?_)
    simp only [wldE, List.append_assoc, List.cons_append, List.nil_append]
    exact front2 (by exact kF) (by exact kE)
  · rintro v L' ⟨c', t', es', em, hans, hown', rfl⟩
    obtain ⟨m, sm, ok, rfl, hr, ho⟩ := hans.parts
    obtain ⟨ss', sa', hp', hown2⟩ := hback _ _ _ _ hown'
    refine ⟨_, SubP.trans (M := (bw, cellsO (worldC w q) 43) :: (wldE ek ec ca [(g, cellsO (putC c (0 + i * 4) (servC R.1 c' t')) 115)] (es' ++ e2) el la ++ (em ++ L0))) ?_ (Perm.sub ((wldE_sa hp'.symm).cons _)), m, sm, ok, em, q, ps, ss', ms, ek, ec, ca, _, sa', el, la, rfl, hr, ho, hown2, rfl⟩
    simp only [wldE, List.append_assoc, List.cons_append, List.nil_append]
    exact kP
theorem kdc_lift {L L0 : List Ent} {f : FuncId} {xs : List Value} (bw : Nat) (hown : WldOwn w q ps ss ms ek ec ca es sa el la) {R : Kdc × Option Msg}
    (h : ∀ (L1 : List Ent) (c : List Value), (∀ e ∈ la, e ∈ L1) → 1 + 2 ≤ c.length → Tri Tryz.prog f (.pointer (some ⟨bw, 1, none⟩) :: xs) ((bw, cellsO (putC c 1 [I w.kdc.next, q.kc.v]) 43) :: (ek ++ L1)) (KdcR L1 bw 1 c 43 R))
    (hL : L.Perm ((bw, cellsO (worldC w q) 43) :: (wldE ek ec ca es sa el la ++ L0))) : Tri Tryz.prog f (.pointer (some ⟨bw, 1, none⟩) :: xs) L (WAns L0 bw { w with kdc := R.1 } R.2) := by
  have h1 := h (ec ++ (ca ++ (es ++ (sa ++ (el ++ (la ++ L0)))))) (worldC w q) (by exact kS) (by simp)
  refine Tri.to (h1.perm ?_) ?_
  · refine hL.trans ?_
    simp only [wldE, List.append_assoc]
    exact .refl _
  · rintro v L' ⟨s', es', em, hans, hr', rfl⟩
    obtain ⟨m, sm, ok, rfl, hr, ho⟩ := hans.parts
    refine ⟨(bw, cellsO (worldC { w with kdc := R.1 } { q with kc := s' }) 43) :: (wldE es' ec ca es sa el la ++ (em ++ L0)), ?_, m, sm, ok, em, { q with kc := s' }, ps, ss, ms, es', ec, ca, es, sa, el, la, rfl, hr, ho, ⟨hr', hown.pe, hown.pr, hown.pa, hown.se, hown.sr, hown.sa, hown.me, hown.mr, hown.ma⟩, rfl⟩
    simp only [wldE, List.append_assoc]
    show SubP (em ++ ((bw, cellsO (worldC { w with kdc := R.1 } { q with kc := s' }) 43) :: (es' ++ (ec ++ (ca ++ (es ++ (sa ++ (el ++ (la ++ L0))))))))) _
    exact kP
theorem WldR.sub {A L0 : List Ent} {bw : Nat} {L : List Ent} (h : WldR A bw w L) (hs : SubP A L0) : ∃ M, SubP L M ∧ WldR L0 bw w M := by
  obtain ⟨q, ps, ss, ms, ek, ec, ca, es, sa, el, la, h1, rfl⟩ := h
  exact ⟨(bw, cellsO (worldC w q) 43) :: (wldE ek ec ca es sa el la ++ L0), SubP.front1 (.refl _) (SubP.front (.refl _) hs), q, ps, ss, ms, ek, ec, ca, es, sa, el, la, h1, rfl⟩
end
end Go.Proofs.YtoledfhjmdpihaaGreat
