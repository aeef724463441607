/- A line is done. -/
import Derived.Test.YtoledfhjmdpihaaGreatDoorA24
import Derived.Test.YtoledfhjmdpihaaGreatDoorA22
import Derived.Test.YtoledfhjmdpihaaGreatDoorA12
set_option linter.unusedVariables false
set_option linter.unusedSectionVars false
set_option linter.unusedSimpArgs false
namespace Go.Proofs.YtoledfhjmdpihaaGreatDoor
open Go Go.Proofs Go.Proofs.YtoledfhjmdpihaaGreatDoor.VE
attribute [local irreducible] Val Op1 WO WR WA WC seqQ blockQ loopQ retQ
noncomputable def o35x22T5 : Array Oper := cops (cr (cl (cl (cr (cr (cl (cl (cr (cl (cr (cl (cr (cr (cr (cr (cr (cr (cr (cr (cr (cr (cr (cr (cr (cr (cr (cl (cr (cl (cr (codeOf Tryz.f35)))))))))))))))))))))))))))))))
noncomputable def r35x22T5 : Run := (.st 0 0 (.st 1 0 (.st 4 1 (.st 2 2 (.st 3 0 (.st 5 3 (.st 6 0 (.st 7 0 (.st 8 0 .done)))))))))
set_option maxHeartbeats 8000000
theorem c_number1 {L : List Ent} (s : Sl) (ws : List Str) (h : SliceAt L encTx s ws) : RO Tryz.prog 66 [s.v, I 1] L (I (numAt ws 1)) := c_number s ws 1 h
theorem c_number2 {L : List Ent} (s : Sl) (ws : List Str) (h : SliceAt L encTx s ws) : RO Tryz.prog 66 [s.v, I 2] L (I (numAt ws 2)) := c_number s ws 2 h
/-- Where the first word lies. -/
theorem first_word {L : List Ent} {a : Option Addr} {n c : Nat} {ws : List Str} {x : Str} (h : SliceAt L encTx ⟨a, n, c⟩ ws) (h0 : ws.headD [] = x) (hp : 0 < ws.length) : n = ws.length ∧ ws.length ≤ big ∧ ∃ (b o : Nat) (cs : List Value) (T : TypeId) (fr : Nat × Nat), a = some ⟨b, o, none⟩ ∧ (b, .cells cs.toArray T fr) ∈ L ∧ cs[o + (0 : Int).toNat * 1]? = some (St x) := by
  have hn : n = ws.length := h.1
  have hx : ws[0]? = some x := by
    cases ws with
    | nil => simp at hp
    | cons y ys => simpa using h0
  obtain ⟨b, o, cs, T, fr, ha, hm, htk⟩ := h.cell hx
  have hget := takeC_get (k := 0) htk (v := St x) rfl
  refine ⟨hn, h.2.2.1, b, o, cs, T, fr, ha, hm, ?_⟩
  have he : o + 0 * encTx.sz + 0 = o + (0 : Int).toNat * 1 := by simp [encTx]
  rw [he] at hget
  exact hget
section
variable {L L0 : List Ent} (bw : Nat) (w : World) (q : WSl) (ps : List (Client × CSl)) (ss : List (Serv × (Sl × Sl))) (ms : List (Msg × Sl)) (ek ec ca es sa el la : List Ent) (hL : L.Perm ((bw, cellsO (worldC w q) 62) :: (wldE ek ec ca es sa el la ++ L0))) (hw : WOk w) (hown : WldOwn w q ps ss ms ek ec ca es sa el la) (hte : TookLe 1499900 w) (sl : Sl) (ws : List Str) (hs : SliceAt L0 encTx sl ws) (h0 : 0 < ws.length)
include hL hw hown hte hs h0
theorem c_exAs (hh : ws.headD [] = wAs) : Tri Tryz.prog 35 [.pointer (some ⟨bw, 0, none⟩), sl.v] L (fun v L' => v = St (lineS w ws) ∧ WldR L0 bw (lineW w ws) L') := by
  have hS : lineS w ws = [] := lineS_known (by rw [hh]; rfl)
  obtain ⟨x, hx⟩ : ∃ x, lineW w ws = x := ⟨_, rfl⟩
  have hW : step w ⟨1, numAt ws 1, 0, Msg.zero⟩ = x := by rw [← hx, lineW_as hh]; rw [asks_step (by omega)]
  rw [hS, hx]
  have hdo : ∀ {L1 : List Ent}, L1.Perm ((bw, cellsO (worldC w q) 62) :: (wldE ek ec ca es sa el la ++ L0)) → Tri Tryz.prog 65 [.pointer (some ⟨bw, 0, none⟩), eventV ⟨1, numAt ws 1, 0, Msg.zero⟩ Sl.nil] L1 (fun v L' => v = .tuple #[] ∧ WldR L0 bw x L') := fun hL => hW ▸ c_doP bw w q ps ss ms ek ec ca es sa el la hL hw hown (hte.up (by omega)) ⟨1, numAt ws 1, 0, Msg.zero⟩ Sl.nil SliceAt.nil
  clear hx hW hS
  obtain ⟨a, n, c⟩ := sl
  obtain ⟨rfl, hbig, b, o, cs, T, fr, rfl, hm, hget⟩ := first_word hs hh h0
  simp only [big] at hbig
  refine Tri.perm ?_ hL
  refine Tri.of Tryz.func35 rfl rfl Tryz.ntmps35 rfl rfl ?_
  (repeat' (first | refine nI ?_ | (refine nA ?_; intro _) | (refine nW ?_; first | (refine op_call_id ?_; refine op_ro rfl rfl (by first | exact c_number1 ⟨_, _, _⟩ ws (hs.mono (by exact kS)) | exact c_number2 ⟨_, _, _⟩ ws (hs.mono (by exact kS))) ?_) | (refine op_load_id ?_; refine op_val rfl (by exact val_load1 rfl rfl rfl (by exact kM) hget) ?_) | (refine op_call_id ?_; refine op_call rfl (hdo (front2 (by exact kF) (by exact kE))) rfl ?_; rintro _ _ ⟨rfl, q9, ps9, ss9, ms9, ek9, ec9, ca9, es9, sa9, el9, la9, ho9, rfl⟩) | refine op_val rfl (by exact kStr) ?_) | (refine WR_id ?_; refine WR_pure rfl rfl rfl (by exact kStr) ?_) | (refine WR_id ?_; refine WR_load rfl rfl rfl (by exact val_load1 rfl rfl rfl (by exact kM) hget) (by exact kS) ?_) | refine nY ?_ | refine WA_alt ?_ ?_ | refine nR ?_ | refine WC_drawL (id := 22) (ops := o35x22T5) r35x22T5 (by kernel_rfl) rfl ?_ | refine WC_cond rfl (fun hc => ?_) (fun hc => ?_)))
  refine ret_ret (by exact kR) ?_; exact ⟨(bw, cellsO (worldC x q9) 62) :: (wldE ek9 ec9 ca9 es9 sa9 el9 la9 ++ L0), by exact kP, rfl, q9, ps9, ss9, ms9, ek9, ec9, ca9, es9, sa9, el9, la9, ho9, rfl⟩
theorem c_exTgs (hh : ws.headD [] = wTgs) : Tri Tryz.prog 35 [.pointer (some ⟨bw, 0, none⟩), sl.v] L (fun v L' => v = St (lineS w ws) ∧ WldR L0 bw (lineW w ws) L') := by
  have hS : lineS w ws = [] := lineS_known (by rw [hh]; rfl)
  obtain ⟨x, hx⟩ : ∃ x, lineW w ws = x := ⟨_, rfl⟩
  have hW : step w ⟨2, numAt ws 1, numAt ws 2, Msg.zero⟩ = x := by rw [← hx, lineW_tgs hh]; rw [asks_step (by omega)]
  rw [hS, hx]
  have hdo : ∀ {L1 : List Ent}, L1.Perm ((bw, cellsO (worldC w q) 62) :: (wldE ek ec ca es sa el la ++ L0)) → Tri Tryz.prog 65 [.pointer (some ⟨bw, 0, none⟩), eventV ⟨2, numAt ws 1, numAt ws 2, Msg.zero⟩ Sl.nil] L1 (fun v L' => v = .tuple #[] ∧ WldR L0 bw x L') := fun hL => hW ▸ c_doP bw w q ps ss ms ek ec ca es sa el la hL hw hown (hte.up (by omega)) ⟨2, numAt ws 1, numAt ws 2, Msg.zero⟩ Sl.nil SliceAt.nil
  clear hx hW hS
  obtain ⟨a, n, c⟩ := sl
  obtain ⟨rfl, hbig, b, o, cs, T, fr, rfl, hm, hget⟩ := first_word hs hh h0
  simp only [big] at hbig
  refine Tri.perm ?_ hL
  refine Tri.of Tryz.func35 rfl rfl Tryz.ntmps35 rfl rfl ?_
  (repeat' (first | refine nI ?_ | (refine nA ?_; intro _) | (refine nW ?_; first | (refine op_call_id ?_; refine op_ro rfl rfl (by first | exact c_number1 ⟨_, _, _⟩ ws (hs.mono (by exact kS)) | exact c_number2 ⟨_, _, _⟩ ws (hs.mono (by exact kS))) ?_) | (refine op_load_id ?_; refine op_val rfl (by exact val_load1 rfl rfl rfl (by exact kM) hget) ?_) | (refine op_call_id ?_; refine op_call rfl (hdo (front2 (by exact kF) (by exact kE))) rfl ?_; rintro _ _ ⟨rfl, q9, ps9, ss9, ms9, ek9, ec9, ca9, es9, sa9, el9, la9, ho9, rfl⟩) | refine op_val rfl (by exact kStr) ?_) | (refine WR_id ?_; refine WR_pure rfl rfl rfl (by exact kStr) ?_) | (refine WR_id ?_; refine WR_load rfl rfl rfl (by exact val_load1 rfl rfl rfl (by exact kM) hget) (by exact kS) ?_) | refine nY ?_ | refine WA_alt ?_ ?_ | refine nR ?_ | refine WC_drawL (id := 22) (ops := o35x22T5) r35x22T5 (by kernel_rfl) rfl ?_ | refine WC_cond rfl (fun hc => ?_) (fun hc => ?_)))
  refine ret_ret (by exact kR) ?_; exact ⟨(bw, cellsO (worldC x q9) 62) :: (wldE ek9 ec9 ca9 es9 sa9 el9 la9 ++ L0), by exact kP, rfl, q9, ps9, ss9, ms9, ek9, ec9, ca9, es9, sa9, el9, la9, ho9, rfl⟩
theorem c_exAp (hh : ws.headD [] = wAp) : Tri Tryz.prog 35 [.pointer (some ⟨bw, 0, none⟩), sl.v] L (fun v L' => v = St (lineS w ws) ∧ WldR L0 bw (lineW w ws) L') := by
  have hS : lineS w ws = [] := lineS_known (by rw [hh]; rfl)
  obtain ⟨x, hx⟩ : ∃ x, lineW w ws = x := ⟨_, rfl⟩
  have hW : step w ⟨3, numAt ws 1, numAt ws 2, Msg.zero⟩ = x := by rw [← hx, lineW_ap hh]; rw [asks_step (by omega)]
  rw [hS, hx]
  have hdo : ∀ {L1 : List Ent}, L1.Perm ((bw, cellsO (worldC w q) 62) :: (wldE ek ec ca es sa el la ++ L0)) → Tri Tryz.prog 65 [.pointer (some ⟨bw, 0, none⟩), eventV ⟨3, numAt ws 1, numAt ws 2, Msg.zero⟩ Sl.nil] L1 (fun v L' => v = .tuple #[] ∧ WldR L0 bw x L') := fun hL => hW ▸ c_doP bw w q ps ss ms ek ec ca es sa el la hL hw hown (hte.up (by omega)) ⟨3, numAt ws 1, numAt ws 2, Msg.zero⟩ Sl.nil SliceAt.nil
  clear hx hW hS
  obtain ⟨a, n, c⟩ := sl
  obtain ⟨rfl, hbig, b, o, cs, T, fr, rfl, hm, hget⟩ := first_word hs hh h0
  simp only [big] at hbig
  refine Tri.perm ?_ hL
  refine Tri.of Tryz.func35 rfl rfl Tryz.ntmps35 rfl rfl ?_
  (repeat' (first | refine nI ?_ | (refine nA ?_; intro _) | (refine nW ?_; first | (refine op_call_id ?_; refine op_ro rfl rfl (by first | exact c_number1 ⟨_, _, _⟩ ws (hs.mono (by exact kS)) | exact c_number2 ⟨_, _, _⟩ ws (hs.mono (by exact kS))) ?_) | (refine op_load_id ?_; refine op_val rfl (by exact val_load1 rfl rfl rfl (by exact kM) hget) ?_) | (refine op_call_id ?_; refine op_call rfl (hdo (front2 (by exact kF) (by exact kE))) rfl ?_; rintro _ _ ⟨rfl, q9, ps9, ss9, ms9, ek9, ec9, ca9, es9, sa9, el9, la9, ho9, rfl⟩) | refine op_val rfl (by exact kStr) ?_) | (refine WR_id ?_; refine WR_pure rfl rfl rfl (by exact kStr) ?_) | (refine WR_id ?_; refine WR_load rfl rfl rfl (by exact val_load1 rfl rfl rfl (by exact kM) hget) (by exact kS) ?_) | refine nY ?_ | refine WA_alt ?_ ?_ | refine nR ?_ | refine WC_drawL (id := 22) (ops := o35x22T5) r35x22T5 (by kernel_rfl) rfl ?_ | refine WC_cond rfl (fun hc => ?_) (fun hc => ?_)))
  refine ret_ret (by exact kR) ?_; exact ⟨(bw, cellsO (worldC x q9) 62) :: (wldE ek9 ec9 ca9 es9 sa9 el9 la9 ++ L0), by exact kP, rfl, q9, ps9, ss9, ms9, ek9, ec9, ca9, es9, sa9, el9, la9, ho9, rfl⟩
theorem c_exBring (hh : ws.headD [] = wBring) : Tri Tryz.prog 35 [.pointer (some ⟨bw, 0, none⟩), sl.v] L (fun v L' => v = St (lineS w ws) ∧ WldR L0 bw (lineW w ws) L') := by
  have hS : lineS w ws = [] := lineS_known (by rw [hh]; rfl)
  obtain ⟨x, hx⟩ : ∃ x, lineW w ws = x := ⟨_, rfl⟩
  have hW : step w ⟨4, numAt ws 1, 0, Msg.zero⟩ = x := by rw [← hx, lineW_bring hh]; rw [bring_step]
  rw [hS, hx]
  have hdo : ∀ {L1 : List Ent}, L1.Perm ((bw, cellsO (worldC w q) 62) :: (wldE ek ec ca es sa el la ++ L0)) → Tri Tryz.prog 65 [.pointer (some ⟨bw, 0, none⟩), eventV ⟨4, numAt ws 1, 0, Msg.zero⟩ Sl.nil] L1 (fun v L' => v = .tuple #[] ∧ WldR L0 bw x L') := fun hL => hW ▸ c_doP bw w q ps ss ms ek ec ca es sa el la hL hw hown (hte.up (by omega)) ⟨4, numAt ws 1, 0, Msg.zero⟩ Sl.nil SliceAt.nil
  clear hx hW hS
  obtain ⟨a, n, c⟩ := sl
  obtain ⟨rfl, hbig, b, o, cs, T, fr, rfl, hm, hget⟩ := first_word hs hh h0
  simp only [big] at hbig
  refine Tri.perm ?_ hL
  refine Tri.of Tryz.func35 rfl rfl Tryz.ntmps35 rfl rfl ?_
  (repeat' (first | refine nI ?_ | (refine nA ?_; intro _) | (refine nW ?_; first | (refine op_call_id ?_; refine op_ro rfl rfl (by first | exact c_number1 ⟨_, _, _⟩ ws (hs.mono (by exact kS)) | exact c_number2 ⟨_, _, _⟩ ws (hs.mono (by exact kS))) ?_) | (refine op_load_id ?_; refine op_val rfl (by exact val_load1 rfl rfl rfl (by exact kM) hget) ?_) | (refine op_call_id ?_; refine op_call rfl (hdo (front2 (by exact kF) (by exact kE))) rfl ?_; rintro _ _ ⟨rfl, q9, ps9, ss9, ms9, ek9, ec9, ca9, es9, sa9, el9, la9, ho9, rfl⟩) | refine op_val rfl (by exact kStr) ?_) | (refine WR_id ?_; refine WR_pure rfl rfl rfl (by exact kStr) ?_) | (refine WR_id ?_; refine WR_load rfl rfl rfl (by exact val_load1 rfl rfl rfl (by exact kM) hget) (by exact kS) ?_) | refine nY ?_ | refine WA_alt ?_ ?_ | refine nR ?_ | refine WC_drawL (id := 22) (ops := o35x22T5) r35x22T5 (by kernel_rfl) rfl ?_ | refine WC_cond rfl (fun hc => ?_) (fun hc => ?_)))
  refine ret_ret (by exact kR) ?_; exact ⟨(bw, cellsO (worldC x q9) 62) :: (wldE ek9 ec9 ca9 es9 sa9 el9 la9 ++ L0), by exact kP, rfl, q9, ps9, ss9, ms9, ek9, ec9, ca9, es9, sa9, el9, la9, ho9, rfl⟩
theorem c_exTick (hh : ws.headD [] = wTick) : Tri Tryz.prog 35 [.pointer (some ⟨bw, 0, none⟩), sl.v] L (fun v L' => v = St (lineS w ws) ∧ WldR L0 bw (lineW w ws) L') := by
  have hS : lineS w ws = [] := lineS_known (by rw [hh]; rfl)
  obtain ⟨x, hx⟩ : ∃ x, lineW w ws = x := ⟨_, rfl⟩
  have hW : step w ⟨6, 0, 0, Msg.zero⟩ = x := by rw [← hx, lineW_tick hh]; simp [step]
  rw [hS, hx]
  have hdo : ∀ {L1 : List Ent}, L1.Perm ((bw, cellsO (worldC w q) 62) :: (wldE ek ec ca es sa el la ++ L0)) → Tri Tryz.prog 65 [.pointer (some ⟨bw, 0, none⟩), eventV ⟨6, 0, 0, Msg.zero⟩ Sl.nil] L1 (fun v L' => v = .tuple #[] ∧ WldR L0 bw x L') := fun hL => hW ▸ c_doP bw w q ps ss ms ek ec ca es sa el la hL hw hown (hte.up (by omega)) ⟨6, 0, 0, Msg.zero⟩ Sl.nil SliceAt.nil
  clear hx hW hS
  obtain ⟨a, n, c⟩ := sl
  obtain ⟨rfl, hbig, b, o, cs, T, fr, rfl, hm, hget⟩ := first_word hs hh h0
  simp only [big] at hbig
  refine Tri.perm ?_ hL
  refine Tri.of Tryz.func35 rfl rfl Tryz.ntmps35 rfl rfl ?_
  (repeat' (first | refine nI ?_ | (refine nA ?_; intro _) | (refine nW ?_; first | (refine op_call_id ?_; refine op_ro rfl rfl (by first | exact c_number1 ⟨_, _, _⟩ ws (hs.mono (by exact kS)) | exact c_number2 ⟨_, _, _⟩ ws (hs.mono (by exact kS))) ?_) | (refine op_load_id ?_; refine op_val rfl (by exact val_load1 rfl rfl rfl (by exact kM) hget) ?_) | (refine op_call_id ?_; refine op_call rfl (hdo (front2 (by exact kF) (by exact kE))) rfl ?_; rintro _ _ ⟨rfl, q9, ps9, ss9, ms9, ek9, ec9, ca9, es9, sa9, el9, la9, ho9, rfl⟩) | refine op_val rfl (by exact kStr) ?_) | (refine WR_id ?_; refine WR_pure rfl rfl rfl (by exact kStr) ?_) | (refine WR_id ?_; refine WR_load rfl rfl rfl (by exact val_load1 rfl rfl rfl (by exact kM) hget) (by exact kS) ?_) | refine nY ?_ | refine WA_alt ?_ ?_ | refine nR ?_ | refine WC_drawL (id := 22) (ops := o35x22T5) r35x22T5 (by kernel_rfl) rfl ?_ | refine WC_cond rfl (fun hc => ?_) (fun hc => ?_)))
  refine ret_ret (by exact kR) ?_; exact ⟨(bw, cellsO (worldC x q9) 62) :: (wldE ek9 ec9 ca9 es9 sa9 el9 la9 ++ L0), by exact kP, rfl, q9, ps9, ss9, ms9, ek9, ec9, ca9, es9, sa9, el9, la9, ho9, rfl⟩
theorem c_exFall (hh : ws.headD [] = wFall) : Tri Tryz.prog 35 [.pointer (some ⟨bw, 0, none⟩), sl.v] L (fun v L' => v = St (lineS w ws) ∧ WldR L0 bw (lineW w ws) L') := by
  have hS : lineS w ws = [] := lineS_known (by rw [hh]; rfl)
  obtain ⟨x, hx⟩ : ∃ x, lineW w ws = x := ⟨_, rfl⟩
  have hW : step w ⟨7, 0, numAt ws 1, Msg.zero⟩ = x := by rw [← hx, lineW_fall hh]; simp [step]
  rw [hS, hx]
  have hdo : ∀ {L1 : List Ent}, L1.Perm ((bw, cellsO (worldC w q) 62) :: (wldE ek ec ca es sa el la ++ L0)) → Tri Tryz.prog 65 [.pointer (some ⟨bw, 0, none⟩), eventV ⟨7, 0, numAt ws 1, Msg.zero⟩ Sl.nil] L1 (fun v L' => v = .tuple #[] ∧ WldR L0 bw x L') := fun hL => hW ▸ c_doP bw w q ps ss ms ek ec ca es sa el la hL hw hown (hte.up (by omega)) ⟨7, 0, numAt ws 1, Msg.zero⟩ Sl.nil SliceAt.nil
  clear hx hW hS
  obtain ⟨a, n, c⟩ := sl
  obtain ⟨rfl, hbig, b, o, cs, T, fr, rfl, hm, hget⟩ := first_word hs hh h0
  simp only [big] at hbig
  refine Tri.perm ?_ hL
  refine Tri.of Tryz.func35 rfl rfl Tryz.ntmps35 rfl rfl ?_
  (repeat' (first | refine nI ?_ | (refine nA ?_; intro _) | (refine nW ?_; first | (refine op_call_id ?_; refine op_ro rfl rfl (by first | exact c_number1 ⟨_, _, _⟩ ws (hs.mono (by exact kS)) | exact c_number2 ⟨_, _, _⟩ ws (hs.mono (by exact kS))) ?_) | (refine op_load_id ?_; refine op_val rfl (by exact val_load1 rfl rfl rfl (by exact kM) hget) ?_) | (refine op_call_id ?_; refine op_call rfl (hdo (front2 (by exact kF) (by exact kE))) rfl ?_; rintro _ _ ⟨rfl, q9, ps9, ss9, ms9, ek9, ec9, ca9, es9, sa9, el9, la9, ho9, rfl⟩) | refine op_val rfl (by exact kStr) ?_) | (refine WR_id ?_; refine WR_pure rfl rfl rfl (by exact kStr) ?_) | (refine WR_id ?_; refine WR_load rfl rfl rfl (by exact val_load1 rfl rfl rfl (by exact kM) hget) (by exact kS) ?_) | refine nY ?_ | refine WA_alt ?_ ?_ | refine nR ?_ | refine WC_drawL (id := 22) (ops := o35x22T5) r35x22T5 (by kernel_rfl) rfl ?_ | refine WC_cond rfl (fun hc => ?_) (fun hc => ?_)))
  refine ret_ret (by exact kR) ?_; exact ⟨(bw, cellsO (worldC x q9) 62) :: (wldE ek9 ec9 ca9 es9 sa9 el9 la9 ++ L0), by exact kP, rfl, q9, ps9, ss9, ms9, ek9, ec9, ca9, es9, sa9, el9, la9, ho9, rfl⟩
theorem c_exMeet (hh : ws.headD [] = wMeet) : Tri Tryz.prog 35 [.pointer (some ⟨bw, 0, none⟩), sl.v] L (fun v L' => v = St (lineS w ws) ∧ WldR L0 bw (lineW w ws) L') := by
  have hS : lineS w ws = [] := lineS_known (by rw [hh]; rfl)
  obtain ⟨x, hx⟩ : ∃ x, lineW w ws = x := ⟨_, rfl⟩
  have hW : meet w (numAt ws 1) (numAt ws 2) = x := by rw [← hx, lineW_meet hh]
  rw [hS, hx]
  have hdo : ∀ {L1 : List Ent}, L1.Perm ((bw, cellsO (worldC w q) 62) :: (wldE ek ec ca es sa el la ++ L0)) → Tri Tryz.prog 67 [.pointer (some ⟨bw, 0, none⟩), I (numAt ws 1), I (numAt ws 2)] L1 (fun v L' => v = .tuple #[] ∧ WldR L0 bw x L') := fun hL => hW ▸ (c_meetIn bw w q ps ss ms ek ec ca es sa el la hw hte hown (numAt ws 1) (numAt ws 2)).perm hL
  clear hx hW hS
  obtain ⟨a, n, c⟩ := sl
  obtain ⟨rfl, hbig, b, o, cs, T, fr, rfl, hm, hget⟩ := first_word hs hh h0
  simp only [big] at hbig
  refine Tri.perm ?_ hL
  refine Tri.of Tryz.func35 rfl rfl Tryz.ntmps35 rfl rfl ?_
  (repeat' (first | refine nI ?_ | (refine nA ?_; intro _) | (refine nW ?_; first | (refine op_call_id ?_; refine op_ro rfl rfl (by first | exact c_number1 ⟨_, _, _⟩ ws (hs.mono (by exact kS)) | exact c_number2 ⟨_, _, _⟩ ws (hs.mono (by exact kS))) ?_) | (refine op_load_id ?_; refine op_val rfl (by exact val_load1 rfl rfl rfl (by exact kM) hget) ?_) | (refine op_call_id ?_; refine op_call rfl (hdo (front2 (by exact kF) (by exact kE))) rfl ?_; rintro _ _ ⟨rfl, q9, ps9, ss9, ms9, ek9, ec9, ca9, es9, sa9, el9, la9, ho9, rfl⟩) | refine op_val rfl (by exact kStr) ?_) | (refine WR_id ?_; refine WR_pure rfl rfl rfl (by exact kStr) ?_) | (refine WR_id ?_; refine WR_load rfl rfl rfl (by exact val_load1 rfl rfl rfl (by exact kM) hget) (by exact kS) ?_) | refine nY ?_ | refine WA_alt ?_ ?_ | refine nR ?_ | refine WC_drawL (id := 22) (ops := o35x22T5) r35x22T5 (by kernel_rfl) rfl ?_ | refine WC_cond rfl (fun hc => ?_) (fun hc => ?_)))
  refine ret_ret (by exact kR) ?_; exact ⟨(bw, cellsO (worldC x q9) 62) :: (wldE ek9 ec9 ca9 es9 sa9 el9 la9 ++ L0), by exact kP, rfl, q9, ps9, ss9, ms9, ek9, ec9, ca9, es9, sa9, el9, la9, ho9, rfl⟩
theorem c_exWhat (hk : known (ws.headD []) = false) (h1 : ws.headD [] ≠ wLog) (h2 : ws.headD [] ≠ wKeys) : Tri Tryz.prog 35 [.pointer (some ⟨bw, 0, none⟩), sl.v] L (fun v L' => v = St (lineS w ws) ∧ WldR L0 bw (lineW w ws) L') := by
  have hS : lineS w ws = tWhat := lineS_what hk h1 h2
  have hW : lineW w ws = w := lineW_none hk
  obtain ⟨n1, n2, n3, n4, n5, n6, n7⟩ := known_false hk
  rw [hS, hW]
  clear hS hW
  obtain ⟨y, hh⟩ : ∃ y, ws.headD [] = y := ⟨_, rfl⟩
  rw [hh] at n1 n2 n3 n4 n5 n6 n7 h1 h2
  obtain ⟨a, n, c⟩ := sl
  obtain ⟨rfl, hbig, b, o, cs, T, fr, rfl, hm, hget⟩ := first_word hs hh h0
  simp only [big] at hbig
  refine Tri.perm ?_ hL
  refine Tri.of Tryz.func35 rfl rfl Tryz.ntmps35 rfl rfl ?_
  (repeat' (first | refine nI ?_ | (refine nA ?_; intro _) | (refine nW ?_; first | (refine op_load_id ?_; refine op_val rfl (by exact val_load1 rfl rfl rfl (by exact kM) hget) ?_) | refine op_val rfl (by exact kStr) ?_) | (refine WR_id ?_; refine WR_pure rfl rfl rfl (by exact kStr) ?_) | (refine WR_id ?_; refine WR_load rfl rfl rfl (by exact val_load1 rfl rfl rfl (by exact kM) hget) (by exact kS) ?_) | refine nY ?_ | refine WA_alt ?_ ?_ | refine nR ?_ | refine WC_drawL (id := 22) (ops := o35x22T5) r35x22T5 (by kernel_rfl) rfl ?_ | refine WC_cond rfl (fun hc => ?_) (fun hc => ?_)))
  refine ret_ret (by exact kR) ?_; exact ⟨(bw, cellsO (worldC w q) 62) :: (wldE ek ec ca es sa el la ++ L0), by exact kP, rfl, q, ps, ss, ms, ek, ec, ca, es, sa, el, la, hown, rfl⟩
theorem c_exLog (hG : Glob L0) (hh : ws.headD [] = wLog) : Tri Tryz.prog 35 [.pointer (some ⟨bw, 0, none⟩), sl.v] L (fun v L' => v = St (lineS w ws) ∧ WldR L0 bw (lineW w ws) L') := by
  have hS : lineS w ws = logText w := lineS_log hh
  have hW : lineW w ws = w := lineW_none (by rw [hh]; rfl)
  rw [hS, hW]
  clear hS hW
  obtain ⟨a, n, c⟩ := sl
  obtain ⟨rfl, hbig, b, o, cs, T, fr, rfl, hm, hget⟩ := first_word hs hh h0
  simp only [big] at hbig
  have hnow := hw.now
  have hll := hw.ll
  have hat := hown.at
  obtain ⟨kc, cs', ss', ⟨al, nl, cl⟩⟩ := q
  obtain ⟨hnl, hcl, hbl, hrl⟩ := hat.mr
  have hma := hat.ma
  have hme := hat.me
  dsimp only at hnl hcl hrl
  subst hnl
  simp only [big] at hbl
  have hml : ms.length = w.log.length := by rw [← List.length_map (f := Prod.fst), hme]
  refine Tri.perm ?_ hL
  refine Tri.of Tryz.func35 rfl rfl Tryz.ntmps35 rfl rfl ?_
  (repeat' (first | refine nI ?_ | (refine nA ?_; intro _) | (refine nW ?_; first | (refine op_load_id ?_; refine op_val rfl (by exact val_load1 rfl rfl rfl (by exact kM) hget) ?_) | refine op_val rfl (by exact kStr) ?_) | (refine WR_id ?_; refine WR_pure rfl rfl rfl (by exact kStr) ?_) | (refine WR_id ?_; refine WR_load rfl rfl rfl (by exact val_load1 rfl rfl rfl (by exact kM) hget) (by exact kS) ?_) | refine nY ?_ | refine WA_alt ?_ ?_ | refine nR ?_ | refine WC_drawL (id := 22) (ops := o35x22T5) r35x22T5 (by kernel_rfl) rfl ?_ | refine WC_cond rfl (fun hc => ?_) (fun hc => ?_)))
  refine WC_loop (fun mz Ez Mz => ∃ (k : Nat) (out : Str), k + mz = (ms).length ∧ Ez = [(0, .pointer (some ⟨bw, 0, none⟩)), (5, St out), (71, .slice al ms.length cl), (72, I ms.length), (73, I k)] ∧ Mz = (bw, cellsO (worldC w ⟨kc, cs', ss', ⟨al, ms.length, cl⟩⟩) 62) :: (wldE ek ec ca es sa el la ++ L0) ∧ (out = logFrom 0 ((ms.take k).map Prod.fst) ∧ out.length ≤ 430 * k)) (ms).length (by exact kQ) (by exact kL) ⟨0, [], by omega, rfl, rfl, by exact ⟨rfl, by simp⟩⟩ ?_
  rintro mz Ez Mz ⟨k, out, hk, rfl, rfl, hin⟩
  rcases Nat.lt_or_ge k (ms).length with hlt | hge
  · obtain ⟨ho1, ho2⟩ := hin
    obtain ⟨⟨m, sm⟩, hy⟩ : ∃ y, ms[k]? = some y := ⟨ms[k]'(by omega), by simp [hlt]⟩
    obtain ⟨b', o', cs2, T2, fr2, rfl, hm2, hrw⟩ := hrl (by omega)
    have hrow'' := hrw k _ hy
    have hma1 := hma _ (List.mem_of_getElem? hy)
    have hmt := msgText_len m
    have hd := dec_len (k : Int)
    have hlk : ((ms.take k).map Prod.fst).length = k := by rw [List.length_map, List.length_take]; omega
    (repeat' (first | refine nI ?_ | (refine nA ?_; intro _) | (refine nW ?_; first | refine op_val rfl (by exact kStr) ?_) | (refine WR_id ?_; refine WR_pure rfl rfl rfl (by exact kStr) ?_) | refine nY ?_ | refine WA_alt ?_ ?_ | refine nR ?_ | refine WC_cond rfl (fun hc => ?_) (fun hc => ?_)))
    rename_i b7
    (repeat' (first | refine nI ?_ | (refine nA ?_; intro _) | (refine nW ?_; first | (refine op_call_id ?_; refine op_ro rfl rfl (by first | exact c_itoa (k : Int) (by omega) (by omega) (hG.mono (by exact kS)) | exact c_msgText m sm (hma1.mono (by exact kS)) (hG.mono (by exact kS))) ?_) | refine op_val rfl (by exact kStr) ?_) | (refine WR_id ?_; refine WR_pure rfl rfl rfl (by exact kStr) ?_) | refine nY ?_ | refine WA_alt ?_ ?_ | refine nR ?_ | refine WC_draw (id := 22) (ops := o35x22T5) ([(b7, cellsO (msgC m sm) 24)]) r35x22T5 (by kernel_rfl) rfl ?_ | refine WC_cond rfl (fun hc => ?_) (fun hc => ?_)))
    exact loopQ_next ⟨mz - 1, _, _, by omega, by exact kQ, by exact kL, k + 1, out ++ (dec (k : Int) ++ [58, 32] ++ msgText m), by omega, rfl, rfl, by exact ⟨by rw [take_next hy, List.map_append, List.map_cons, List.map_nil, logFrom_next, ← ho1, Nat.zero_add, hlk]; simp, by simp only [List.length_append, List.length_cons, List.length_nil]; omega⟩⟩
  · obtain ⟨ho1, ho2⟩ := hin
    rw [take_all hge, hme] at ho1
    have hd := dec_len w.now
    have hfin : logText w = out ++ [97, 116, 32] ++ dec w.now ++ [10] := by rw [ho1]; simp [logText]
    rw [hfin]
    (repeat' (first | refine nI ?_ | (refine nA ?_; intro _) | (refine nW ?_; first | (refine op_call_id ?_; refine op_ro rfl rfl (by exact c_itoa w.now (by omega) (by omega) (hG.mono (by exact kS))) ?_) | refine op_val rfl (by exact kStr) ?_) | (refine WR_id ?_; refine WR_pure rfl rfl rfl (by exact kStr) ?_) | refine nY ?_ | refine WA_alt ?_ ?_ | refine nR ?_ | refine WC_drawL (id := 22) (ops := o35x22T5) r35x22T5 (by kernel_rfl) rfl ?_ | refine WC_cond rfl (fun hc => ?_) (fun hc => ?_)))
    refine ret_ret (by exact kR) ?_; exact ⟨(bw, cellsO (worldC w ⟨kc, cs', ss', ⟨al, ms.length, cl⟩⟩) 62) :: (wldE ek ec ca es sa el la ++ L0), by exact kP, rfl, ⟨kc, cs', ss', ⟨al, ms.length, cl⟩⟩, ps, ss, ms, ek, ec, ca, es, sa, el, la, hown, rfl⟩
theorem c_exKeys (hG : Glob L0) (hh : ws.headD [] = wKeys) : Tri Tryz.prog 35 [.pointer (some ⟨bw, 0, none⟩), sl.v] L (fun v L' => v = St (lineS w ws) ∧ WldR L0 bw (lineW w ws) L') := by
  have hS : lineS w ws = keysText (keysOf w) := lineS_keys hh
  have hW : lineW w ws = w := lineW_none (by rw [hh]; rfl)
  rw [hS, hW]
  clear hS hW
  obtain ⟨a, n, c⟩ := sl
  obtain ⟨rfl, hbig, b, o, cs, T, fr, rfl, hm, hget⟩ := first_word hs hh h0
  simp only [big] at hbig
  have hat := hown.at
  have hsl : (w.log.flatMap Msg.seals).length ≤ 1000 := by
    have h1 := seals_len w.log hw.ms
    have h2 := hw.ll
    omega
  have hkl := keysOf_len w
  have hkr := keysOf_range w
  refine Tri.perm ?_ hL
  refine Tri.of Tryz.func35 rfl rfl Tryz.ntmps35 rfl rfl ?_
  (repeat' (first | refine nI ?_ | (refine nA ?_; intro _) | (refine nW ?_; first | (refine op_load_id ?_; refine op_val rfl (by exact val_load1 rfl rfl rfl (by exact kM) hget) ?_) | (refine op_call_id ?_; refine op_call rfl (c_own bw w q (by exact kM)) rfl ?_; rintro _ _ ⟨⟨ao, no, co⟩, eo, rfl, hro, rfl⟩) | (refine op_call_id ?_; refine op_call rfl (c_seals bw w q ms (by exact kM) (hat.mr.mono (by exact kS)) hat.me (fun p hp => (hat.ma p hp).mono (by exact kS)) hsl) rfl ?_; rintro _ _ ⟨⟨az, nz, cz⟩, ez, rfl, hrz, rfl⟩) | (refine op_call_id ?_; refine op_call rfl (c_knowKeys ⟨ao, no, co⟩ ⟨az, nz, cz⟩ (own w) (worldSeals w) (hro.atL (by exact kS)) (hrz.atL (by exact kS))) rfl ?_; rintro _ _ ⟨ak, ck, ek9, rfl, hrk, rfl⟩) | refine op_val rfl (by exact kStr) ?_) | (refine WR_id ?_; refine WR_pure rfl rfl rfl (by exact kStr) ?_) | (refine WR_id ?_; refine WR_load rfl rfl rfl (by exact val_load1 rfl rfl rfl (by exact kM) hget) (by exact kS) ?_) | refine nY ?_ | refine WA_alt ?_ ?_ | refine nR ?_ | refine WC_drawL (id := 22) (ops := o35x22T5) r35x22T5 (by kernel_rfl) rfl ?_ | refine WC_cond rfl (fun hc => ?_) (fun hc => ?_)))
  obtain ⟨ks, hks⟩ : ∃ ks, keysOf w = ks := ⟨_, rfl⟩
  have hks2 : knowKeys (own w) (worldSeals w) = ks := hks
  rw [hks] at hkl hkr
  rw [hks2] at hrk
  rw [hks, hks2]
  have hrk2 := hrk.at
  obtain ⟨_, _, hbk, hrk3⟩ := hrk2
  dsimp only at hrk3
  simp only [big] at hbk
  refine WC_loop (fun mz Ez Mz => ∃ (k : Nat) (out : Str), k + mz = (ks).length ∧ Ez = [(8, St out), (102, .slice ak ks.length ck), (103, I ks.length), (104, I k)] ∧ Mz = (bw, cellsO (worldC w q) 62) :: (ek9 ++ (wldE ek ec ca es sa el la ++ L0)) ∧ (out = wKeys ++ keyWords (ks.take k) ∧ out.length ≤ 10 + 21 * k)) (ks).length (by exact kQ) (by exact kL) ⟨0, wKeys, by omega, rfl, rfl, by exact ⟨by simp, by simp⟩⟩ ?_
  rintro mz Ez Mz ⟨k, out, hk, rfl, rfl, hin⟩
  rcases Nat.lt_or_ge k (ks).length with hlt | hge
  · obtain ⟨ho1, ho2⟩ := hin
    obtain ⟨y, hy⟩ : ∃ y, ks[k]? = some y := ⟨ks[k]'(by omega), by simp [hlt]⟩
    obtain ⟨b', o', cs2, T2, fr2, rfl, hm2, hrw⟩ := hrk3 (by omega)
    have hrow'' := hrw k _ hy
    have hyr := hkr y (List.mem_of_getElem? hy)
    have hd := dec_len y
    (repeat' (first | refine nI ?_ | (refine nA ?_; intro _) | (refine nW ?_; first | (refine op_call_id ?_; refine op_ro rfl rfl (by exact c_itoa y (by omega) (by omega) (hG.mono (by exact kS))) ?_) | refine op_val rfl (by exact kStr) ?_) | (refine WR_id ?_; refine WR_pure rfl rfl rfl (by exact kStr) ?_) | refine nY ?_ | refine WA_alt ?_ ?_ | refine nR ?_ | refine WC_drawL (id := 22) (ops := o35x22T5) r35x22T5 (by kernel_rfl) rfl ?_ | refine WC_cond rfl (fun hc => ?_) (fun hc => ?_)))
    exact loopQ_next ⟨mz - 1, _, _, by omega, by exact kQ, by exact kL, k + 1, out ++ ([32] ++ dec y), by omega, rfl, rfl, by exact ⟨by rw [take_next hy, keyWords_next, ho1]; simp, by simp only [List.length_append, List.length_cons, List.length_nil]; omega⟩⟩
  · obtain ⟨ho1, ho2⟩ := hin
    rw [take_all hge] at ho1
    have hfin : keysText ks = out ++ [10] := by rw [ho1]; simp [keysText]
    rw [hfin]
    (repeat' (first | refine nI ?_ | (refine nA ?_; intro _) | (refine nW ?_; first | refine op_val rfl (by exact kStr) ?_) | (refine WR_id ?_; refine WR_pure rfl rfl rfl (by exact kStr) ?_) | refine nY ?_ | refine WA_alt ?_ ?_ | refine nR ?_ | refine WC_drawL (id := 22) (ops := o35x22T5) r35x22T5 (by kernel_rfl) rfl ?_ | refine WC_cond rfl (fun hc => ?_) (fun hc => ?_)))
    refine ret_ret (by exact kR) ?_; exact ⟨(bw, cellsO (worldC w q) 62) :: (wldE ek ec ca es sa el la ++ L0), by exact kP, rfl, q, ps, ss, ms, ek, ec, ca, es, sa, el, la, hown, rfl⟩
theorem c_execute (hG : Glob L0) : Tri Tryz.prog 35 [.pointer (some ⟨bw, 0, none⟩), sl.v] L (fun v L' => v = St (lineS w ws) ∧ WldR L0 bw (lineW w ws) L') := by
  cases hk : known (ws.headD []) with
  | true =>
    rcases known_iff.1 hk with h | h | h | h | h | h | h
    · exact c_exAs bw w q ps ss ms ek ec ca es sa el la hL hw hown hte sl ws hs h0 h
    · exact c_exTgs bw w q ps ss ms ek ec ca es sa el la hL hw hown hte sl ws hs h0 h
    · exact c_exAp bw w q ps ss ms ek ec ca es sa el la hL hw hown hte sl ws hs h0 h
    · exact c_exBring bw w q ps ss ms ek ec ca es sa el la hL hw hown hte sl ws hs h0 h
    · exact c_exTick bw w q ps ss ms ek ec ca es sa el la hL hw hown hte sl ws hs h0 h
    · exact c_exFall bw w q ps ss ms ek ec ca es sa el la hL hw hown hte sl ws hs h0 h
    · exact c_exMeet bw w q ps ss ms ek ec ca es sa el la hL hw hown hte sl ws hs h0 h
  | false =>
    by_cases h1 : ws.headD [] = wLog
    · exact c_exLog bw w q ps ss ms ek ec ca es sa el la hL hw hown hte sl ws hs h0 hG h1
    · by_cases h2 : ws.headD [] = wKeys
      · exact c_exKeys bw w q ps ss ms ek ec ca es sa el la hL hw hown hte sl ws hs h0 hG h2
      · exact c_exWhat bw w q ps ss ms ek ec ca es sa el la hL hw hown hte sl ws hs h0 hk h1 h2
end
end Go.Proofs.YtoledfhjmdpihaaGreatDoor
/- Lines are done: the whole of it. -/
set_option linter.unusedVariables false
set_option linter.unusedSectionVars false
set_option linter.unusedSimpArgs false
namespace Go.Proofs.YtoledfhjmdpihaaGreatDoor
open Go Go.Proofs Go.Proofs.YtoledfhjmdpihaaGreatDoor.VE
attribute [local irreducible] Val Op1 WO WR WA WC seqQ blockQ loopQ retQ
noncomputable def o12x17T6 : Array Oper := cops (cr (cl (cl (cr (cr (cl (cl (cr (cr (cl (cl (cr (cr (cl (cl (cr (cl (cr (cr (cr (cr (cr (codeOf Tryz.f12)))))))))))))))))))))))
noncomputable def o12x23T6 : Array Oper := cops (cr (cl (cl (cr (cr (cl (cl (cr (cl (cr (cr (cr (cr (cr (cr (codeOf Tryz.f12))))))))))))))))
noncomputable def o37x1T6 : Array Oper := cops (cl (cr (codeOf Tryz.f37)))
noncomputable def r12x17T6 : Run := (.st 0 0 (.st 1 1 (.st 4 0 (.st 5 1 (.st 9 0 (.st 10 1 (.st 2 2 (.st 3 0 (.st 6 2 (.st 7 0 (.st 8 0 (.st 11 3 (.st 12 0 (.st 13 0 (.st 14 3 .done)))))))))))))))
noncomputable def r12x23T6 : Run := (.st 0 0 (.st 1 1 (.st 4 0 (.st 5 1 (.st 6 0 (.st 2 2 (.st 3 0 (.st 7 3 (.st 8 0 (.st 9 0 (.st 10 3 .done)))))))))))
noncomputable def r37x1T6 : Run := (.st 0 0 (.st 1 0 (.st 2 0 (.st 3 1 (.st 5 0 (.st 6 0 (.st 7 0 (.st 8 1 (.st 9 0 (.st 4 2 (.st 10 3 (.st 11 0 .done))))))))))))
set_option maxHeartbeats 8000000
/-- A builder's bytes. -/
abbrev Bytes (a : Option Addr) (n c : Nat) (o : Str) (es : List Ent) : Prop := Own 5 1 ⟨a, n, c⟩ o.length (o.map u8) es
theorem c_writeString {L L0 : List Ent} (bb : Nat) (p : Value) (a : Option Addr) (n c : Nat) (o q : Str) (eb : List Ent) (hp : p = .pointer none ∨ p = .pointer (some ⟨bb, 0, none⟩)) (hL : L.Perm ((bb, cellsO [p, .slice a n c] 67) :: (eb ++ L0))) (hb : Bytes a n c o eb) (hmax : o.length + q.length ≤ big) :
    Tri Tryz.prog 34 [.pointer (some ⟨bb, 0, none⟩), St q] L (fun v L' => ∃ a' n' c' eb', v = .tuple [I q.length, .nilIface].toArray ∧ Bytes a' n' c' (o ++ q) eb' ∧ L' = (bb, cellsO [.pointer (some ⟨bb, 0, none⟩), .slice a' n' c'] 67) :: (eb' ++ L0)) := by
  refine Tri.perm ?_ hL
  refine Tri.of Tryz.func34 rfl rfl Tryz.ntmps34 rfl rfl ?_
  (repeat' (first | refine nI ?_ | (refine nA ?_; intro _) | (refine nW ?_; first | (refine op_call_id ?_; refine op_call rfl ((c_copyCheck bb p (.slice a n c) hp).perm (by exact kF)) rfl ?_; rintro _ _ ⟨rfl, rfl⟩) | (refine op_appendStr (sl := ⟨_, _, _⟩) rfl rfl rfl rfl rfl rfl hb (by exact kE) hmax rfl ?_; intro sl' es' ho') | refine op_val rfl (by exact kStr) ?_) | refine nY ?_ | refine nR ?_ | refine WC_cond rfl (fun hc => ?_) (fun hc => ?_)))
  obtain ⟨a', n', c'⟩ := sl'
  refine ret_ret (by exact kR) ?_; exact ⟨(bb, cellsO [.pointer (some ⟨bb, 0, none⟩), .slice a' n' c'] 67) :: (es' ++ L0), by exact kP, a', n', c', es', rfl, (by unfold Bytes; rw [List.length_append, List.map_append]; exact ho'), rfl⟩
theorem c_bString {L L0 : List Ent} (bb : Nat) (p : Value) (a : Option Addr) (n c : Nat) (o : Str) (eb : List Ent) (hL : L.Perm ((bb, cellsO [p, .slice a n c] 67) :: (eb ++ L0))) (hb : Bytes a n c o eb) (hne : o ≠ []) (hmax : o.length ≤ big) :
    Tri Tryz.prog 37 [.pointer (some ⟨bb, 0, none⟩)] L (fun v L' => v = St o ∧ L' = L0) := by
  have hpos : 0 < o.length := List.length_pos_iff.2 hne
  rcases hb with ⟨_, _, h3, _⟩ | ⟨g, cap, rest, hsl, rfl, h3, h4, h5, h6⟩
  · omega
  cases hsl
  have hcap : c ≠ 0 := by omega
  refine Tri.perm ?_ hL
  refine Tri.of Tryz.func37 rfl rfl Tryz.ntmps37 rfl rfl ?_
  (repeat' (first | refine nI ?_ | (refine nA ?_; intro _) | (refine nW ?_; first | (refine op_unsafeString (q := o) rfl rfl rfl rfl (by exact kF) hne hmax rfl ?_) | refine op_val rfl (by first | exact val_sliceData rfl hcap | exact kStr) ?_) | (refine WR_id ?_; refine WR_pure rfl rfl rfl (by first | exact val_sliceData rfl hcap | exact kStr) ?_) | refine nY ?_ | refine WA_alt ?_ ?_ | refine nR ?_ | refine WC_draw (id := 1) (ops := o37x1T6) ([(bb, cellsO [p, .slice (some ⟨g, 0, none⟩) o.length c] 67)]) r37x1T6 (by kernel_rfl) rfl ?_ | refine WC_cond rfl (fun hc => ?_) (fun hc => ?_)))
  refine ret_ret (by exact kR) ?_; exact ⟨L0, by exact kP, rfl, rfl⟩
theorem lineS_len {w : World} (h : WOk w) (ws : List Str) : (lineS w ws).length ≤ 40000 := by
  have hlog : ∀ (l : List Msg) (i : Nat), (logFrom i l).length ≤ 430 * l.length := by
    intro l
    induction l with
    | nil => intro i; simp [logFrom]
    | cons m l ih =>
      intro i
      have h1 := ih (i + 1)
      have h2 := msgText_len m
      have h3 := dec_len (i : Int)
      simp only [logFrom, List.length_append, List.length_cons] at *; omega
  unfold lineS
  split
  · simp
  split
  · have h1 := hlog w.log 0
    have h2 := h.ll
    have h3 := dec_len w.now
    simp only [logText, List.length_append, List.length_cons, List.length_nil] at *; omega
  split
  · have h1 : (List.flatMap (fun k => 32 :: dec k) (keysOf w)).length ≤ 21 * (keysOf w).length := keyWords_len (keysOf w)
    have h2 := keysOf_len w
    simp only [keysText, List.length_append, List.length_cons, List.length_nil] at *; omega
  · decide
theorem lineW_took {w : World} {n : Nat} {u : Str} (h : TookLe n w) : TookLe (n + 2 * (u.length + 1)) (lineW w (cutAt 32 u)) := by
  have hs : ∀ e : Event, TookLe (n + 2 * (u.length + 1)) (step w e) := fun e => (took_step h).up (by omega)
  cases hk : known ((cutAt 32 u).headD []) with
  | false => rw [lineW_none hk]; exact h.up (by omega)
  | true =>
    rcases known_iff.1 hk with h | h | h | h | h | h | h
    · rw [lineW_as h, asks_step (by omega)]; exact hs _
    · rw [lineW_tgs h, asks_step (by omega)]; exact hs _
    · rw [lineW_ap h, asks_step (by omega)]; exact hs _
    · rw [lineW_bring h, bring_step]; exact hs _
    · rw [lineW_tick h, show tick w = step w ⟨6, 0, 0, Msg.zero⟩ by simp [step]]; exact hs _
    · rw [lineW_fall h, show fall w (numAt (cutAt 32 u) 1) = step w ⟨7, 0, numAt (cutAt 32 u) 1, Msg.zero⟩ by simp [step]]; exact hs _
    · rw [lineW_meet h]
      have hl := head_len h
      have h4 : wMeet.length = 4 := rfl
      exact (meet_took (by assumption)).up (by omega)
theorem c_linesRun0 {L : List Ent} (bad : Int) (text : Str) (hb : within bad 0 3 = false) : RO Tryz.prog 12 [I bad, St text] L (St tNoWorld) := by
  refine Tri.of Tryz.func12 rfl rfl Tryz.ntmps12 rfl rfl ?_
  (repeat' (first | refine nI ?_ | (refine nA ?_; intro _) | (refine nW ?_; first | (refine op_call_id ?_; refine op_ro rfl rfl (by exact c_worldNew0 bad hb) ?_) | refine op_val rfl (by exact kStr) ?_) | (refine WR_id ?_; refine WR_pure rfl rfl rfl (by exact kStr) ?_) | refine nY ?_ | refine WA_alt ?_ ?_ | refine nR ?_ | refine WC_drawL (id := 17) (ops := o12x17T6) r12x17T6 (by kernel_rfl) rfl ?_ | refine WC_drawL (id := 23) (ops := o12x23T6) r12x23T6 (by kernel_rfl) rfl ?_ | refine WC_cond rfl (fun hc => ?_) (fun hc => ?_)))
  refine ro_ret (by exact kR) (by exact kL) ?_; rfl
theorem c_linesRun1 {L : List Ent} (bad : Int) (text : Str) (hb : within bad 0 3 = true) (h600 : 600 < text.length) : RO Tryz.prog 12 [I bad, St text] L (St tTooLong) := by
  refine Tri.of Tryz.func12 rfl rfl Tryz.ntmps12 rfl rfl ?_
  (repeat' (first | refine nI ?_ | (refine nA ?_; intro _) | (refine nW ?_; first | (refine op_call_id ?_; refine op_call rfl (c_worldNew1 bad hb) rfl ?_; rintro _ _ ⟨q, ps, ss, ms, ek, ec, ca, es, sa, el, la, rfl, hown, rfl⟩) | refine op_val rfl (by exact kStr) ?_) | (refine WR_id ?_; refine WR_pure rfl rfl rfl (by exact kStr) ?_) | refine nY ?_ | refine WA_alt ?_ ?_ | refine nR ?_ | refine WC_drawL (id := 17) (ops := o12x17T6) r12x17T6 (by kernel_rfl) rfl ?_ | refine WC_drawL (id := 23) (ops := o12x23T6) r12x23T6 (by kernel_rfl) rfl ?_ | refine WC_cond rfl (fun hc => ?_) (fun hc => ?_)))
  refine ro_ret (by exact kR) (by exact kL) ?_; rfl
theorem c_linesRun2 {L : List Ent} (bad : Int) (text : Str) (hb : within bad 0 3 = true) (h600 : text.length ≤ 600) (hG : Glob L) : RO Tryz.prog 12 [I bad, St text] L (St (linesRun bad text)) := by
  have hbb := within_iff.1 hb
  rw [lo_3 hbb h600]
  refine Tri.of Tryz.func12 rfl rfl Tryz.ntmps12 rfl rfl ?_
  (repeat' (first | refine nI ?_ | (refine nA ?_; intro _) | (refine nW ?_; first | (refine op_call_id ?_; refine op_call rfl (c_worldNew1 bad hb) rfl ?_; rintro _ _ ⟨q0, ps0, ss0, ms0, ek0, ec0, ca0, es0, sa0, el0, la0, rfl, hown0, rfl⟩) | refine op_val rfl (by exact kStr) ?_) | (refine WR_id ?_; refine WR_pure rfl rfl rfl (by exact kStr) ?_) | refine nY ?_ | refine WA_alt ?_ ?_ | refine nR ?_ | refine WC_drawL (id := 17) (ops := o12x17T6) r12x17T6 (by kernel_rfl) rfl ?_ | refine WC_drawL (id := 23) (ops := o12x23T6) r12x23T6 (by kernel_rfl) rfl ?_ | refine WC_cond rfl (fun hc => ?_) (fun hc => ?_)))
  rename_i b5 b7
  refine WC_loop (fun mz Ez Mz => ∃ (k : Nat) (rest : Str) (w : World) (q : WSl) (ps : List (Client × CSl)) (ss : List (Serv × (Sl × Sl))) (ms : List (Msg × Sl)) (ek ec ca es sa el la : List Ent) (p : Value) (a : Option Addr) (n c : Nat) (eb : List Ent) (o : Str), k + mz = (linesOf text).length ∧ Ez = [(1, St rest), (5, .pointer (some ⟨b5, 0, none⟩)), (7, .pointer (some ⟨b7, 0, none⟩))] ∧ Mz = (b7, cellsO [p, .slice a n c] 67) :: (eb ++ ((b5, cellsO (worldC w q) 62) :: (wldE ek ec ca es sa el la ++ L))) ∧ (cutAt 10 rest = (cutAt 10 text).drop k ∧ rest.length ≤ text.length ∧ linesFrom (worldNew bad) ((linesOf text).take k) = (w, o) ∧ WOk w ∧ TookLe (2 * (text.length - rest.length)) w ∧ WldOwn w q ps ss ms ek ec ca es sa el la ∧ (p = .pointer none ∨ p = .pointer (some ⟨b7, 0, none⟩)) ∧ Bytes a n c o eb ∧ o.length ≤ 40000 * k)) (linesOf text).length (by exact kQ) (by exact kL) ⟨0, text, worldNew bad, q0, ps0, ss0, ms0, ek0, ec0, ca0, es0, sa0, el0, la0, .pointer none, none, 0, 0, [], [], by omega, rfl, rfl, by exact ⟨rfl, Nat.le_refl _, linesFrom_none, new_ok hbb, (fun s hs => by simp [worldNew, servNew] at hs; rcases hs with rfl | rfl <;> simp), hown0, .inl rfl, Own.nil, by simp⟩⟩ ?_
  rintro mz Ez Mz ⟨k, rest, w, q, ps, ss, ms, ek, ec, ca, es, sa, el, la, p, a, n, c, eb, o, hk, rfl, rfl, hin⟩
  rcases Nat.lt_or_ge k (linesOf text).length with hlt | hge
  · obtain ⟨hcut, hrl, hfr, hok, htk, hown, hp, hbs, hol⟩ := hin
    obtain ⟨u, r, rfl, hu, hku, hr⟩ := text_step hcut hlt
    have hlen : (u ++ 10 :: r).length = u.length + 1 + r.length := by simp; omega
    rw [hlen] at hrl htk
    have hlo : (linesOf text).length ≤ 601 := by
      rw [linesOf_len, cutAt_len]
      have := List.count_le_length (a := (10 : UInt8)) (l := text)
      omega
    have hsl := lineS_len hok (cutAt 32 u)
    have hcl : (cutAt 32 u).length ≤ 1000 := by
      rw [cutAt_len]
      have := List.count_le_length (a := (32 : UInt8)) (l := u)
      omega
    have hcp : 0 < (cutAt 32 u).length := List.length_pos_iff.2 (cutAt_ne 32 u)
    have hl9 : (u ++ 10 :: r).length < 4294967281 := by rw [hlen]; omega
    (repeat' (first | refine nI ?_ | (refine nA ?_; intro _) | (refine nW ?_; first | (refine op_call_id ?_; refine op_ro rfl rfl (by exact c_cutHit 10 u r hu hl9 (hG.mono (by exact kS))) ?_) | (refine op_call_id ?_; refine op_call rfl (c_split 32 u (by omega) (hG.mono (by exact kS))) rfl ?_; rintro _ _ ⟨bz, rfl, rfl⟩) | (refine op_call_id ?_; refine op_call rfl (c_execute b5 w q ps ss ms ek ec ca es sa el la (front2 (by exact kF) (by exact kE)) hok hown (htk.up (by omega)) ⟨some ⟨bz, 0, none⟩, _, _⟩ (cutAt 32 u) (strAt rfl (by exact kM) (by simp only [big]; omega)) hcp (hG.mono (by exact kS))) rfl ?_; rintro _ _ ⟨rfl, q9, ps9, ss9, ms9, ek9, ec9, ca9, es9, sa9, el9, la9, ho9, rfl⟩) | (refine op_call_id ?_; refine op_call rfl (c_writeString b7 p a n c o (lineS w (cutAt 32 u)) eb hp (front2 (by exact kF) (by exact kE)) hbs (by simp only [big]; omega)) rfl ?_; rintro _ _ ⟨a9, n9, c9, eb9, rfl, hb9, rfl⟩) | refine op_val rfl (by exact kStr) ?_) | (refine WR_id ?_; refine WR_pure rfl rfl rfl (by exact kStr) ?_) | refine nY ?_ | refine WA_alt ?_ ?_ | refine nR ?_ | refine WC_drawL (id := 17) (ops := o12x17T6) r12x17T6 (by kernel_rfl) rfl ?_ | refine WC_drawL (id := 23) (ops := o12x23T6) r12x23T6 (by kernel_rfl) rfl ?_ | refine WC_cond rfl (fun hc => ?_) (fun hc => ?_)))
    exact loopQ_next ⟨mz - 1, _, _, by omega, by exact kQ, by exact kL, k + 1, r, lineW w (cutAt 32 u), q9, ps9, ss9, ms9, ek9, ec9, ca9, es9, sa9, el9, la9, .pointer (some ⟨b7, 0, none⟩), a9, n9, c9, eb9, o ++ lineS w (cutAt 32 u), by omega, rfl, rfl, by exact ⟨hr, by omega, by rw [linesFrom_next hku, hfr]; rfl, lineW_ok hok _, (lineW_took htk).up (by omega), ho9, .inr rfl, hb9, by rw [List.length_append]; omega⟩⟩
  · obtain ⟨hcut, hrl, hfr, hok, htk, hown, hp, hbs, hol⟩ := hin
    have hno := text_end hcut hge
    rw [linesFrom_all hge] at hfr
    have hlo : (linesOf text).length ≤ 601 := by
      rw [linesOf_len, cutAt_len]
      have := List.count_le_length (a := (10 : UInt8)) (l := text)
      omega
    have hkl : k ≤ 601 := by omega
    clear hge hcut
    rw [hfr]
    dsimp only
    have hat := hown.at
    obtain ⟨kc, ⟨ac, nc, cc⟩, ⟨av, nv, cv⟩, ls⟩ := q
    obtain ⟨hnP, hcP, hbP, hrP⟩ := hat.pr
    obtain ⟨hnS, hcS, hbS, hrS⟩ := hat.sr
    have hpa := hat.pa
    have hsa := hat.sa
    have hpe := hat.pe
    have hsE := hat.se
    dsimp only at hnP hnS hcP hcS hrP hrS
    subst hnP hnS
    simp only [big] at hbP hbS
    have hp3 : ps.length = 3 := by rw [← List.length_map (f := Prod.fst), hpe]; exact hok.cl
    have hs2 : ss.length = 2 := by rw [← List.length_map (f := Prod.fst), hsE]; exact hok.sl
    have htk2 : TookLe 1200 w := htk.up (by omega)
    have ho9 : o.length ≤ 24040000 := by omega
    clear htk hol hlo hkl hk
    (repeat' (first | refine nI ?_ | (refine nA ?_; intro _) | (refine nW ?_; first | (refine op_call_id ?_; refine op_ro rfl rfl (by exact c_cutMiss 10 rest hno (by omega) (hG.mono (by exact kS))) ?_) | refine op_val rfl (by exact kStr) ?_) | (refine WR_id ?_; refine WR_pure rfl rfl rfl (by exact kStr) ?_) | refine nY ?_ | refine WA_alt ?_ ?_ | refine nR ?_ | refine WC_drawL (id := 17) (ops := o12x17T6) r12x17T6 (by kernel_rfl) rfl ?_ | refine WC_drawL (id := 23) (ops := o12x23T6) r12x23T6 (by kernel_rfl) rfl ?_ | refine WC_cond rfl (fun hc => ?_) (fun hc => ?_)))
    clear hno hrl hfr
    refine WC_loop (fun mz Ez Mz => ∃ (k : Nat) (p2 : Value) (a2 : Option Addr) (n2 c2 : Nat) (eb2 : List Ent) (o2 : Str), k + mz = (ss).length ∧ Ez = [(5, .pointer (some ⟨b5, 0, none⟩)), (7, .pointer (some ⟨b7, 0, none⟩)), (43, .slice av ss.length cv), (44, I ss.length), (45, I k)] ∧ Mz = (b7, cellsO [p2, .slice a2 n2 c2] 67) :: (eb2 ++ ((b5, cellsO (worldC w ⟨kc, ⟨ac, ps.length, cc⟩, ⟨av, ss.length, cv⟩, ls⟩) 62) :: (wldE ek ec ca es sa el la ++ L))) ∧ ((p2 = .pointer none ∨ p2 = .pointer (some ⟨b7, 0, none⟩)) ∧ Bytes a2 n2 c2 o2 eb2 ∧ o2 = o ++ servLines ((ss.take k).map Prod.fst) ∧ o2.length ≤ 24040000 + 100000 * k)) (ss).length (by exact kQ) (by exact kL) ⟨0, p, a, n, c, eb, o, by omega, rfl, rfl, by exact ⟨hp, hbs, by simp, by omega⟩⟩ ?_
    rintro mz Ez Mz ⟨k, p2, a2, n2, c2, eb2, o2, hk, rfl, rfl, hin⟩
    rcases Nat.lt_or_ge k (ss).length with hlt | hge
    · obtain ⟨hp2, hbs2, he2, hl2⟩ := hin
      obtain ⟨⟨s, ⟨sc, ⟨ta, tn, tc⟩⟩⟩, hy⟩ : ∃ y, ss[k]? = some y := ⟨ss[k]'(by omega), by simp [hlt]⟩
      obtain ⟨b'2, o'2, cs2, T2, fr2, rfl, hm2, hrw⟩ := hrS (by omega)
      have hrow'' := hrw k _ hy
      have hs : s ∈ w.servs := by rw [← hsE]; exact List.mem_map_of_mem (List.mem_of_getElem? hy)
      have hsk : w.servs[k]? = some s := by rw [← hsE, List.getElem?_map, hy]; rfl
      have hsok := (hok.ss k s hsk).1
      have hsid := hsok.id
      have htk3 := htk2 s hs
      obtain ⟨hnT, hcT, hbT, hrT⟩ := (hsa _ (List.mem_of_getElem? hy)).t
      dsimp only at hnT hrT
      subst hnT
      simp only [big] at hbT
      (repeat' (first | refine nI ?_ | (refine nA ?_; intro _) | (refine nW ?_; first | refine op_val rfl (by exact kStr) ?_) | (refine WR_id ?_; refine WR_pure rfl rfl rfl (by exact kStr) ?_) | refine nY ?_ | refine WA_alt ?_ ?_ | refine nR ?_ | refine WC_drawL (id := 17) (ops := o12x17T6) r12x17T6 (by kernel_rfl) rfl ?_ | refine WC_drawL (id := 23) (ops := o12x23T6) r12x23T6 (by kernel_rfl) rfl ?_ | refine WC_cond rfl (fun hc => ?_) (fun hc => ?_)))
      rename_i b12
      refine WC_loop (fun mzj Ezj Mzj => ∃ (kj : Nat) (p3 : Value) (a3 : Option Addr) (n3 c3 : Nat) (eb3 : List Ent) (o3 : Str), kj + mzj = (s.took).length ∧ Ezj = [(5, .pointer (some ⟨b5, 0, none⟩)), (7, .pointer (some ⟨b7, 0, none⟩)), (12, .pointer (some ⟨b12, 0, none⟩)), (43, .slice (some ⟨b'2, o'2, none⟩) ss.length cv), (44, I ss.length), (45, I k), (50, .slice ta s.took.length tc), (51, I s.took.length), (52, I kj)] ∧ Mzj = (b7, cellsO [p3, .slice a3 n3 c3] 67) :: (b12, cellsO (servC s sc ⟨ta, s.took.length, tc⟩) 77) :: (eb3 ++ ((b5, cellsO (worldC w ⟨kc, ⟨ac, ps.length, cc⟩, ⟨some ⟨b'2, o'2, none⟩, ss.length, cv⟩, ls⟩) 62) :: (wldE ek ec ca es sa el la ++ L))) ∧ ((p3 = .pointer none ∨ p3 = .pointer (some ⟨b7, 0, none⟩)) ∧ Bytes a3 n3 c3 o3 eb3 ∧ o3 = o2 ++ tookLines s.id (s.took.take kj) ∧ o3.length ≤ 24040000 + 100000 * k + 80 * kj)) (s.took).length (by exact kQ) (by exact kL) ⟨0, p2, a2, n2, c2, eb2, o2, by omega, rfl, rfl, by exact ⟨hp2, hbs2, by simp, by omega⟩⟩ ?_
      rintro mzj Ezj Mzj ⟨kj, p3, a3, n3, c3, eb3, o3, hkj, rfl, rfl, hinj⟩
      rcases Nat.lt_or_ge kj (s.took).length with hltj | hgej
      · obtain ⟨hp4, hbs4, he4, hl4⟩ := hinj
        obtain ⟨x, hx⟩ : ∃ x, s.took[kj]? = some x := ⟨s.took[kj]'(by omega), by simp [hltj]⟩
        obtain ⟨b'3, o'3, cs3, T3, fr3, rfl, hm3, hrw3⟩ := hrT (by omega)
        have hrow3 := hrw3 kj _ hx
        obtain ⟨x1, x2, x3, x4⟩ := tookOk_cases (hsok.took x (List.mem_of_getElem? hx))
        have d1 := dec_len x.peer
        have d2 := dec_len s.id
        have d3 := dec_len x.time
        have hl5 := tookLine_len s.id x
        (repeat' (first | refine nI ?_ | (refine nA ?_; intro _) | (refine nW ?_; first | refine op_val rfl (by exact kStr) ?_) | (refine WR_id ?_; refine WR_pure rfl rfl rfl (by exact kStr) ?_) | refine nY ?_ | refine WA_alt ?_ ?_ | refine nR ?_ | refine WC_drawL (id := 23) (ops := o12x23T6) r12x23T6 (by kernel_rfl) rfl ?_ | refine WC_cond rfl (fun hc => ?_) (fun hc => ?_)))
        rename_i b14
        (repeat' (first | refine nI ?_ | (refine nA ?_; intro _) | (refine nW ?_; first | (refine op_call_id ?_; refine op_ro rfl rfl (by first | exact c_itoa x.peer (by omega) (by omega) (hG.mono (by exact kS)) | exact c_itoa s.id (by omega) (by omega) (hG.mono (by exact kS)) | exact c_itoa x.time (by omega) (by omega) (hG.mono (by exact kS))) ?_) | (refine op_call_id ?_; refine op_call rfl (c_writeString b7 p3 a3 n3 c3 o3 (tookLine s.id x) eb3 hp4 (front2 (by exact kF) (by exact kE)) hbs4 (by simp only [big]; omega)) rfl ?_; rintro _ _ ⟨a9, n9, c9, eb9, rfl, hb9, rfl⟩) | refine op_val rfl (by exact kStr) ?_) | (refine WR_id ?_; refine WR_pure rfl rfl rfl (by exact kStr) ?_) | refine nY ?_ | refine WA_alt ?_ ?_ | refine nR ?_ | refine WC_draw (id := 17) (ops := o12x17T6) ([(b14, cellsO (callC x) 79), (b12, cellsO (servC s sc ⟨some ⟨b'3, o'3, none⟩, s.took.length, tc⟩) 77)]) r12x17T6 (by kernel_rfl) rfl ?_ | refine WC_drawL (id := 23) (ops := o12x23T6) r12x23T6 (by kernel_rfl) rfl ?_ | refine WC_cond rfl (fun hc => ?_) (fun hc => ?_)))
        exact loopQ_next ⟨mzj - 1, _, _, by omega, by exact kQ, by exact kL, kj + 1, .pointer (some ⟨b7, 0, none⟩), a9, n9, c9, eb9, o3 ++ tookLine s.id x, by omega, rfl, rfl, by exact ⟨.inr rfl, hb9, by rw [take_next hx, tookLines_next, he4, List.append_assoc], by rw [List.length_append]; omega⟩⟩
      · obtain ⟨hp4, hbs4, he4, hl4⟩ := hinj
        rw [take_all hgej] at he4
        (repeat' (first | refine nI ?_ | (refine nA ?_; intro _) | (refine nW ?_; first | refine op_val rfl (by exact kStr) ?_) | (refine WR_id ?_; refine WR_pure rfl rfl rfl (by exact kStr) ?_) | refine nY ?_ | refine WA_alt ?_ ?_ | refine nR ?_ | refine WC_drawL (id := 17) (ops := o12x17T6) r12x17T6 (by kernel_rfl) rfl ?_ | refine WC_drawL (id := 23) (ops := o12x23T6) r12x23T6 (by kernel_rfl) rfl ?_ | refine WC_cond rfl (fun hc => ?_) (fun hc => ?_)))
        exact loopQ_next ⟨mz - 1, _, _, by omega, by exact kQ, by exact kL, k + 1, p3, a3, n3, c3, eb3, o3, by omega, rfl, rfl, by exact ⟨hp4, hbs4, by rw [take_next hy, List.map_append, List.map_cons, List.map_nil, servLines_next, he4, he2, List.append_assoc], by omega⟩⟩
    obtain ⟨hp2, hbs2, he2, hl2⟩ := hin
    rw [take_all hge, hsE] at he2
    have hl3 : o2.length ≤ 24040000 + 200000 := by omega
    (repeat' (first | refine nI ?_ | (refine nA ?_; intro _) | (refine nW ?_; first | refine op_val rfl (by exact kStr) ?_) | (refine WR_id ?_; refine WR_pure rfl rfl rfl (by exact kStr) ?_) | refine nY ?_ | refine WA_alt ?_ ?_ | refine nR ?_ | refine WC_drawL (id := 17) (ops := o12x17T6) r12x17T6 (by kernel_rfl) rfl ?_ | refine WC_drawL (id := 23) (ops := o12x23T6) r12x23T6 (by kernel_rfl) rfl ?_ | refine WC_cond rfl (fun hc => ?_) (fun hc => ?_)))
    clear hl2 hk hge
    refine WC_loop (fun mz Ez Mz => ∃ (k : Nat) (p3 : Value) (a3 : Option Addr) (n3 c3 : Nat) (eb3 : List Ent) (o3 : Str), k + mz = (ps).length ∧ Ez = [(7, .pointer (some ⟨b7, 0, none⟩)), (74, .slice ac ps.length cc), (75, I ps.length), (76, I k)] ∧ Mz = (b7, cellsO [p3, .slice a3 n3 c3] 67) :: (eb3 ++ (wldE ek ec ca es sa el la ++ L)) ∧ ((p3 = .pointer none ∨ p3 = .pointer (some ⟨b7, 0, none⟩)) ∧ Bytes a3 n3 c3 o3 eb3 ∧ o3 = o2 ++ metLines ((ps.take k).map Prod.fst) ∧ o3.length ≤ 24240000 + 60 * k)) (ps).length (by exact kQ) (by exact kL) ⟨0, p2, a2, n2, c2, eb2, o2, by omega, rfl, rfl, by exact ⟨hp2, hbs2, by simp, by omega⟩⟩ ?_
    rintro mz Ez Mz ⟨k, p3, a3, n3, c3, eb3, o3, hk, rfl, rfl, hin⟩
    rcases Nat.lt_or_ge k (ps).length with hlt | hge
    · obtain ⟨hp4, hbs4, he4, hl4⟩ := hin
      obtain ⟨⟨u, ⟨sw, scr, sst, ⟨ma, mn, mc⟩⟩⟩, hy⟩ : ∃ y, ps[k]? = some y := ⟨ps[k]'(by omega), by simp [hlt]⟩
      obtain ⟨b'3, o'3, cs3, T3, fr3, rfl, hm3, hrw3⟩ := hrP (by omega)
      have hrow3 := hrw3 k _ hy
      have huk : w.clients[k]? = some u := by rw [← hpe, List.getElem?_map, hy]; rfl
      have huok := (hok.cs k u huk).1
      have huid := huok.id
      have hml := huok.ml
      have hsl9 := huok.sl
      obtain ⟨hnM, _, hbM, _⟩ := (hpa _ (List.mem_of_getElem? hy)).m
      dsimp only at hnM
      subst hnM
      have d1 := dec_len u.id
      have d2 := dec_len (u.met.length : Int)
      have hl5 := metLine_len u
      (repeat' (first | refine nI ?_ | (refine nA ?_; intro _) | (refine nW ?_; first | refine op_val rfl (by exact kStr) ?_) | (refine WR_id ?_; refine WR_pure rfl rfl rfl (by exact kStr) ?_) | refine nY ?_ | refine WA_alt ?_ ?_ | refine nR ?_ | refine WC_drawL (id := 17) (ops := o12x17T6) r12x17T6 (by kernel_rfl) rfl ?_ | refine WC_cond rfl (fun hc => ?_) (fun hc => ?_)))
      rename_i b16
      (repeat' (first | refine nI ?_ | (refine nA ?_; intro _) | (refine nW ?_; first | (refine op_call_id ?_; refine op_ro rfl rfl (by first | exact c_itoa u.id (by omega) (by omega) (hG.mono (by exact kS)) | exact c_itoa (u.met.length : Int) (by omega) (by omega) (hG.mono (by exact kS))) ?_) | (refine op_call_id ?_; refine op_call rfl (c_writeString b7 p3 a3 n3 c3 o3 (metLine u) eb3 hp4 (front2 (by exact kF) (by exact kE)) hbs4 (by simp only [big]; omega)) rfl ?_; rintro _ _ ⟨a9, n9, c9, eb9, rfl, hb9, rfl⟩) | refine op_val rfl (by exact kStr) ?_) | (refine WR_id ?_; refine WR_pure rfl rfl rfl (by exact kStr) ?_) | refine nY ?_ | refine WA_alt ?_ ?_ | refine nR ?_ | refine WC_drawL (id := 17) (ops := o12x17T6) r12x17T6 (by kernel_rfl) rfl ?_ | refine WC_draw (id := 23) (ops := o12x23T6) ([(b16, cellsO (clientC u ⟨sw, scr, sst, ⟨ma, u.met.length, mc⟩⟩) 84)]) r12x23T6 (by kernel_rfl) rfl ?_ | refine WC_cond rfl (fun hc => ?_) (fun hc => ?_)))
      exact loopQ_next ⟨mz - 1, _, _, by omega, by exact kQ, by exact kL, k + 1, .pointer (some ⟨b7, 0, none⟩), a9, n9, c9, eb9, o3 ++ metLine u, by omega, rfl, rfl, by exact ⟨.inr rfl, hb9, by rw [take_next hy, List.map_append, List.map_cons, List.map_nil, metLines_next, he4, List.append_assoc], by rw [List.length_append]; omega⟩⟩
    obtain ⟨hp4, hbs4, he4, hl4⟩ := hin
    rw [take_all hge, hpe] at he4
    have hfin : o ++ (tookText w ++ metText w) = o3 := by rw [he4, he2, tookText_eq, metText_eq, List.append_assoc]
    have hne : o3 ≠ [] := by
      rw [he4]
      intro h0
      have h1 := List.append_eq_nil_iff.1 h0
      have h2 := met_count w.clients
      have h3 : List.count 10 (metLines w.clients) = 0 := by rw [h1.2]; rfl
      have h4 := hok.cl
      have h5 : w.clients.length ≤ List.count 10 (metLines w.clients) := h2
      omega
    rw [hfin]
    (repeat' (first | refine nI ?_ | (refine nA ?_; intro _) | (refine nW ?_; first | (refine op_call_id ?_; refine op_call rfl (c_bString b7 p3 a3 n3 c3 o3 eb3 (front2 (by exact kF) (by exact kE)) hbs4 hne (by simp only [big]; omega)) rfl ?_; rintro _ _ ⟨rfl, rfl⟩) | refine op_val rfl (by exact kStr) ?_) | (refine WR_id ?_; refine WR_pure rfl rfl rfl (by exact kStr) ?_) | refine nY ?_ | refine WA_alt ?_ ?_ | refine nR ?_ | refine WC_drawL (id := 17) (ops := o12x17T6) r12x17T6 (by kernel_rfl) rfl ?_ | refine WC_drawL (id := 23) (ops := o12x23T6) r12x23T6 (by kernel_rfl) rfl ?_ | refine WC_cond rfl (fun hc => ?_) (fun hc => ?_)))
    refine ro_ret (by exact kR) (by exact kL) ?_; rfl
theorem c_linesRun {L : List Ent} (bad : Int) (text : Str) (hG : Glob L) : RO Tryz.prog 12 [I bad, St text] L (St (linesRun bad text)) := by
  cases hb : within bad 0 3 with
  | false =>
    rw [lo_1 (within_false.1 hb)]
    exact c_linesRun0 bad text hb
  | true =>
    by_cases h : 600 < text.length
    · rw [lo_2 (within_iff.1 hb) h]
      exact c_linesRun1 bad text hb h
    · exact c_linesRun2 bad text hb (by omega) hG
end Go.Proofs.YtoledfhjmdpihaaGreatDoor
