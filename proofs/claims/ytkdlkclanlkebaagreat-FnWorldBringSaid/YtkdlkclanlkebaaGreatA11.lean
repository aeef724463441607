/- Draws: events. -/
import Derived.Below
import Derived.Test.YtkdlkclanlkebaaGreatA10
import Derived.Test.YtkdlkclanlkebaaGreatA9
import Derived.Test.YtkdlkclanlkebaaGreatA2
import Derived.Test.YtkdlkclanlkebaaGreatA3
import Derived.Test.YtkdlkclanlkebaaGreatA1
set_option linter.unusedVariables false
set_option linter.unusedSectionVars false
set_option linter.unusedSimpArgs false
namespace Go.Proofs.YtkdlkclanlkebaaGreat
open Go Go.Proofs Go.Proofs.YtkdlkclanlkebaaGreat.VE
attribute [local irreducible] Val Op1 WO WR WA WC seqQ blockQ loopQ retQ
set_option maxHeartbeats 8000000
theorem c_l72BadP {L L1 : List Ent} (br : Nat) (sb : Sl) (bs : List Int) (p : Int) (w : World) (q : WSl) (ps : List (Client × CSl)) (ss : List (Serv × (Sl × Sl))) (ms : List (Msg × Sl)) (hL : L.Perm ((br, rdO sb p) :: L1)) (hb : Code8 L1 sb bs) (hw : DOk w) (hat : WldAt L1 w q ps ss ms) (hp : 0 ≤ p ∧ p ≤ 600000) : Tri Tryz.prog 121 [.pointer (some ⟨br, 0, none⟩), worldV w q] L (fun v L' => ∃ (m : Msg) (sm : Sl) (em : List Ent) (p' : Int), v = msgV m sm ∧ Row encSeal 51 sm m.seals em ∧ m.seals.length ≤ 3 ∧ (p ≤ p' ∧ p' ≤ p + 2000) ∧ L' = em ++ ((br, rdO sb p') :: L1)) := c_l72Bad br sb bs hb w q ps ss ms hw hat p hL hp
theorem c_l72Event {L L1 : List Ent} (br : Nat) (sb : Sl) (bs : List Int) (p : Int) (w : World) (q : WSl) (ps : List (Client × CSl)) (ss : List (Serv × (Sl × Sl))) (ms : List (Msg × Sl)) (hL : L.Perm ((br, rdO sb p) :: L1)) (hb : Code8 L1 sb bs) (hw : DOk w) (hat : WldAt L1 w q ps ss ms) (hp : 0 ≤ p ∧ p ≤ 500000) : Tri Tryz.prog 70 [.pointer (some ⟨br, 0, none⟩), worldV w q] L (fun v L' => ∃ (e : Event) (se : Sl) (em : List Ent) (p' : Int), v = eventV e se ∧ MsgAt em e.msg se ∧ (p ≤ p' ∧ p' ≤ p + 2100) ∧ L' = em ++ ((br, rdO sb p') :: L1)) := by
  refine Tri.perm ?_ hL
  obtain ⟨kc, cs, ss', ⟨al, nl, cl⟩⟩ := q
  have hmr := hat.mr
  obtain ⟨hn0, hc0, _, _⟩ := hmr
  dsimp only at hn0
  subst hn0
  have hml := len_fst hat.me
  have hll := hw.ll
  refine Tri.of Tryz.func70 rfl rfl Tryz.ntmps70 rfl rfl ?_
  (repeat' (first | refine nX ?_ | (refine nA ?_; intro _) | (refine nW ?_; first | (refine op_call_id ?_; refine op_call rfl (c_pick br sb bs _ _ (by exact kF) (hb.mono (by exact kS)) (by omega)) rfl ?_; rintro _ _ ⟨x, rfl, hx, rfl⟩)) | refine nY ?_ | refine WC_regionN [4] rfl ?_ | refine WC_block ?_))
  rename_i b3 b4 x1 hx1
  refine WC_cut (X := { y : Bool × Int // p ≤ y.2 ∧ y.2 ≤ p + 3 })
    (fun y => [(0, .pointer (some ⟨br, 0, none⟩)), (3, .pointer (some ⟨b3, 0, none⟩)), (4, .pointer (some ⟨b4, 0, none⟩)), (5, I (1 + x1)), (6, I (4 + x)), (7, I ms.length), (23, B y.1.1)])
    (fun y => (br, rdO sb y.1.2) :: (b4, cellsO (eventC ⟨0, 0, 0, Msg.zero⟩ Sl.nil) 58) :: (b3, cellsO (worldC w ⟨kc, cs, ss', ⟨al, ms.length, cl⟩⟩) 33) :: L1) ?_ ?_
  · by_cases h0 : 0 < ms.length
    · (repeat' (first | refine nI ?_ | (refine nA ?_; intro _) | (refine nW ?_; first | (refine op_call_id ?_; refine op_call rfl (c_pick br sb bs _ _ (by exact kF) (hb.mono (by exact kS)) (by omega)) rfl ?_; rintro _ _ ⟨x, rfl, hx, rfl⟩)) | refine nY ?_ | refine nR ?_))
      (refine ⟨rfl, ⟨(_, _), ?_⟩, by exact kQ, by exact kL⟩; dsimp only; omega)
    · (repeat' (first | refine nI ?_ | (refine nA ?_; intro _) | (refine nW ?_; first | (refine op_call_id ?_; refine op_call rfl (c_pick br sb bs _ _ (by exact kF) (hb.mono (by exact kS)) (by omega)) rfl ?_; rintro _ _ ⟨x, rfl, hx, rfl⟩)) | refine nY ?_ | refine nR ?_))
      (refine ⟨rfl, ⟨(false, _), ?_⟩, by exact kQ, by exact kL⟩; dsimp only; omega)
  rintro ⟨⟨tb, p2⟩, hp2⟩
  dsimp only at hp2 ⊢
  cases tb with
  | true =>
    (repeat' (first | refine nX ?_ | (refine nA ?_; intro _) | (refine nW ?_; first | (refine op_call_id ?_; refine op_call rfl (c_pick br sb bs _ _ (by exact kF) (hb.mono (by exact kS)) (by omega)) rfl ?_; rintro _ _ ⟨x, rfl, hx, rfl⟩)) | refine nY ?_ | refine nR ?_ | refine WC_cond rfl (fun hc => ?_) (fun hc => ?_)))
    refine ret_ret (by exact kR) ?_; exact ⟨(br, rdO sb _) :: L1, by exact kP, ⟨_, _, _, ⟨_, _, _, _, []⟩⟩, ⟨_, 0, 0⟩, [], _, rfl, SliceAt.nil, by omega, rfl⟩
  | false =>
    (repeat' (first | refine nX ?_ | (refine nA ?_; intro _) | (refine nW ?_; first | (refine op_call_id ?_; refine op_call rfl (c_pick br sb bs _ _ (by exact kF) (hb.mono (by exact kS)) (by omega)) rfl ?_; rintro _ _ ⟨x, rfl, hx, rfl⟩)) | refine nY ?_ | refine WC_regionN [7] rfl ?_ | refine WC_block ?_))
    rcases (show x = 0 ∨ x = 1 ∨ x = 2 ∨ x = 3 ∨ x = 4 ∨ x = 5 ∨ x = 6 ∨ x = 7 ∨ x = 8 ∨ x = 9 ∨ x = 10 ∨ x = 11 ∨ x = 12 ∨ x = 13 ∨ x = 14 ∨ x = 15 ∨ x = 16 ∨ x = 17 ∨ 18 ≤ x by omega) with rfl | rfl | rfl | rfl | rfl | rfl | rfl | rfl | rfl | rfl | rfl | rfl | rfl | rfl | rfl | rfl | rfl | rfl | hx18
    rotate_right
    · (repeat' (first | refine nI ?_ | (refine nA ?_; intro _) | refine nY ?_ | refine nR ?_))
      (refine ret_ret (by exact kR) ?_; exact ⟨(br, rdO sb _) :: L1, by exact kP, ⟨_, _, _, ⟨_, _, _, _, []⟩⟩, ⟨_, 0, 0⟩, [], _, rfl, SliceAt.nil, by omega, rfl⟩)
    all_goals (repeat' (first | refine nI ?_ | (refine nA ?_; intro _) | (refine nW ?_; first | (refine op_call_id ?_; refine op_call rfl (c_pick br sb bs _ _ (by exact kF) (hb.mono (by exact kS)) (by omega)) rfl ?_; rintro _ _ ⟨x, rfl, hx, rfl⟩) | (refine op_call_id ?_; refine op_call rfl (c_l72ForgeP br sb bs _ w _ ps ss ms (by exact kF) (hb.mono (by exact kS)) hw (hat.mono (by exact kS)) (by omega)) rfl ?_; rintro _ _ ⟨m, sm, em, p3, rfl, hr3, hl3, hp3, rfl⟩) | (refine op_call_id ?_; refine op_call rfl (c_l72BadP br sb bs _ w _ ps ss ms (by exact kF) (hb.mono (by exact kS)) hw (hat.mono (by exact kS)) (by omega)) rfl ?_; rintro _ _ ⟨m, sm, em, p3, rfl, hr3, hl3, hp3, rfl⟩)) | refine nY ?_ | refine nR ?_))
    all_goals first
      | (refine ret_ret (by exact kR) ?_; exact ⟨(br, rdO sb _) :: L1, by exact kP, ⟨_, _, _, ⟨_, _, _, _, []⟩⟩, ⟨_, 0, 0⟩, [], _, rfl, SliceAt.nil, by omega, rfl⟩)
      | (refine ret_ret (by exact kR) ?_; exact ⟨em ++ ((br, rdO sb _) :: L1), by exact kP, ⟨5, 0, 0, m⟩, sm, em, _, rfl, hr3.at, by omega, rfl⟩)
end Go.Proofs.YtkdlkclanlkebaaGreat
/- Draws: how a world is played. -/
set_option linter.unusedVariables false
set_option linter.unusedSectionVars false
set_option linter.unusedSimpArgs false
namespace Go.Proofs.YtkdlkclanlkebaaGreat
open Go Go.Proofs Go.Proofs.YtkdlkclanlkebaaGreat.VE
attribute [local irreducible] Val Op1 WO WR WA WC seqQ blockQ loopQ retQ
noncomputable def o58x18L50 : Array Oper := cops (cl (cr (cr (cr (cr (cr (cr (codeOf Tryz.f58))))))))
noncomputable def r58x18L50 : Run := (.st 0 0 (.st 1 0 (.st 2 1 (.st 3 0 (.st 4 0 (.st 5 3 .done))))))
set_option maxHeartbeats 8000000
def evs8 (who : Int) : List (Event × Sl) := [(⟨1, who, 0, Msg.zero⟩, Sl.nil), (⟨4, 0, 0, Msg.zero⟩, Sl.nil), (⟨4, 1, 0, Msg.zero⟩, Sl.nil), (⟨2, who, 4, Msg.zero⟩, Sl.nil), (⟨4, 2, 0, Msg.zero⟩, Sl.nil), (⟨4, 3, 0, Msg.zero⟩, Sl.nil), (⟨3, who, 4, Msg.zero⟩, Sl.nil), (⟨4, 4, 0, Msg.zero⟩, Sl.nil)]
theorem evsH_msg {who : Int} {k : Nat} {e : Event} {se : Sl} (h : (evs8 who)[k]? = some (e, se)) (L : List Ent) : MsgAt L e.msg se := by
  have hm := List.mem_of_getElem? h
  simp only [evs8, List.mem_cons, Prod.mk.injEq, List.not_mem_nil, or_false] at hm
  rcases hm with ⟨rfl, rfl⟩ | ⟨rfl, rfl⟩ | ⟨rfl, rfl⟩ | ⟨rfl, rfl⟩ | ⟨rfl, rfl⟩ | ⟨rfl, rfl⟩ | ⟨rfl, rfl⟩ | ⟨rfl, rfl⟩ <;> exact SliceAt.nil
theorem evsH_row {who : Int} {k : Nat} {e : Event} {se : Sl} (h : (evs8 who)[k]? = some (e, se)) : takeC (encEvent.row (evs8 who)) (0 + k * encEvent.sz) encEvent.sz = some (eventC e se) := by
  have := RowC.of_row encEvent (evs8 who) [] k _ h
  rwa [List.append_nil] at this
theorem msgs_add {em em2 : List Ent} {evs : List (Event × Sl)} {e : Event} {se : Sl} (h : ∀ y ∈ evs, MsgAt em y.1.msg y.2) (h2 : MsgAt (em2 ++ em) e.msg se) : ∀ y ∈ evs ++ [(e, se)], MsgAt (em2 ++ em) y.1.msg y.2 := by
  intro y hy
  rcases List.mem_append.1 hy with hy | hy
  · exact (h y hy).mono fun z hz => List.mem_append_right _ hz
  · simp only [List.mem_cons, List.not_mem_nil, or_false] at hy
    subst hy
    exact h2
/-- Few were taken, and few words were sent. -/
def Small (n : Nat) (w : World) : Prop := TookLe n w ∧ w.log.length ≤ n
theorem Small.up {n m : Nat} {w : World} (h : Small n w) (hm : n ≤ m) : Small m w := ⟨h.1.up hm, Nat.le_trans h.2 hm⟩
theorem small_step {n : Nat} {w : World} {e : Event} (h : Small n w) : Small (n + 1) (step w e) := ⟨took_step h.1, by have := (step_log w e).1; have := h.2; omega⟩
structure PlaySt where
  evs : List (Event × Sl)
  a : Option Addr
  n : Nat
  c : Nat
  es : List Ent
  em : List Ent
  w : World
  q : WSl
  ps : List (Client × CSl)
  ss : List (Serv × (Sl × Sl))
  ms : List (Msg × Sl)
  ek : List Ent
  ec : List Ent
  ca : List Ent
  ew : List Ent
  sa : List Ent
  el : List Ent
  la : List Ent
  p : Int
structure PlayOk (y : PlaySt) : Prop where
  row : Row encEvent 58 ⟨y.a, y.n, y.c⟩ y.evs y.es
  len : y.evs.length ≤ 8
  msg : ∀ z ∈ y.evs, MsgAt y.em z.1.msg z.2
  own : WldOwn y.w y.q y.ps y.ss y.ms y.ek y.ec y.ca y.ew y.sa y.el y.la
  ok : WOk y.w
  took : Small 8 y.w
  pos : 0 ≤ y.p ∧ y.p ≤ 10
theorem c_l72PlayW {L L1 : List Ent} (br : Nat) (sb : Sl) (bs : List Int) (hL : L.Perm ((br, rdO sb 0) :: L1)) (hb : Code8 L1 sb bs) : Tri Tryz.prog 58 [.pointer (some ⟨br, 0, none⟩)] L (fun v L' => ∃ (bad : Int) (sev : Sl) (evs : List (Event × Sl)) (es em : List Ent) (w : World) (q : WSl) (ps : List (Client × CSl)) (ss : List (Serv × (Sl × Sl))) (ms : List (Msg × Sl)) (ek ec ca ew sa el la : List Ent) (p' : Int), v = .tuple [I bad, sev.v, worldV w q].toArray ∧ Row encEvent 58 sev evs es ∧ (∀ y ∈ evs, MsgAt em y.1.msg y.2) ∧ evs.length ≤ 62 ∧ (0 ≤ p' ∧ p' ≤ 200000) ∧ WldOwn w q ps ss ms ek ec ca ew sa el la ∧ WOk w ∧ Small 62 w ∧ L' = es ++ (em ++ (ek ++ (ec ++ (ca ++ (ew ++ (sa ++ (el ++ (la ++ ((br, rdO sb p') :: L1)))))))))) := by
  refine Tri.perm ?_ hL
  refine Tri.of Tryz.func58 rfl rfl Tryz.ntmps58 rfl rfl ?_
  (repeat' (first | refine nX ?_ | (refine nA ?_; intro _) | (refine nW ?_; first | (refine op_call_id ?_; refine op_call rfl (c_pick br sb bs _ _ (by exact kF) (hb.mono (by exact kS)) (by omega)) rfl ?_; rintro _ _ ⟨x, rfl, hx, rfl⟩)) | refine nY ?_ | refine WA_alt ?_ ?_ | refine WC_regionN [2] rfl ?_ | refine WC_block ?_ | refine WC_drawL (id := 18) (ops := o58x18L50) r58x18L50 (by kernel_rfl) rfl ?_))
  have hbad : within x 0 3 = true := within_iff.2 (by omega)
  (repeat' (first | refine nX ?_ | (refine nA ?_; intro _) | (refine nW ?_; first | (refine op_call_id ?_; refine op_call rfl (c_sWorldNew1 x hbad) rfl ?_; rintro _ _ ⟨q0, ps0, ss0, ms0, ek0, ec0, ca0, ew0, sa0, el0, la0, rfl, hown0, rfl⟩) | (refine op_call_id ?_; refine op_call rfl (c_pick br sb bs _ _ (by exact kF) (hb.mono (by exact kS)) (by omega)) rfl ?_; rintro _ _ ⟨x2, rfl, hx2, rfl⟩)) | refine nY ?_ | refine WA_alt ?_ ?_ | refine nR ?_ | refine WC_drawL (id := 18) (ops := o58x18L50) r58x18L50 (by kernel_rfl) rfl ?_))
  rename_i b4 b6 b9
  have hk0 : Small 0 (worldNew x) := ⟨fun s hs => (by simp [worldNew, servNew] at hs; rcases hs with rfl | rfl <;> simp), by simp [worldNew]⟩
  refine WC_cut (X := { y : PlaySt // PlayOk y })
    (fun y => [(0, .pointer (some ⟨br, 0, none⟩)), (4, .pointer (some ⟨b4, 0, none⟩)), (5, I x), (6, .pointer (some ⟨b6, 0, none⟩)), (8, .slice y.1.a y.1.n y.1.c)])
    (fun y => (br, rdO sb y.1.p) :: (b4, cellsO (worldC World.zero WSl.nil) 33) :: (b6, cellsO (worldC y.1.w y.1.q) 33) :: (y.1.es ++ (wldE y.1.ek y.1.ec y.1.ca y.1.ew y.1.sa y.1.el y.1.la ++ (y.1.em ++ L1)))) ?_ ?_
  · (repeat' (first | refine nX ?_ | (refine nA ?_; intro _) | (refine nW ?_; first | (refine op_call_id ?_; refine op_call rfl (c_pick br sb bs _ _ (by exact kF) (hb.mono (by exact kS)) (by omega)) rfl ?_; rintro _ _ ⟨x3, rfl, hx3, rfl⟩)) | refine nY ?_ | refine WA_alt ?_ ?_ | refine nR ?_ | refine WC_drawL (id := 18) (ops := o58x18L50) r58x18L50 (by kernel_rfl) rfl ?_ | refine WC_cond rfl (fun hc => ?_) (fun hc => ?_)))
    · rename_i b39
      have hl8 : (evs8 (1 + x3)).length = 8 := rfl
      refine WC_loop (fun mz Ez Mz => ∃ (k : Nat) (evs : List (Event × Sl)) (a : Option Addr) (n c : Nat) (es : List Ent) (w : World) (q : WSl) (ps : List (Client × CSl)) (ss : List (Serv × (Sl × Sl))) (ms : List (Msg × Sl)) (ek ec ca ew sa el la : List Ent), k + mz = (evs8 (1 + x3)).length ∧ Ez = [(0, .pointer (some ⟨br, 0, none⟩)), (4, .pointer (some ⟨b4, 0, none⟩)), (5, I x), (6, .pointer (some ⟨b6, 0, none⟩)), (8, .slice a n c), (39, .slice (some ⟨b39, 0, none⟩) 8 8), (40, I 8), (41, I k)] ∧ Mz = (br, rdO sb 3) :: (b4, cellsO (worldC World.zero WSl.nil) 33) :: (b6, cellsO (worldC w q) 33) :: (b39, cellsO (encEvent.row (evs8 (1 + x3))) 58) :: (es ++ (wldE ek ec ca ew sa el la ++ L1)) ∧ (Row encEvent 58 ⟨a, n, c⟩ evs es ∧ evs.length = k ∧ (∀ y ∈ evs, MsgAt [] y.1.msg y.2) ∧ WldOwn w q ps ss ms ek ec ca ew sa el la ∧ WOk w ∧ Small k w)) (evs8 (1 + x3)).length (by exact kQ) (by exact kL) ⟨0, [], some ⟨b9, 0, none⟩, 0, 0, [], worldNew x, q0, ps0, ss0, ms0, ek0, ec0, ca0, ew0, sa0, el0, la0, by omega, rfl, rfl, by exact ⟨Row.nil, rfl, fun y hy => absurd hy List.not_mem_nil, hown0, new_ok (within_iff.1 hbad), hk0⟩⟩ ?_
      rintro mz Ez Mz ⟨k, evs, a, n, c, es, w, q, ps, ss, ms, ek, ec, ca, ew, sa, el, la, hk, rfl, rfl, hin⟩
      rcases Nat.lt_or_ge k (evs8 (1 + x3)).length with hlt | hge
      · obtain ⟨hrow, hel, hms, hown, hok, htk⟩ := hin
        obtain ⟨⟨e, se⟩, hy⟩ : ∃ y, (evs8 (1 + x3))[k]? = some y := ⟨(evs8 (1 + x3))[k]'(by omega), by simp [hlt]⟩
        have hme : ∀ L, MsgAt L e.msg se := evsH_msg hy
        have htk8 := evsH_row hy
        have hn := hrow.n
        dsimp only at hn
        subst hn
        (repeat' (first | refine nI ?_ | (refine nA ?_; intro _) | (refine nW ?_; first | (refine go_append ?_; refine op_appendRow (sl := ⟨_, _, _⟩) (sx := ⟨_, _, _⟩) rfl rfl rfl rfl rfl rfl rfl rfl rfl (hrow) (by exact kE) (SliceAt.one (x := (e, se)) (by exact kM) rfl) (by exact kN) ?_; intro sl' es' hrow' hst') | (refine op_call_id ?_; refine op_call rfl (c_l21DoP w q ps ss ms ek ec ca ew sa el la (by exact kE) hok hown (htk.1.up (by omega)) e se (hme _)) rfl ?_; rintro _ _ ⟨q9, ps9, ss9, ms9, ek9, ec9, ca9, ew9, sa9, el9, la9, rfl, ho9, rfl⟩)) | refine nY ?_ | refine WA_alt ?_ ?_ | refine nR ?_ | refine WC_drawL (id := 18) (ops := o58x18L50) r58x18L50 (by kernel_rfl) rfl ?_ | refine WC_cond rfl (fun hc => ?_) (fun hc => ?_)))
        obtain ⟨a9, n9, c9⟩ := sl'
        exact loopQ_next ⟨mz - 1, _, _, by omega, by exact kQ, by exact kL, k + 1, evs ++ [(e, se)], a9, n9, c9, es', step w e, q9, ps9, ss9, ms9, ek9, ec9, ca9, ew9, sa9, el9, la9, by omega, rfl, rfl, by exact ⟨hrow', by simp [hel], msgs_add (em := []) (em2 := []) hms (hme _), ho9, step_ok hok, small_step htk⟩⟩
      · obtain ⟨hrow, hel, hms, hown, hok, htk⟩ := hin
        (repeat' (first | refine nI ?_ | (refine nA ?_; intro _) | refine nY ?_ | refine WA_alt ?_ ?_ | refine nR ?_ | refine WC_drawL (id := 18) (ops := o58x18L50) r58x18L50 (by kernel_rfl) rfl ?_ | refine WC_cond rfl (fun hc => ?_) (fun hc => ?_)))
        exact ⟨rfl, ⟨⟨evs, a, n, c, es, [], w, q, ps, ss, ms, ek, ec, ca, ew, sa, el, la, 3⟩, ⟨hrow, by dsimp only; omega, hms, hown, hok, htk.up (by omega), by dsimp only; omega⟩⟩, by exact kQ, by exact kL⟩
    · exact ⟨rfl, ⟨⟨[], some ⟨b9, 0, none⟩, 0, 0, [], [], worldNew x, q0, ps0, ss0, ms0, ek0, ec0, ca0, ew0, sa0, el0, la0, 2⟩, ⟨Row.nil, by simp, fun y hy => absurd hy List.not_mem_nil, hown0, new_ok (within_iff.1 hbad), hk0.up (by omega), by dsimp only; omega⟩⟩, by exact kQ, by exact kL⟩
  rintro ⟨⟨evs0, a0, n0, c0, es0, em0, w0, q0, ps0, ss0, ms0, ek0, ec0, ca0, ew0, sa0, el0, la0, p0⟩, hrow0, hel0, hms0, hown0, hok0, htk0, hp0⟩
  dsimp only at hrow0 hel0 hms0 hown0 hok0 htk0 hp0 ⊢
  (repeat' (first | refine nX ?_ | (refine nA ?_; intro _) | (refine nW ?_; first | (refine op_call_id ?_; refine op_call rfl (c_pick br sb bs _ _ (by exact kF) (hb.mono (by exact kS)) (by omega)) rfl ?_; rintro _ _ ⟨x4, rfl, hx4, rfl⟩)) | refine nY ?_ | refine WA_alt ?_ ?_ | refine nR ?_ | refine WC_drawL (id := 18) (ops := o58x18L50) r58x18L50 (by kernel_rfl) rfl ?_))
  have hlr : (List.range x4.toNat).length = x4.toNat := List.length_range
  refine WC_loop (fun mz Ez Mz => ∃ (k : Nat) (evs : List (Event × Sl)) (a : Option Addr) (n c : Nat) (es em : List Ent) (w : World) (q : WSl) (ps : List (Client × CSl)) (ss : List (Serv × (Sl × Sl))) (ms : List (Msg × Sl)) (ek ec ca ew sa el la : List Ent) (p xd : Int), k + mz = (List.range x4.toNat).length ∧ Ez = [(0, .pointer (some ⟨br, 0, none⟩)), (4, .pointer (some ⟨b4, 0, none⟩)), (5, I x), (6, .pointer (some ⟨b6, 0, none⟩)), (8, .slice a n c), (12, I xd)] ∧ Mz = (br, rdO sb p) :: (b4, cellsO (worldC World.zero WSl.nil) 33) :: (b6, cellsO (worldC w q) 33) :: (es ++ (wldE ek ec ca ew sa el la ++ (em ++ L1))) ∧ (Row encEvent 58 ⟨a, n, c⟩ evs es ∧ evs.length ≤ 8 + k ∧ (∀ y ∈ evs, MsgAt em y.1.msg y.2) ∧ WldOwn w q ps ss ms ek ec ca ew sa el la ∧ WOk w ∧ Small (8 + k) w ∧ xd + k = x4 ∧ 0 ≤ p ∧ p ≤ 11 + 2100 * k)) (List.range x4.toNat).length (by exact kQ) (by exact kL) ⟨0, evs0, a0, n0, c0, es0, em0, w0, q0, ps0, ss0, ms0, ek0, ec0, ca0, ew0, sa0, el0, la0, p0 + 1, x4, by omega, rfl, rfl, by exact ⟨hrow0, by omega, hms0, hown0, hok0, htk0.up (by omega), by omega, by omega, by omega⟩⟩ ?_
  rintro mz Ez Mz ⟨k, evs, a, n, c, es, em, w, q, ps, ss, ms, ek, ec, ca, ew, sa, el, la, p, xd, hk, rfl, rfl, hin⟩
  rcases Nat.lt_or_ge k (List.range x4.toNat).length with hlt | hge
  · obtain ⟨hrow, hel, hms, hown, hok, htk, hxd, hp1, hp2⟩ := hin
    have hn := hrow.n
    dsimp only at hn
    subst hn
    (repeat' (first | refine nI ?_ | (refine nA ?_; intro _) | (refine nW ?_; first | (refine op_call_id ?_; refine op_call rfl (c_l72Event br sb bs _ w q ps ss ms (by exact kF) (hb.mono (by exact kS)) hok.d (hown.at.mono (by exact kS)) (by omega)) rfl ?_; rintro _ _ ⟨e, se, em2, p3, rfl, hme, hp3, rfl⟩) | (refine go_append ?_; refine op_appendRow (sl := ⟨_, _, _⟩) (sx := ⟨_, _, _⟩) rfl rfl rfl rfl rfl rfl rfl rfl rfl (hrow) (by exact kE) (SliceAt.one (x := (e, se)) (by exact kM) rfl) (by exact kN) ?_; intro sl' es' hrow' hst') | (refine op_call_id ?_; refine op_call rfl (c_l21DoP w q ps ss ms ek ec ca ew sa el la (by exact kE) hok hown (htk.1.up (by omega)) e se (hme.mono (by exact kS))) rfl ?_; rintro _ _ ⟨q9, ps9, ss9, ms9, ek9, ec9, ca9, ew9, sa9, el9, la9, rfl, ho9, rfl⟩)) | refine nY ?_ | refine WA_alt ?_ ?_ | refine nR ?_ | refine WC_drawL (id := 18) (ops := o58x18L50) r58x18L50 (by kernel_rfl) rfl ?_ | refine WC_cond rfl (fun hc => ?_) (fun hc => ?_)))
    obtain ⟨a9, n9, c9⟩ := sl'
    exact loopQ_next ⟨mz - 1, _, _, by omega, by exact kQ, by (try simp only [List.append_assoc]); exact kL, k + 1, evs ++ [(e, se)], a9, n9, c9, es', em2 ++ em, step w e, q9, ps9, ss9, ms9, ek9, ec9, ca9, ew9, sa9, el9, la9, p3, xd - 1, by omega, rfl, rfl, by exact ⟨hrow', by rw [List.length_append, List.length_cons, List.length_nil]; omega, msgs_add hms (hme.mono fun z hz => List.mem_append_left _ hz), ho9, step_ok hok, small_step htk, by omega, by omega, by omega⟩⟩
  · obtain ⟨hrow, hel, hms, hown, hok, htk, hxd, hp1, hp2⟩ := hin
    (repeat' (first | refine nI ?_ | (refine nA ?_; intro _) | refine nY ?_ | refine WA_alt ?_ ?_ | refine nR ?_ | refine WC_draw (id := 18) (ops := o58x18L50) ([(b6, cellsO (worldC w q) 33)]) r58x18L50 (by kernel_rfl) rfl ?_ | refine WC_cond rfl (fun hc => ?_) (fun hc => ?_)))
    refine ret_ret (by exact kR) ?_; exact ⟨es ++ (em ++ (ek ++ (ec ++ (ca ++ (ew ++ (sa ++ (el ++ (la ++ ((br, rdO sb p) :: L1))))))))), by simp only [wldE, List.append_assoc]; exact kP, x, ⟨a, n, c⟩, evs, es, em, w, q, ps, ss, ms, ek, ec, ca, ew, sa, el, la, p, rfl, hrow, hms, by omega, by omega, hown, hok, htk.up (by omega), rfl⟩
theorem c_l72Play {L L1 : List Ent} (br : Nat) (sb : Sl) (bs : List Int) (hL : L.Perm ((br, rdO sb 0) :: L1)) (hb : Code8 L1 sb bs) : Tri Tryz.prog 58 [.pointer (some ⟨br, 0, none⟩)] L (fun v L' => ∃ (bad : Int) (sev : Sl) (evs : List (Event × Sl)) (es em : List Ent) (w : World) (q : WSl) (p' : Int), v = .tuple [I bad, sev.v, worldV w q].toArray ∧ Row encEvent 58 sev evs es ∧ (∀ y ∈ evs, MsgAt em y.1.msg y.2) ∧ evs.length ≤ 62 ∧ (0 ≤ p' ∧ p' ≤ 200000) ∧ L' = es ++ (em ++ ((br, rdO sb p') :: L1))) :=
  Tri.to (c_l72PlayW br sb bs hL hb) fun v L' ⟨bad, sev, evs, es, em, w, q, ps, ss, ms, ek, ec, ca, ew, sa, el, la, p', h1, h2, h3, h4, h5, _, _, _, h6⟩ =>
    ⟨es ++ (em ++ ((br, rdO sb p') :: L1)), by subst h6; exact kP, bad, sev, evs, es, em, w, q, p', h1, h2, h3, h4, h5, rfl⟩
end Go.Proofs.YtkdlkclanlkebaaGreat
/- Draws: what a law is asked about a world. -/
set_option linter.unusedVariables false
set_option linter.unusedSectionVars false
set_option linter.unusedSimpArgs false
namespace Go.Proofs.YtkdlkclanlkebaaGreat
open Go Go.Proofs Go.Proofs.YtkdlkclanlkebaaGreat.VE
attribute [local irreducible] Val Op1 WO WR WA WC seqQ blockQ loopQ retQ
set_option maxHeartbeats 8000000
theorem sum_at {es em : List Ent} {T : TypeId} {sev : Sl} {evs : List (Event × Sl)} (h : Row encEvent T sev evs es) (hm : ∀ y ∈ evs, MsgAt em y.1.msg y.2) : SliceAt (es ++ em) encEvent sev evs ∧ ∀ y ∈ evs, MsgAt (es ++ em) y.1.msg y.2 :=
  ⟨h.at.mono fun _ hz => List.mem_append_left _ hz, fun y hy => (hm y hy).mono fun _ hz => List.mem_append_right _ hz⟩
theorem c_drawWorldPlay {L : List Ent} (sb : Sl) (bs : List Int) (h : SliceAt L encByte sb bs) (hby : ∀ x ∈ bs, 0 ≤ x ∧ x ≤ 255) : Tri Tryz.prog 30 [sb.v] L (fun v L' => ∃ (bad : Int) (sev : Sl) (evs : List (Event × Sl)) (es : List Ent), v = .tuple [I bad, sev.v].toArray ∧ (SliceAt es encEvent sev evs ∧ ∀ y ∈ evs, MsgAt es y.1.msg y.2) ∧ L' = es ++ L) := by
  obtain ⟨a, n, c⟩ := sb
  refine Tri.of Tryz.func30 rfl rfl Tryz.ntmps30 rfl rfl ?_
  (repeat' (first | refine nX ?_ | (refine nA ?_; intro _) | (refine nW ?_; first | (refine op_load_id ?_; refine op_val rfl (by exact val_load1 rfl rfl rfl (by exact kM) (litInt [-1, 4] hx rfl (by decide))) ?_) | (refine op_call_id ?_; refine op_call rfl (c_l6Open _ bs h hby) rfl ?_; rintro _ _ ⟨br, sb', bs', rfl, hb, rfl⟩) | (refine op_call_id ?_; refine op_call rfl (c_l72Play br sb' bs' (by exact kF) (hb.mono (by exact kS))) rfl ?_; rintro _ _ ⟨bad, ⟨a2, n2, c2⟩, evs, es, em, w, q, p, rfl, hrow, hms, hlen, hp, rfl⟩) | (refine op_call_id ?_; refine op_call rfl (c_pick br sb' bs' _ _ (by exact kF) (hb.mono (by exact kS)) (by omega)) rfl ?_; rintro _ _ ⟨x, rfl, hx, rfl⟩)) | refine nY ?_ | refine nR ?_ | refine WC_cond rfl (fun hc => ?_) (fun hc => ?_)))
  · refine ret_ret (by exact kR) ?_; exact ⟨(es ++ em) ++ L, by (simp only [List.append_assoc]); exact kP, _, ⟨a2, n2, c2⟩, evs, es ++ em, rfl, sum_at hrow hms, rfl⟩
  · have hlr : (List.range (71 - evs.length)).length = 71 - evs.length := List.length_range
    refine WC_loop (fun mz Ez Mz => ∃ (k : Nat) (ev1 : List (Event × Sl)) (a3 : Option Addr) (n3 c3 : Nat) (es3 : List Ent), k + mz = (List.range (71 - evs.length)).length ∧ Ez = [(5, I bad), (6, .slice a3 n3 c3)] ∧ Mz = es3 ++ (em ++ L) ∧ (Row encEvent 58 ⟨a3, n3, c3⟩ ev1 es3 ∧ ev1.length = evs.length + k ∧ (∀ y ∈ ev1, MsgAt em y.1.msg y.2))) (List.range (71 - evs.length)).length (by exact kQ) (by exact kL) ⟨0, evs, a2, n2, c2, es, by omega, rfl, rfl, by exact ⟨hrow, by omega, hms⟩⟩ ?_
    rintro mz Ez Mz ⟨k, ev1, a3, n3, c3, es3, hk, rfl, rfl, hin⟩
    rcases Nat.lt_or_ge k (List.range (71 - evs.length)).length with hlt | hge
    · obtain ⟨hr3, hl3, hm3⟩ := hin
      have hn := hr3.n
      dsimp only at hn
      subst hn
      (repeat' (first | refine nI ?_ | (refine nA ?_; intro _) | (refine nW ?_; first | (refine go_append ?_; refine op_appendRow (sl := ⟨_, _, _⟩) (sx := ⟨_, _, _⟩) rfl rfl rfl rfl rfl rfl rfl rfl rfl (hr3) (by exact kE) (SliceAt.one (x := ((⟨6, 0, 0, Msg.zero⟩, Sl.nil) : Event × Sl)) (by exact kM) rfl) (by exact kN) ?_; intro sl' es' hrow' hst')) | refine nY ?_ | refine nR ?_ | refine WC_cond rfl (fun hc => ?_) (fun hc => ?_)))
      obtain ⟨a9, n9, c9⟩ := sl'
      exact loopQ_next ⟨mz - 1, _, _, by omega, by exact kQ, by exact kL, k + 1, ev1 ++ [(⟨6, 0, 0, Msg.zero⟩, Sl.nil)], a9, n9, c9, es', by omega, rfl, rfl, by exact ⟨hrow', by rw [List.length_append, List.length_cons, List.length_nil]; omega, msgs_add (em2 := []) hm3 SliceAt.nil⟩⟩
    · obtain ⟨hr3, hl3, hm3⟩ := hin
      have hn := hr3.n
      dsimp only at hn
      subst hn
      (repeat' (first | refine nI ?_ | (refine nA ?_; intro _) | refine nY ?_ | refine nR ?_ | refine WC_cond rfl (fun hc => ?_) (fun hc => ?_)))
      refine ret_ret (by exact kR) ?_; exact ⟨(es3 ++ em) ++ L, by (simp only [List.append_assoc]); exact kP, _, ⟨a3, _, c3⟩, ev1, es3 ++ em, rfl, sum_at hr3 hm3, rfl⟩
  · refine ret_ret (by exact kR) ?_; exact ⟨(es ++ em) ++ L, by (simp only [List.append_assoc]); exact kP, _, ⟨a2, n2, c2⟩, evs, es ++ em, rfl, sum_at hrow hms, rfl⟩
end Go.Proofs.YtkdlkclanlkebaaGreat
/- From what holds of a list of blocks to what the statements say of a call. -/
set_option linter.unusedVariables false
set_option linter.unusedSimpArgs false
namespace Go.Proofs.YtkdlkclanlkebaaGreat
open Go Go.Proofs Go.Proofs.YtkdlkclanlkebaaGreat.VE

/-- All blocks of a memory. -/
def heapL (w : Go.World) : List Ent := (List.range w.heap.size).map (fun k => (k, w.heap.getD k (.cells #[] 0 (0, 0))))
theorem heapL_mem {w : Go.World} {k : Nat} {o : Obj} : (k, o) ∈ heapL w ↔ w.heap[k]? = some o := by
  unfold heapL
  rw [List.mem_map]
  constructor
  · rintro ⟨j, hj, he⟩
    have hj' := List.mem_range.1 hj
    obtain ⟨rfl, rfl⟩ := Prod.mk.inj he
    rw [Array.getD_eq_getD_getElem?, Array.getElem?_eq_getElem hj']; rfl
  · intro h
    obtain ⟨hlt, he⟩ := Array.getElem?_eq_some_iff.1 h
    refine ⟨k, List.mem_range.2 hlt, ?_⟩
    rw [Array.getD_eq_getD_getElem?, h]; rfl
theorem heapL_sat (w : Go.World) : Sat w (heapL w) w := by
  refine ⟨rfl, rfl, rfl, Nat.le_refl _, ?_, fun e he => heapL_mem.1 he⟩
  have h : (heapL w).map Prod.fst = List.range w.heap.size := by
    unfold heapL; rw [List.map_map]; exact List.map_id' _
  rw [h]; exact List.nodup_range
theorem below_of {w w' : Go.World} (h : Sat w (heapL w) w') : Go.RowKit.Below w.heap.size w w' := by
  refine ⟨h.os, h.tape, h.output, h.size, fun k hk => ?_⟩
  have h1 : w.heap[k]? = some w.heap[k] := Array.getElem?_eq_getElem hk
  rw [h1]
  exact h.has (k, w.heap[k]) (heapL_mem.2 h1)
theorem walk_of {P : Program} {f : FuncId} {args : List Value} {w : Go.World} (h : RO P f args (heapL w) (B true)) : Calls P f args.toArray w fun e w' => e = .returned (.bool true) ∧ Go.RowKit.Below w.heap.size w w' :=
  (h.calls w w (heapL_sat w)).mono fun _ _ ⟨_, _, he, hs, hv, hl⟩ => ⟨by rw [he, hv], below_of (hl ▸ hs)⟩
/-- Bytes that came in. -/
structure BytesIn (L : List Ent) (a : Option Addr) (n c : Nat) (bs : List Int) : Prop where
  top : n ≤ 9223372036854775807
  at_ : n ≤ 1048576 → SliceAt L encByte ⟨a, n, c⟩ bs
  byte : ∀ x ∈ bs, 0 ≤ x ∧ x ≤ 255
theorem bytes_at {w : Go.World} {a : Option Addr} {len cap : Nat} {zs : List Int} (h : (a = none ∧ len = 0 ∧ cap = 0 ∧ zs = []) ∨
    ∃ x, a = some x ∧ len ≤ cap ∧ cap ≤ maxLen ∧ zs.length = cap ∧ (∀ i, i < zs.length → w.cell? (x.add i) = some (.int .u8 (zs.getD i 0))) ∧ ∀ n ∈ zs, (Lit.int .u8 n).wf = true) :
    BytesIn (heapL w) a len cap (zs.take len) := by
  rcases h with ⟨rfl, rfl, rfl, rfl⟩ | ⟨⟨b, o, sp⟩, rfl, hl, hm, hz, hcell, hwz⟩
  · exact ⟨by omega, fun _ => SliceAt.nil, fun x hx => by simp at hx⟩
  · simp only [maxLen] at hm
    refine ⟨by omega, fun hlen => ?_, fun x hx => ?_⟩
    · have htl : (zs.take len).length = len := by rw [List.length_take]; omega
      refine ⟨htl.symm, by rw [htl]; exact hl, by rw [htl]; simp only [big]; omega, fun hp => ?_⟩
      rw [htl] at hp
      have h0 := hcell 0 (by omega)
      have hadd0 : Addr.add ⟨b, o, sp⟩ 0 = ⟨b, o, sp⟩ := rfl
      rw [hadd0] at h0
      have hsp : sp = none := by
        unfold Go.World.cell? at h0
        split at h0
        · cases sp with
          | none => rfl
          | some s => simp at h0
        · cases h0
      subst hsp
      have hadd : ∀ i, Addr.add ⟨b, o, none⟩ i = ⟨b, o + i, none⟩ := fun i => by
        unfold Addr.add; split
        · next hi => subst hi; rfl
        · rfl
      cases hb : w.heap[b]? with
      | none => unfold Go.World.cell? at h0; rw [hb] at h0; cases h0
      | some ob =>
        cases ob with
        | cells arr T fr =>
          refine ⟨b, o, arr.toList, T, fr, rfl, heapL_mem.2 (by rw [hb]), fun k x hk => ?_⟩
          have hk2 : k < len := by have := (List.getElem?_eq_some_iff.1 hk).1; omega
          have hx : x = zs.getD k 0 := by
            rw [List.getElem?_take_of_lt hk2] at hk
            rw [List.getD_eq_getElem?_getD, hk]; rfl
          have hc := hcell k (by omega)
          rw [hadd] at hc
          unfold Go.World.cell? at hc
          rw [hb] at hc
          replace hc : arr[o + k]? = some (.int .u8 (zs.getD k 0)) := by simpa using hc
          obtain ⟨hlt, he⟩ := Array.getElem?_eq_some_iff.1 hc
          have he1 : encByte.sz = 1 := rfl
          have he2 : encByte.cells x = [.int .u8 x] := rfl
          rw [he1, he2, Nat.mul_one]
          unfold takeC
          rw [if_pos (by simp only [Array.length_toList]; omega)]
          have hd : arr.toList.drop (o + k) = arr.toList[o + k]'(by simpa using hlt) :: arr.toList.drop (o + k + 1) := List.drop_eq_getElem_cons (by simpa using hlt)
          rw [hd, List.take_succ_cons, List.take_zero, hx, ← he]; rfl
        | _ => unfold Go.World.cell? at h0; rw [hb] at h0; cases h0
    · have := hwz x (List.mem_of_mem_take hx)
      simp only [Lit.wf, Bool.and_eq_true, decide_eq_true_eq] at this
      exact this
end Go.Proofs.YtkdlkclanlkebaaGreat
/- The laws: what all of them meet. -/
set_option linter.unusedVariables false
set_option linter.unusedSectionVars false
set_option linter.unusedSimpArgs false
namespace Go.Proofs.YtkdlkclanlkebaaGreat
open Go Go.Proofs Go.Proofs.YtkdlkclanlkebaaGreat.VE
attribute [local irreducible] Val Op1 WO WR WA WC seqQ blockQ loopQ retQ
theorem zeroAt (L : List Ent) : WldAt L World.zero WSl.nil [] [] [] :=
  ⟨SliceAt.nil, rfl, SliceAt.nil, fun p hp => absurd hp List.not_mem_nil, rfl, SliceAt.nil, fun p hp => absurd hp List.not_mem_nil, rfl, SliceAt.nil, fun p hp => absurd hp List.not_mem_nil⟩
theorem c_worldPlayW {L : List Ent} {bad : Int} {sev : Sl} {evs : List (Event × Sl)} {w : World} (hw : play (worldNew bad) (evs.map Prod.fst) = w) (hat : SliceAt L encEvent sev evs) (hm : ∀ p ∈ evs, MsgAt L p.1.msg p.2) (hb : within bad 0 3 = true) (h70 : evs.length ≤ 70) :
    Tri Tryz.prog 31 [I bad, sev.v] L (fun v L' => ∃ q ps ss ms ek ec ca es sa el la, v = .tuple [worldV w q, B true].toArray ∧ WldOwn w q ps ss ms ek ec ca es sa el la ∧ L' = wldE ek ec ca es sa el la ++ L) := by
  subst hw; exact c_worldPlay1 bad sev evs hat hm hb h70
theorem c_sWorldPlayW {L : List Ent} {bad : Int} {sev : Sl} {evs : List (Event × Sl)} {w : World} (hw : play (worldNew bad) (evs.map Prod.fst) = w) (hat : SliceAt L encEvent sev evs) (hm : ∀ p ∈ evs, MsgAt L p.1.msg p.2) (hb : within bad 0 3 = true) (h70 : evs.length ≤ 70) :
    Tri Tryz.prog 32 [I bad, sev.v] L (fun v L' => ∃ q ps ss ms ek ec ca es sa el la, v = .tuple [worldV w q, B true].toArray ∧ WldOwn w q ps ss ms ek ec ca es sa el la ∧ L' = wldE ek ec ca es sa el la ++ L) := by
  subst hw; exact c_sWorldPlay1 bad sev evs hat hm hb h70
theorem play_took : ∀ (es : List Event) {w : World} {n : Nat}, TookLe n w → TookLe (n + es.length) (play w es)
  | [], _, _, h => h
  | e :: r, w, n, h => by
    have := play_took r (took_step (e := e) h)
    rw [List.length_cons, show n + (r.length + 1) = n + 1 + r.length by omega]
    exact this
structure Played (bad : Int) (evs : List (Event × Sl)) (w : World) : Prop where
  inv : Inv w
  log : w.log.length ≤ evs.length
  bad : w.bad = bad
  took : TookLe evs.length w
theorem played {bad : Int} {evs : List (Event × Sl)} {w : World} (hb : within bad 0 3 = true) (hw : play (worldNew bad) (evs.map Prod.fst) = w) : Played bad evs w := by
  subst hw
  have h := play_log (evs.map Prod.fst) (worldNew bad)
  have hk0 : TookLe 0 (worldNew bad) := fun s hs => by simp [worldNew, servNew] at hs; rcases hs with rfl | rfl <;> simp
  have hk := play_took (evs.map Prod.fst) hk0
  rw [List.length_map, Nat.zero_add] at hk
  refine ⟨play_inv (new_inv (within_iff.1 hb)), ?_, h.2, hk⟩
  have h1 := h.1
  have h2 : (worldNew bad).log.length = 0 := rfl
  rw [h2, List.length_map] at h1
  omega
theorem not_go {b : Bool} {n : Nat} (h : ¬ (b = true ∧ n ≤ 70)) : b = false ∨ 70 < n := by
  cases b with
  | false => exact .inl rfl
  | true => exact .inr (by by_cases h70 : n ≤ 70; exact absurd ⟨rfl, h70⟩ h; omega)
/-- Where a world lies, part by part. -/
theorem parts_at {L : List Ent} {w : World} {kc : Sl} {ac av al : Option Addr} {nc nv nl cc cv cl : Nat} {ps : List (Client × CSl)} {ss : List (Serv × (Sl × Sl))} {ms : List (Msg × Sl)} (h : WldAt L w ⟨kc, ⟨ac, nc, cc⟩, ⟨av, nv, cv⟩, ⟨al, nl, cl⟩⟩ ps ss ms) :
    nc = ps.length ∧ nv = ss.length ∧ nl = ms.length := ⟨h.pr.1, h.sr.1, h.mr.1⟩
end Go.Proofs.YtkdlkclanlkebaaGreat
