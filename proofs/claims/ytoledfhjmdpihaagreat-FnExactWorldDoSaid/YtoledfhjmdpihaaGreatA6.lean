/- Worlds: who asks; what is brought. -/
import Derived.Test.YtoledfhjmdpihaaGreatA5
import Derived.Test.YtoledfhjmdpihaaGreatA4
import Derived.Test.YtoledfhjmdpihaaGreatA2
import Derived.Test.YtoledfhjmdpihaaGreatA1
import Derived.Test.YtoledfhjmdpihaaGreatA3
set_option linter.unusedVariables false
set_option linter.unusedSectionVars false
set_option linter.unusedSimpArgs false
namespace Go.Proofs.YtoledfhjmdpihaaGreat
open Go Go.Proofs Go.Proofs.YtoledfhjmdpihaaGreat.VE
attribute [local irreducible] Val Op1 WO WR WA WC seqQ blockQ loopQ retQ
noncomputable def o98x7L23 : Array Oper := cops (cl (cl (cr (cr (cr (cr (cr (cl (cl (cr (cr (codeOf Tryz.f98))))))))))))
noncomputable def o98x8L23 : Array Oper := cops (cl (cr (cr (cr (codeOf Tryz.f98)))))
noncomputable def r98x7L23 : Run := (.st 0 0 (.st 1 0 (.st 2 0 (.st 3 1 (.st 4 0 (.st 5 0 (.st 6 0 (.st 7 1 (.st 8 3 (.st 9 0 (.st 10 0 (.st 11 3 (.st 12 0 .done)))))))))))))
noncomputable def r98x8L23 : Run := (.st 0 0 (.st 1 0 (.st 2 0 (.st 3 1 (.st 4 0 (.st 5 0 (.st 6 0 (.st 7 1 (.st 8 3 (.st 9 0 (.st 10 0 (.st 11 3 (.st 12 0 .done)))))))))))))
set_option maxHeartbeats 4000000
theorem getD_some {X : Type} {xs : List X} {i : Nat} {x d : X} (h : xs[i]? = some x) : xs.getD i d = x := by simp [List.getD, h]
/-- Whether it is in the log then. -/
abbrev grew (w w' : World) : Bool := decide (w.log.length < w'.log.length)
theorem grew_same {w w' : World} (h : w'.log = w.log) : grew w w' = false := by simp [grew, h]
section
variable {L0 : List Ent} (bw : Nat) (w : World) (q : WSl) (ps : List (Client × CSl)) (ss : List (Serv × (Sl × Sl))) (ms : List (Msg × Sl)) (ek ec ca es sa el la : List Ent) (hw : WOk w) (hown : WldOwn w q ps ss ms ek ec ca es sa el la)
include hw hown
section
variable (e : Event) (se : Sl)
theorem c_asks0 (hu : userOk e.a = false ∨ e.a = w.bad) : Tri Tryz.prog 98 [.pointer (some ⟨bw, 0, none⟩), eventV e se] ((bw, cellsO (worldC w q) 43) :: (wldE ek ec ca es sa el la ++ L0)) (fun v L' => v = B (grew w (asks w e.kind e.a e.b)) ∧ WldR L0 bw (asks w e.kind e.a e.b) L') := by
  have he : asks w e.kind e.a e.b = w := by unfold asks; rw [if_pos hu]
  rw [he]
  refine Tri.of Tryz.func98 rfl rfl Tryz.ntmps98 rfl rfl ?_
  (repeat' (first | refine nX ?_ | (refine nA ?_; intro _) | (refine nW ?_; first | (refine op_call_id ?_; refine op_ro rfl rfl (by exact c_honest0 bw w q e.a (by exact kM) hu) ?_) | refine op_val rfl (by exact val_eq_ptr_nil rfl rfl) ?_) | (refine WR_id ?_; refine WR_pure rfl rfl rfl (by exact val_eq_ptr_nil rfl rfl) ?_) | refine nY ?_ | refine WA_alt ?_ ?_ | refine nR ?_ | refine WC_drawL (id := 7) (ops := o98x7L23) r98x7L23 (by kernel_rfl) rfl ?_ | refine WC_drawL (id := 8) (ops := o98x8L23) r98x8L23 (by kernel_rfl) rfl ?_ | refine WC_cond rfl (fun hc => ?_) (fun hc => ?_)))
  refine ret_ret (by exact kR) ?_; exact ⟨(bw, cellsO (worldC w q) 43) :: (wldE ek ec ca es sa el la ++ L0), by exact kP, by rw [grew_same rfl]; rfl, q, ps, ss, ms, ek, ec, ca, es, sa, el, la, hown, rfl⟩
variable (hu : userOk e.a = true) (hb : e.a ≠ w.bad)
include hu hb
theorem asks_open : ∃ cl, w.clients[(e.a - 1).toNat]? = some cl ∧ COk cl ∧ asks w e.kind e.a e.b = send { w with clients := w.clients.set (e.a - 1).toNat (ask cl e.kind e.b w.now).1 } (ask cl e.kind e.b w.now).2 := by
  have ha := within_iff.1 hu
  have hcl3 := hw.cl
  obtain ⟨cl, hcl⟩ : ∃ cl, w.clients[(e.a - 1).toNat]? = some cl := ⟨w.clients[(e.a - 1).toNat]'(by omega), List.getElem?_eq_getElem _⟩
  refine ⟨cl, hcl, (hw.cs _ _ hcl).1, ?_⟩
  unfold asks
  rw [if_neg (by rw [not_or]; exact ⟨by simp [hu], hb⟩)]
  have hco : clientOf w e.a = cl := getD_some hcl
  rw [hco]; rfl
theorem c_asks1 (hk : e.kind = 1) : Tri Tryz.prog 98 [.pointer (some ⟨bw, 0, none⟩), eventV e se] ((bw, cellsO (worldC w q) 43) :: (wldE ek ec ca es sa el la ++ L0)) (fun v L' => v = B (grew w (asks w e.kind e.a e.b)) ∧ WldR L0 bw (asks w e.kind e.a e.b) L') := by
  have ha := within_iff.1 hu
  obtain ⟨cl, hcl, hcok, he⟩ := asks_open w q ps ss ms ek ec ca es sa el la hw hown e hu hb
  have hask : ask cl e.kind e.b w.now = clientAs cl := by unfold ask; rw [if_pos hk]
  rw [he, hask]
  obtain ⟨g, cap, hq, hcall⟩ := cli_lift (xs := []) bw hown hcl (R := clientAs cl) (f := 172) fun L1 g c s e1 _ ho ho1 => c_cliAs g _ c _ cl s e1 ho hcok.num (by have := hcok.wl; omega) (by have := hcok.sl; omega) ho1
  rw [hw.cl] at hq
  obtain ⟨kc, cs, ss', ls⟩ := q
  dsimp only at hq; subst hq
  refine Tri.of Tryz.func98 rfl rfl Tryz.ntmps98 rfl rfl ?_
  (repeat' (first | (refine nW ?_; refine op_val rfl (by exact val_eql_t rfl rfl hk) ?_) | (refine WR_id ?_; refine WR_pure rfl rfl rfl (by exact val_eql_t rfl rfl hk) ?_) | refine nX ?_ | (refine nA ?_; intro _) | (refine nW ?_; first | (refine op_call_id ?_; refine op_ro rfl rfl (by exact c_honest1 bw w kc ss' ls g cap e.a (by exact kM) hu ha hb) ?_) | (refine op_call_id ?_; refine op_call rfl (hcall _ _ (front2 (by exact kF) (by exact kE))) rfl ?_; rintro _ _ ⟨m1, sm1, ok1, em1, q1, ps1, ss1, ms1, ek1, ec1, ca1, es1, sa1, el1, la1, rfl, hr1, ho1, hown1, rfl⟩) | (refine op_call_id ?_; refine op_call rfl (c_send bw _ q1 ps1 ss1 ms1 ek1 ec1 ca1 es1 sa1 el1 la1 (front2 (by exact kF) (by exact kE)) hown1 m1 sm1 ok1 hw.ll (fun _ => hr1.atL (by exact kS)) (fun _ => hr1.2)) rfl ?_; rintro _ _ ⟨rfl, hR⟩) | refine op_val rfl (by exact val_eq_ptr_nil rfl rfl) ?_) | (refine WR_id ?_; refine WR_pure rfl rfl rfl (by exact val_eq_ptr_nil rfl rfl) ?_) | refine nY ?_ | refine WA_alt ?_ ?_ | refine nR ?_ | refine WC_drawL (id := 7) (ops := o98x7L23) r98x7L23 (by kernel_rfl) rfl ?_ | refine WC_drawL (id := 8) (ops := o98x8L23) r98x8L23 (by kernel_rfl) rfl ?_ | refine WC_cond rfl (fun hc => ?_) (fun hc => ?_)))
  obtain ⟨M, h1, h2⟩ := WldR.sub (L0 := L0) hR (by exact kP)
  rw [ho1]
  refine ret_ret (by exact kR) ?_; exact ⟨M, h1, rfl, h2⟩
theorem c_asks2 (hk : e.kind = 2) : Tri Tryz.prog 98 [.pointer (some ⟨bw, 0, none⟩), eventV e se] ((bw, cellsO (worldC w q) 43) :: (wldE ek ec ca es sa el la ++ L0)) (fun v L' => v = B (grew w (asks w e.kind e.a e.b)) ∧ WldR L0 bw (asks w e.kind e.a e.b) L') := by
  have ha := within_iff.1 hu
  have hk1 : e.kind ≠ 1 := by omega
  obtain ⟨cl, hcl, hcok, he⟩ := asks_open w q ps ss ms ek ec ca es sa el la hw hown e hu hb
  have hask : ask cl e.kind e.b w.now = clientTgs cl e.b w.now := by unfold ask; rw [if_neg hk1, if_pos hk]
  rw [he, hask]
  obtain ⟨g, cap, hq, hcall⟩ := cli_lift (xs := [I e.b, I w.now]) bw hown hcl (R := clientTgs cl e.b w.now) (f := 173) fun L1 g c s e1 _ ho ho1 => c_cli_tgs g _ c _ cl s e1 e.b w.now ho hcok.num (by have := hcok.wl; omega) (by have := hcok.sl; omega) ho1
  rw [hw.cl] at hq
  obtain ⟨kc, cs, ss', ls⟩ := q
  dsimp only at hq; subst hq
  refine Tri.of Tryz.func98 rfl rfl Tryz.ntmps98 rfl rfl ?_
  (repeat' (first | (refine nW ?_; refine op_val rfl (by first | exact val_eql_t rfl rfl hk | exact val_eql_f rfl rfl hk1) ?_) | (refine WR_id ?_; refine WR_pure rfl rfl rfl (by first | exact val_eql_t rfl rfl hk | exact val_eql_f rfl rfl hk1) ?_) | refine nX ?_ | (refine nA ?_; intro _) | (refine nW ?_; first | (refine op_call_id ?_; refine op_ro rfl rfl (by exact c_honest1 bw w kc ss' ls g cap e.a (by exact kM) hu ha hb) ?_) | refine op_val rfl (by exact val_eq_ptr_nil rfl rfl) ?_) | (refine WR_id ?_; refine WR_pure rfl rfl rfl (by exact val_eq_ptr_nil rfl rfl) ?_) | refine nY ?_ | refine WA_alt ?_ ?_ | refine nR ?_ | refine WC_drawL (id := 8) (ops := o98x8L23) r98x8L23 (by kernel_rfl) rfl ?_ | refine WC_cond rfl (fun hc => ?_) (fun hc => ?_)))
  rename_i bx
  (repeat' (first | refine nX ?_ | (refine nA ?_; intro _) | (refine nW ?_; first | (refine op_call_id ?_; refine op_call rfl (hcall _ _ (front2 (by exact kF) (by exact kE))) rfl ?_; rintro _ _ ⟨m1, sm1, ok1, em1, q1, ps1, ss1, ms1, ek1, ec1, ca1, es1, sa1, el1, la1, rfl, hr1, ho1, hown1, rfl⟩) | (refine op_call_id ?_; refine op_call rfl (c_send bw _ q1 ps1 ss1 ms1 ek1 ec1 ca1 es1 sa1 el1 la1 (front2 (by exact kF) (by exact kE)) hown1 m1 sm1 ok1 hw.ll (fun _ => hr1.atL (by exact kS)) (fun _ => hr1.2)) rfl ?_; rintro _ _ ⟨rfl, hR⟩)) | refine nY ?_ | refine WA_alt ?_ ?_ | refine nR ?_ | refine WC_draw (id := 7) (ops := o98x7L23) ([(bx, cellsO (eventC e se) 49), (bw, cellsO (worldC w ⟨kc, ⟨some ⟨g, 0, none⟩, 3, cap⟩, ss', ls⟩) 43)]) r98x7L23 (by kernel_rfl) rfl ?_ | refine WC_drawL (id := 8) (ops := o98x8L23) r98x8L23 (by kernel_rfl) rfl ?_))
  obtain ⟨M, h1, h2⟩ := WldR.sub (L0 := L0) hR (by exact kP)
  rw [ho1]
  refine ret_ret (by exact kR) ?_; exact ⟨M, h1, rfl, h2⟩
theorem c_asks3 (hk1 : e.kind ≠ 1) (hk2 : e.kind ≠ 2) : Tri Tryz.prog 98 [.pointer (some ⟨bw, 0, none⟩), eventV e se] ((bw, cellsO (worldC w q) 43) :: (wldE ek ec ca es sa el la ++ L0)) (fun v L' => v = B (grew w (asks w e.kind e.a e.b)) ∧ WldR L0 bw (asks w e.kind e.a e.b) L') := by
  have ha := within_iff.1 hu
  obtain ⟨cl, hcl, hcok, he⟩ := asks_open w q ps ss ms ek ec ca es sa el la hw hown e hu hb
  have hask : ask cl e.kind e.b w.now = clientAp cl e.b w.now := by unfold ask; rw [if_neg hk1, if_neg hk2]
  rw [he, hask]
  obtain ⟨g, cap, hq, hcall⟩ := cli_lift (xs := [I e.b, I w.now]) bw hown hcl (R := clientAp cl e.b w.now) (f := 174) fun L1 g c s e1 _ ho ho1 => c_cli_ap g _ c _ cl s e1 e.b w.now ho hcok.num (by have := hcok.wl; omega) (by have := hcok.sl; omega) ho1
  rw [hw.cl] at hq
  obtain ⟨kc, cs, ss', ls⟩ := q
  dsimp only at hq; subst hq
  refine Tri.of Tryz.func98 rfl rfl Tryz.ntmps98 rfl rfl ?_
  (repeat' (first | (refine nW ?_; refine op_val rfl (by first | exact val_eql_f rfl rfl hk2 | exact val_eql_f rfl rfl hk1) ?_) | (refine WR_id ?_; refine WR_pure rfl rfl rfl (by first | exact val_eql_f rfl rfl hk2 | exact val_eql_f rfl rfl hk1) ?_) | refine nX ?_ | (refine nA ?_; intro _) | (refine nW ?_; first | (refine op_call_id ?_; refine op_ro rfl rfl (by exact c_honest1 bw w kc ss' ls g cap e.a (by exact kM) hu ha hb) ?_) | refine op_val rfl (by exact val_eq_ptr_nil rfl rfl) ?_) | (refine WR_id ?_; refine WR_pure rfl rfl rfl (by exact val_eq_ptr_nil rfl rfl) ?_) | refine nY ?_ | refine WA_alt ?_ ?_ | refine nR ?_ | refine WC_drawL (id := 7) (ops := o98x7L23) r98x7L23 (by kernel_rfl) rfl ?_ | refine WC_cond rfl (fun hc => ?_) (fun hc => ?_)))
  rename_i bx
  (repeat' (first | refine nX ?_ | (refine nA ?_; intro _) | (refine nW ?_; first | (refine op_call_id ?_; refine op_call rfl (hcall _ _ (front2 (by exact kF) (by exact kE))) rfl ?_; rintro _ _ ⟨m1, sm1, ok1, em1, q1, ps1, ss1, ms1, ek1, ec1, ca1, es1, sa1, el1, la1, rfl, hr1, ho1, hown1, rfl⟩) | (refine op_call_id ?_; refine op_call rfl (c_send bw _ q1 ps1 ss1 ms1 ek1 ec1 ca1 es1 sa1 el1 la1 (front2 (by exact kF) (by exact kE)) hown1 m1 sm1 ok1 hw.ll (fun _ => hr1.atL (by exact kS)) (fun _ => hr1.2)) rfl ?_; rintro _ _ ⟨rfl, hR⟩)) | refine nY ?_ | refine WA_alt ?_ ?_ | refine nR ?_ | refine WC_drawL (id := 7) (ops := o98x7L23) r98x7L23 (by kernel_rfl) rfl ?_ | refine WC_draw (id := 8) (ops := o98x8L23) ([(bx, cellsO (eventC e se) 49), (bw, cellsO (worldC w ⟨kc, ⟨some ⟨g, 0, none⟩, 3, cap⟩, ss', ls⟩) 43)]) r98x8L23 (by kernel_rfl) rfl ?_))
  obtain ⟨M, h1, h2⟩ := WldR.sub (L0 := L0) hR (by exact kP)
  rw [ho1]
  refine ret_ret (by exact kR) ?_; exact ⟨M, h1, rfl, h2⟩
end
theorem c_asks (e : Event) (se : Sl) : Tri Tryz.prog 98 [.pointer (some ⟨bw, 0, none⟩), eventV e se] ((bw, cellsO (worldC w q) 43) :: (wldE ek ec ca es sa el la ++ L0)) (fun v L' => v = B (grew w (asks w e.kind e.a e.b)) ∧ WldR L0 bw (asks w e.kind e.a e.b) L') := by
  by_cases hb : e.a = w.bad
  · exact c_asks0 bw w q ps ss ms ek ec ca es sa el la hw hown e se (.inr hb)
  cases hu : userOk e.a with
  | false => exact c_asks0 bw w q ps ss ms ek ec ca es sa el la hw hown e se (.inl hu)
  | true =>
    by_cases hk1 : e.kind = 1
    · exact c_asks1 bw w q ps ss ms ek ec ca es sa el la hw hown e se hu hb hk1
    by_cases hk2 : e.kind = 2
    · exact c_asks2 bw w q ps ss ms ek ec ca es sa el la hw hown e se hu hb hk2
    · exact c_asks3 bw w q ps ss ms ek ec ca es sa el la hw hown e se hu hb hk1 hk2
end
end Go.Proofs.YtoledfhjmdpihaaGreat
/- Worlds: what is brought. -/
set_option linter.unusedVariables false
set_option linter.unusedSectionVars false
set_option linter.unusedSimpArgs false
namespace Go.Proofs.YtoledfhjmdpihaaGreat
open Go Go.Proofs Go.Proofs.YtoledfhjmdpihaaGreat.VE
attribute [local irreducible] Val Op1 WO WR WA WC seqQ blockQ loopQ retQ
noncomputable def o99x11L24 : Array Oper := cops (cl (cl (cr (cr (cr (cl (cr (cr (cl (cr (cr (codeOf Tryz.f99))))))))))))
noncomputable def o99x13L24 : Array Oper := cops (cl (cl (cr (cr (cr (cr (cr (cl (cr (cr (cl (cr (cr (codeOf Tryz.f99))))))))))))))
noncomputable def o99x9L24 : Array Oper := cops (cl (cl (cr (cl (cr (cr (cl (cr (cr (codeOf Tryz.f99))))))))))
noncomputable def r99x11L24 : Run := (.st 0 0 (.st 1 0 (.st 2 0 (.st 3 0 (.st 4 1 (.st 5 0 (.st 6 0 (.st 7 0 (.st 8 1 (.st 9 3 (.st 10 0 (.st 11 0 (.st 12 3 (.st 13 0 .done))))))))))))))
noncomputable def r99x13L24 : Run := (.st 0 0 (.st 1 0 (.st 2 0 (.st 3 0 (.st 4 1 (.st 5 0 (.st 6 1 (.st 7 0 (.st 8 0 (.st 9 1 (.st 10 0 (.st 11 0 (.st 12 0 (.st 13 1 (.st 14 3 (.st 15 0 (.st 16 0 (.st 17 3 (.st 18 0 .done)))))))))))))))))))
noncomputable def r99x9L24 : Run := (.st 0 0 (.st 1 0 (.st 2 0 (.st 3 0 (.st 4 1 (.st 5 0 (.st 6 0 (.st 7 0 (.st 8 1 (.st 9 3 (.st 10 0 (.st 11 0 (.st 12 3 (.st 13 0 .done))))))))))))))
set_option maxHeartbeats 4000000
section
variable {L0 : List Ent} (bw : Nat) (w : World) (q : WSl) (ps : List (Client × CSl)) (ss : List (Serv × (Sl × Sl))) (ms : List (Msg × Sl)) (ek ec ca es sa el la : List Ent) (hw : WOk w) (hown : WldOwn w q ps ss ms ek ec ca es sa el la) (at_ : Int)
include hw hown
theorem c_bring0 (ha : ¬ (0 ≤ at_ ∧ at_ < w.log.length)) : Tri Tryz.prog 99 [.pointer (some ⟨bw, 0, none⟩), I at_] ((bw, cellsO (worldC w q) 43) :: (wldE ek ec ca es sa el la ++ L0)) (fun v L' => v = B (grew w (bring w at_)) ∧ WldR L0 bw (bring w at_) L') := by
  have he : bring w at_ = w := by unfold bring; rw [if_neg ha]
  rw [he]
  have hl := ms_len hown
  have hll := hw.ll
  obtain ⟨kc, cs, ss', ⟨a, n, cap⟩⟩ := q
  have hn := hown.mr.n
  dsimp only at hn
  rw [hl] at hn
  subst hn
  have hwi : within at_ 0 ((w.log.length : Int) - 1) = false := within_false.2 (by omega)
  refine Tri.of Tryz.func99 rfl rfl Tryz.ntmps99 rfl rfl ?_
  (repeat' (first | refine nX ?_ | (refine nA ?_; intro _) | (refine nW ?_; first | (refine op_call_id ?_; refine op_ro rfl rfl (by exact (c_within _ _ _).eq (congrArg B hwi)) ?_)) | refine nY ?_ | refine WA_alt ?_ ?_ | refine nR ?_ | refine WC_drawL (id := 9) (ops := o99x9L24) r99x9L24 (by kernel_rfl) rfl ?_ | refine WC_drawL (id := 11) (ops := o99x11L24) r99x11L24 (by kernel_rfl) rfl ?_ | refine WC_drawL (id := 13) (ops := o99x13L24) r99x13L24 (by kernel_rfl) rfl ?_ | refine WC_cond rfl (fun hc => ?_) (fun hc => ?_)))
  refine ret_ret (by exact kR) ?_; exact ⟨(bw, cellsO (worldC w ⟨kc, cs, ss', ⟨a, w.log.length, cap⟩⟩) 43) :: (wldE ek ec ca es sa el la ++ L0), by exact kP, by rw [grew_same rfl]; rfl, _, ps, ss, ms, ek, ec, ca, es, sa, el, la, hown, rfl⟩
variable (m : Msg) (ha : 0 ≤ at_ ∧ at_ < w.log.length) (hm : w.log[at_.toNat]? = some m)
include ha hm
theorem bring_msg : bring w at_ = bringMsg w m := by
  unfold bring; rw [if_pos ha]
  have h : w.log.getD at_.toNat Msg.zero = m := getD_some hm
  rw [h]
theorem c_bring1 (hk : m.kind = 1) : Tri Tryz.prog 99 [.pointer (some ⟨bw, 0, none⟩), I at_] ((bw, cellsO (worldC w q) 43) :: (wldE ek ec ca es sa el la ++ L0)) (fun v L' => v = B (grew w (bring w at_)) ∧ WldR L0 bw (bring w at_) L') := by
  have he : bring w at_ = send { w with kdc := (kdcAs w.kdc m w.now).1 } (kdcAs w.kdc m w.now).2 := by
    rw [bring_msg w q ps ss ms ek ec ca es sa el la hw hown at_ m ha hm]; unfold bringMsg; simp [hk]
  rw [he]
  have hl := ms_len hown
  have hll := hw.ll
  obtain ⟨sm, hms, hsm⟩ := hown.msg hm
  obtain ⟨kc, cs, ss', ⟨a, n, cap⟩⟩ := q
  have hn := hown.mr.n
  dsimp only at hn
  rw [hl] at hn
  subst hn
  obtain ⟨b', o', cc, T', fr, ha', hmem, hrow⟩ := hown.mr.at.2.2.2 (by omega)
  replace ha' : a = _ := ha'
  subst ha'
  have hrow' := hrow at_.toNat (m, sm) hms
  have hwi : within at_ 0 ((w.log.length : Int) - 1) = true := within_iff.2 (by omega)
  have hel : (b', Obj.cells cc.toArray T' fr) ∈ wldE ek ec ca es sa el la ++ L0 := List.mem_append_left _ (by exact kM)
  have hcall : ∀ L L0 : List Ent, L.Perm ((bw, cellsO (worldC w ⟨kc, cs, ss', ⟨some ⟨b', o', none⟩, w.log.length, cap⟩⟩) 43) :: (wldE ek ec ca es sa el la ++ L0)) → Tri Tryz.prog 175 [.pointer (some ⟨bw, 1, none⟩), msgV m sm, I w.now] L (WAns L0 bw { w with kdc := (kdcAs w.kdc m w.now).1 } (kdcAs w.kdc m w.now).2) :=
    fun L L0 hL => kdc_lift (xs := [msgV m sm, I w.now]) bw hown (R := kdcAs w.kdc m w.now) (fun L1 c hsub hc => (c_kdcAs bw 1 c _ kc w.kdc m sm w.now ek hc hw.kdc.next hw.now hown.kc (hsm.mono hsub)).mono fun _ _ h => h) hL
  refine Tri.of Tryz.func99 rfl rfl Tryz.ntmps99 rfl rfl ?_
  (repeat' (first | (refine nW ?_; refine op_val rfl (by first | exact val_eql_t rfl rfl hk | exact val_eql_f rfl rfl (by first | omega | (dsimp only; omega))) ?_) | (refine WR_id ?_; refine WR_pure rfl rfl rfl (by first | exact val_eql_t rfl rfl hk | exact val_eql_f rfl rfl (by first | omega | (dsimp only; omega))) ?_) | refine nX ?_ | (refine nA ?_; intro _) | (refine nW ?_; first | (refine op_call_id ?_; refine op_ro rfl rfl (by exact (c_within _ _ _).eq (congrArg B hwi)) ?_)) | refine nY ?_ | refine WA_alt ?_ ?_ | refine nR ?_ | refine WC_drawL (id := 11) (ops := o99x11L24) r99x11L24 (by kernel_rfl) rfl ?_ | refine WC_drawL (id := 13) (ops := o99x13L24) r99x13L24 (by kernel_rfl) rfl ?_ | refine WC_cond rfl (fun hc => ?_) (fun hc => ?_)))
  rename_i bx
  (repeat' (first | refine nX ?_ | (refine nA ?_; intro _) | (refine nW ?_; first | (refine op_call_id ?_; refine op_call rfl (hcall _ _ (front2 (by exact kF) (by exact kE))) rfl ?_; rintro _ _ ⟨m1, sm1, ok1, em1, q1, ps1, ss1, ms1, ek1, ec1, ca1, es1, sa1, el1, la1, rfl, hr1, ho1, hown1, rfl⟩) | (refine op_call_id ?_; refine op_call rfl (c_send bw _ q1 ps1 ss1 ms1 ek1 ec1 ca1 es1 sa1 el1 la1 (front2 (by exact kF) (by exact kE)) hown1 m1 sm1 ok1 hw.ll (fun _ => hr1.atL (by exact kS)) (fun _ => hr1.2)) rfl ?_; rintro _ _ ⟨rfl, hR⟩)) | refine nY ?_ | refine WA_alt ?_ ?_ | refine nR ?_ | refine WC_draw (id := 9) (ops := o99x9L24) ([(bx, cellsO (msgC m sm) 47), (bw, cellsO (worldC w ⟨kc, cs, ss', ⟨some ⟨b', o', none⟩, w.log.length, cap⟩⟩) 43)]) r99x9L24 (by kernel_rfl) rfl ?_ | refine WC_drawL (id := 11) (ops := o99x11L24) r99x11L24 (by kernel_rfl) rfl ?_ | refine WC_drawL (id := 13) (ops := o99x13L24) r99x13L24 (by kernel_rfl) rfl ?_))
  obtain ⟨M, h1, h2⟩ := WldR.sub (L0 := L0) hR (by exact kP)
  rw [ho1]
  refine ret_ret (by exact kR) ?_; exact ⟨M, h1, rfl, h2⟩
theorem c_bring3 (hk : m.kind = 3) : Tri Tryz.prog 99 [.pointer (some ⟨bw, 0, none⟩), I at_] ((bw, cellsO (worldC w q) 43) :: (wldE ek ec ca es sa el la ++ L0)) (fun v L' => v = B (grew w (bring w at_)) ∧ WldR L0 bw (bring w at_) L') := by
  have he : bring w at_ = send { w with kdc := (kdcTgs w.kdc m w.now).1 } (kdcTgs w.kdc m w.now).2 := by
    rw [bring_msg w q ps ss ms ek ec ca es sa el la hw hown at_ m ha hm]; unfold bringMsg; simp [hk]
  rw [he]
  have hl := ms_len hown
  have hll := hw.ll
  obtain ⟨sm, hms, hsm⟩ := hown.msg hm
  obtain ⟨kc, cs, ss', ⟨a, n, cap⟩⟩ := q
  have hn := hown.mr.n
  dsimp only at hn
  rw [hl] at hn
  subst hn
  obtain ⟨b', o', cc, T', fr, ha', hmem, hrow⟩ := hown.mr.at.2.2.2 (by omega)
  replace ha' : a = _ := ha'
  subst ha'
  have hrow' := hrow at_.toNat (m, sm) hms
  have hwi : within at_ 0 ((w.log.length : Int) - 1) = true := within_iff.2 (by omega)
  have hel : (b', Obj.cells cc.toArray T' fr) ∈ wldE ek ec ca es sa el la ++ L0 := List.mem_append_left _ (by exact kM)
  have hcall : ∀ L L0 : List Ent, L.Perm ((bw, cellsO (worldC w ⟨kc, cs, ss', ⟨some ⟨b', o', none⟩, w.log.length, cap⟩⟩) 43) :: (wldE ek ec ca es sa el la ++ L0)) → Tri Tryz.prog 176 [.pointer (some ⟨bw, 1, none⟩), msgV m sm, I w.now] L (WAns L0 bw { w with kdc := (kdcTgs w.kdc m w.now).1 } (kdcTgs w.kdc m w.now).2) :=
    fun L L0 hL => kdc_lift (xs := [msgV m sm, I w.now]) bw hown (R := kdcTgs w.kdc m w.now) (fun L1 c hsub hc => c_kdcTgs bw 1 c _ kc w.kdc m sm w.now ek hc hw.kdc.next hw.now hw.kdc.cache.len hown.kc (hsm.mono hsub)) hL
  refine Tri.of Tryz.func99 rfl rfl Tryz.ntmps99 rfl rfl ?_
  (repeat' (first | (refine nW ?_; refine op_val rfl (by first | exact val_eql_t rfl rfl hk | exact val_eql_f rfl rfl (by first | omega | (dsimp only; omega))) ?_) | (refine WR_id ?_; refine WR_pure rfl rfl rfl (by first | exact val_eql_t rfl rfl hk | exact val_eql_f rfl rfl (by first | omega | (dsimp only; omega))) ?_) | refine nX ?_ | (refine nA ?_; intro _) | (refine nW ?_; first | (refine op_call_id ?_; refine op_ro rfl rfl (by exact (c_within _ _ _).eq (congrArg B hwi)) ?_)) | refine nY ?_ | refine WA_alt ?_ ?_ | refine nR ?_ | refine WC_drawL (id := 9) (ops := o99x9L24) r99x9L24 (by kernel_rfl) rfl ?_ | refine WC_drawL (id := 13) (ops := o99x13L24) r99x13L24 (by kernel_rfl) rfl ?_ | refine WC_cond rfl (fun hc => ?_) (fun hc => ?_)))
  rename_i bx
  (repeat' (first | refine nX ?_ | (refine nA ?_; intro _) | (refine nW ?_; first | (refine op_call_id ?_; refine op_call rfl (hcall _ _ (front2 (by exact kF) (by exact kE))) rfl ?_; rintro _ _ ⟨m1, sm1, ok1, em1, q1, ps1, ss1, ms1, ek1, ec1, ca1, es1, sa1, el1, la1, rfl, hr1, ho1, hown1, rfl⟩) | (refine op_call_id ?_; refine op_call rfl (c_send bw _ q1 ps1 ss1 ms1 ek1 ec1 ca1 es1 sa1 el1 la1 (front2 (by exact kF) (by exact kE)) hown1 m1 sm1 ok1 hw.ll (fun _ => hr1.atL (by exact kS)) (fun _ => hr1.2)) rfl ?_; rintro _ _ ⟨rfl, hR⟩)) | refine nY ?_ | refine WA_alt ?_ ?_ | refine nR ?_ | refine WC_drawL (id := 9) (ops := o99x9L24) r99x9L24 (by kernel_rfl) rfl ?_ | refine WC_draw (id := 11) (ops := o99x11L24) ([(bx, cellsO (msgC m sm) 47), (bw, cellsO (worldC w ⟨kc, cs, ss', ⟨some ⟨b', o', none⟩, w.log.length, cap⟩⟩) 43)]) r99x11L24 (by kernel_rfl) rfl ?_ | refine WC_drawL (id := 13) (ops := o99x13L24) r99x13L24 (by kernel_rfl) rfl ?_))
  obtain ⟨M, h1, h2⟩ := WldR.sub (L0 := L0) hR (by exact kP)
  rw [ho1]
  refine ret_ret (by exact kR) ?_; exact ⟨M, h1, rfl, h2⟩
theorem c_bring5 (hk : m.kind = 5) (hte : ∀ s ∈ w.servs, s.took.length + 1 ≤ lim) : Tri Tryz.prog 99 [.pointer (some ⟨bw, 0, none⟩), I at_] ((bw, cellsO (worldC w q) 43) :: (wldE ek ec ca es sa el la ++ L0)) (fun v L' => v = B (grew w (bring w at_)) ∧ WldR L0 bw (bring w at_) L') := by
  have hsh := msgOk_shape (hw.ms m (List.mem_of_getElem? hm))
  have hsv : 4 ≤ m.serv ∧ m.serv ≤ 5 := by omega
  have hsl := hw.sl
  obtain ⟨sv, hsvi⟩ : ∃ sv, w.servs[(m.serv - 4).toNat]? = some sv := ⟨w.servs[(m.serv - 4).toNat]'(by omega), List.getElem?_eq_getElem _⟩
  have hso : servOf w m.serv = sv := getD_some hsvi
  have he : bring w at_ = send { w with servs := w.servs.set (m.serv - 4).toNat (servHear sv m w.now).1 } (servHear sv m w.now).2 := by
    rw [bring_msg w q ps ss ms ek ec ca es sa el la hw hown at_ m ha hm]; unfold bringMsg; simp [hk, hso, setServ]
  rw [he]
  have hl := ms_len hown
  have hll := hw.ll
  obtain ⟨sm, hms, hsm⟩ := hown.msg hm
  have hsok := (hw.ss _ _ hsvi).1
  obtain ⟨g, gcap, hq, hcall⟩ := srv_lift (xs := [msgV m sm, I w.now]) bw hown hsvi (R := servHear sv m w.now) (f := 177) fun L1 g c cs ts e1 hsub ho ho1 => c_servHear g _ c _ sv cs ts m sm w.now e1 ho hw.now hsok.cache.len (hte sv (List.mem_of_getElem? hsvi)) ho1 (hsm.mono hsub)
  rw [hw.sl] at hq
  obtain ⟨kc, cs, ss', ⟨a, n, cap⟩⟩ := q
  dsimp only at hq; subst hq
  have hn := hown.mr.n
  dsimp only at hn
  rw [hl] at hn
  subst hn
  obtain ⟨b', o', cc, T', fr, ha', hmem, hrow⟩ := hown.mr.at.2.2.2 (by omega)
  replace ha' : a = _ := ha'
  subst ha'
  have hrow' := hrow at_.toNat (m, sm) hms
  have hwi : within at_ 0 ((w.log.length : Int) - 1) = true := within_iff.2 (by omega)
  have hel : (b', Obj.cells cc.toArray T' fr) ∈ wldE ek ec ca es sa el la ++ L0 := List.mem_append_left _ (by exact kM)
  refine Tri.of Tryz.func99 rfl rfl Tryz.ntmps99 rfl rfl ?_
  (repeat' (first | (refine nW ?_; refine op_val rfl (by first | exact val_eql_t rfl rfl hk | exact val_eql_f rfl rfl (by first | omega | (dsimp only; omega))) ?_) | (refine WR_id ?_; refine WR_pure rfl rfl rfl (by first | exact val_eql_t rfl rfl hk | exact val_eql_f rfl rfl (by first | omega | (dsimp only; omega))) ?_) | refine nX ?_ | (refine nA ?_; intro _) | (refine nW ?_; first | (refine op_call_id ?_; refine op_ro rfl rfl (by exact (c_within _ _ _).eq (congrArg B hwi)) ?_)) | refine nY ?_ | refine WA_alt ?_ ?_ | refine nR ?_ | refine WC_drawL (id := 9) (ops := o99x9L24) r99x9L24 (by kernel_rfl) rfl ?_ | refine WC_drawL (id := 11) (ops := o99x11L24) r99x11L24 (by kernel_rfl) rfl ?_ | refine WC_cond rfl (fun hc => ?_) (fun hc => ?_)))
  rename_i bx
  (repeat' (first | refine nX ?_ | (refine nA ?_; intro _) | (refine nW ?_; first | (refine op_call_id ?_; refine op_call rfl (hcall _ _ (front2 (by exact kF) (by exact kE))) rfl ?_; rintro _ _ ⟨m1, sm1, ok1, em1, q1, ps1, ss1, ms1, ek1, ec1, ca1, es1, sa1, el1, la1, rfl, hr1, ho1, hown1, rfl⟩) | (refine op_call_id ?_; refine op_call rfl (c_send bw _ q1 ps1 ss1 ms1 ek1 ec1 ca1 es1 sa1 el1 la1 (front2 (by exact kF) (by exact kE)) hown1 m1 sm1 ok1 hw.ll (fun _ => hr1.atL (by exact kS)) (fun _ => hr1.2)) rfl ?_; rintro _ _ ⟨rfl, hR⟩)) | refine nY ?_ | refine WA_alt ?_ ?_ | refine nR ?_ | refine WC_drawL (id := 9) (ops := o99x9L24) r99x9L24 (by kernel_rfl) rfl ?_ | refine WC_drawL (id := 11) (ops := o99x11L24) r99x11L24 (by kernel_rfl) rfl ?_ | refine WC_draw (id := 13) (ops := o99x13L24) ([(bx, cellsO (msgC m sm) 47), (bw, cellsO (worldC w ⟨kc, cs, ⟨some ⟨g, 0, none⟩, 2, gcap⟩, ⟨some ⟨b', o', none⟩, w.log.length, cap⟩⟩) 43)]) r99x13L24 (by kernel_rfl) rfl ?_))
  obtain ⟨M, h1, h2⟩ := WldR.sub (L0 := L0) hR (by exact kP)
  rw [ho1]
  refine ret_ret (by exact kR) ?_; exact ⟨M, h1, rfl, h2⟩
theorem c_bring_b (hk : m.kind = 2 ∨ m.kind = 4 ∨ m.kind = 6) (hb : m.client = w.bad) : Tri Tryz.prog 99 [.pointer (some ⟨bw, 0, none⟩), I at_] ((bw, cellsO (worldC w q) 43) :: (wldE ek ec ca es sa el la ++ L0)) (fun v L' => v = B (grew w (bring w at_)) ∧ WldR L0 bw (bring w at_) L') := by
  have k1 : ¬ m.kind = 1 := by omega
  have k3 : ¬ m.kind = 3 := by omega
  have k5 : ¬ m.kind = 5 := by omega
  have he : bring w at_ = w := by
    rw [bring_msg w q ps ss ms ek ec ca es sa el la hw hown at_ m ha hm]; unfold bringMsg; rw [if_neg k1, if_neg k3, if_neg k5, if_pos hb]
  rw [he]
  have hl := ms_len hown
  have hll := hw.ll
  obtain ⟨sm, hms, hsm⟩ := hown.msg hm
  obtain ⟨kc, cs, ss', ⟨a, n, cap⟩⟩ := q
  have hn := hown.mr.n
  dsimp only at hn
  rw [hl] at hn
  subst hn
  obtain ⟨b', o', cc, T', fr, ha', hmem, hrow⟩ := hown.mr.at.2.2.2 (by omega)
  replace ha' : a = _ := ha'
  subst ha'
  have hrow' := hrow at_.toNat (m, sm) hms
  have hwi : within at_ 0 ((w.log.length : Int) - 1) = true := within_iff.2 (by omega)
  have hel : (b', Obj.cells cc.toArray T' fr) ∈ wldE ek ec ca es sa el la ++ L0 := List.mem_append_left _ (by exact kM)
  refine Tri.of Tryz.func99 rfl rfl Tryz.ntmps99 rfl rfl ?_
  (repeat' (first | (refine nW ?_; refine op_val rfl (by exact val_eql_f rfl rfl (by assumption)) ?_) | (refine WR_id ?_; refine WR_pure rfl rfl rfl (by exact val_eql_f rfl rfl (by assumption)) ?_) | refine nX ?_ | (refine nA ?_; intro _) | (refine nW ?_; first | (refine op_call_id ?_; refine op_ro rfl rfl (by first | exact (c_within _ _ _).eq (congrArg B hwi) | exact c_honest0 bw w _ m.client (by exact kM) (.inr hb)) ?_) | refine op_val rfl (by exact val_ne_ptr_nil rfl rfl) ?_) | (refine WR_id ?_; refine WR_pure rfl rfl rfl (by exact val_ne_ptr_nil rfl rfl) ?_) | refine nY ?_ | refine WA_alt ?_ ?_ | refine nR ?_ | refine WC_drawL (id := 9) (ops := o99x9L24) r99x9L24 (by kernel_rfl) rfl ?_ | refine WC_drawL (id := 11) (ops := o99x11L24) r99x11L24 (by kernel_rfl) rfl ?_ | refine WC_drawL (id := 13) (ops := o99x13L24) r99x13L24 (by kernel_rfl) rfl ?_ | refine WC_cond rfl (fun hc => ?_) (fun hc => ?_)))
  refine ret_ret (by exact kR) ?_; exact ⟨(bw, cellsO (worldC w ⟨kc, cs, ss', ⟨some ⟨b', o', none⟩, w.log.length, cap⟩⟩) 43) :: (wldE ek ec ca es sa el la ++ L0), by exact kP, by rw [grew_same rfl]; rfl, _, ps, ss, ms, ek, ec, ca, es, sa, el, la, hown, rfl⟩
theorem c_bring_c (hk : m.kind = 2 ∨ m.kind = 4 ∨ m.kind = 6) (hb : m.client ≠ w.bad) : Tri Tryz.prog 99 [.pointer (some ⟨bw, 0, none⟩), I at_] ((bw, cellsO (worldC w q) 43) :: (wldE ek ec ca es sa el la ++ L0)) (fun v L' => v = B (grew w (bring w at_)) ∧ WldR L0 bw (bring w at_) L') := by
  have k1 : ¬ m.kind = 1 := by omega
  have k3 : ¬ m.kind = 3 := by omega
  have k5 : ¬ m.kind = 5 := by omega
  have hsh := msgOk_shape (hw.ms m (List.mem_of_getElem? hm))
  have hcr : 1 ≤ m.client ∧ m.client ≤ 3 := by omega
  have hu : userOk m.client = true := within_iff.2 hcr
  have hcl3 := hw.cl
  obtain ⟨cl, hcl⟩ : ∃ cl, w.clients[(m.client - 1).toNat]? = some cl := ⟨w.clients[(m.client - 1).toNat]'(by omega), List.getElem?_eq_getElem _⟩
  have hco : clientOf w m.client = cl := getD_some hcl
  have hcok := (hw.cs _ _ hcl).1
  have he : bring w at_ = { w with clients := w.clients.set (m.client - 1).toNat (clientHear cl m) } := by
    rw [bring_msg w q ps ss ms ek ec ca es sa el la hw hown at_ m ha hm]; unfold bringMsg; rw [if_neg k1, if_neg k3, if_neg k5, if_neg hb, hco]; rfl
  rw [he]
  have hl := ms_len hown
  have hll := hw.ll
  obtain ⟨sm, hms, hsm⟩ := hown.msg hm
  obtain ⟨g, gcap, hq, hcall⟩ := cli_liftH (xs := [msgV m sm]) bw hown hcl (R := clientHear cl m) (f := 178) fun L1 g c s e1 hsub ho ho1 => c_hear g _ c _ cl s e1 m sm ho (by have := hcok.wl; omega) (by have := hcok.cl; omega) (by have := hcok.ml; have := hcok.sl; omega) ho1 (hsm.mono hsub)
  rw [hw.cl] at hq
  obtain ⟨kc, cs, ss', ⟨a, n, cap⟩⟩ := q
  dsimp only at hq; subst hq
  have hn := hown.mr.n
  dsimp only at hn
  rw [hl] at hn
  subst hn
  obtain ⟨b', o', cc, T', fr, ha', hmem, hrow⟩ := hown.mr.at.2.2.2 (by omega)
  replace ha' : a = _ := ha'
  subst ha'
  have hrow' := hrow at_.toNat (m, sm) hms
  have hwi : within at_ 0 ((w.log.length : Int) - 1) = true := within_iff.2 (by omega)
  have hel : (b', Obj.cells cc.toArray T' fr) ∈ wldE ek ec ca es sa el la ++ L0 := List.mem_append_left _ (by exact kM)
  refine Tri.of Tryz.func99 rfl rfl Tryz.ntmps99 rfl rfl ?_
  (repeat' (first | (refine nW ?_; refine op_val rfl (by exact val_eql_f rfl rfl (by assumption)) ?_) | (refine WR_id ?_; refine WR_pure rfl rfl rfl (by exact val_eql_f rfl rfl (by assumption)) ?_) | refine nX ?_ | (refine nA ?_; intro _) | (refine nW ?_; first | (refine op_call_id ?_; refine op_ro rfl rfl (by first | exact (c_within _ _ _).eq (congrArg B hwi) | exact c_honest1 bw w kc ss' _ g gcap m.client (by exact kM) hu hcr hb) ?_) | (refine op_call_id ?_; refine op_call rfl (hcall _ _ (front2 (by exact kF) (by exact kE))) rfl ?_; rintro _ _ ⟨rfl, hR⟩) | refine op_val rfl (by exact val_ne_ptr_nil rfl rfl) ?_) | (refine WR_id ?_; refine WR_pure rfl rfl rfl (by exact val_ne_ptr_nil rfl rfl) ?_) | refine nY ?_ | refine WA_alt ?_ ?_ | refine nR ?_ | refine WC_drawL (id := 9) (ops := o99x9L24) r99x9L24 (by kernel_rfl) rfl ?_ | refine WC_drawL (id := 11) (ops := o99x11L24) r99x11L24 (by kernel_rfl) rfl ?_ | refine WC_drawL (id := 13) (ops := o99x13L24) r99x13L24 (by kernel_rfl) rfl ?_ | refine WC_cond rfl (fun hc => ?_) (fun hc => ?_)))
  obtain ⟨M, h1, h2⟩ := WldR.sub (L0 := L0) hR (by exact kP)
  refine ret_ret (by exact kR) ?_; exact ⟨M, h1, by rw [grew_same rfl]; rfl, h2⟩
theorem bring_kinds : m.kind = 1 ∨ m.kind = 3 ∨ m.kind = 5 ∨ m.kind = 2 ∨ m.kind = 4 ∨ m.kind = 6 := by
  have hsh := msgOk_shape (hw.ms m (List.mem_of_getElem? hm))
  omega
omit m ha hm in
theorem c_bring (hte : ∀ s ∈ w.servs, s.took.length + 1 ≤ lim) : Tri Tryz.prog 99 [.pointer (some ⟨bw, 0, none⟩), I at_] ((bw, cellsO (worldC w q) 43) :: (wldE ek ec ca es sa el la ++ L0)) (fun v L' => v = B (grew w (bring w at_)) ∧ WldR L0 bw (bring w at_) L') := by
  by_cases ha : 0 ≤ at_ ∧ at_ < w.log.length
  · obtain ⟨m, hm⟩ : ∃ m, w.log[at_.toNat]? = some m := ⟨w.log[at_.toNat]'(by omega), List.getElem?_eq_getElem _⟩
    rcases bring_kinds w q ps ss ms ek ec ca es sa el la hw hown at_ m ha hm with hk | hk | hk | hk
    · exact c_bring1 bw w q ps ss ms ek ec ca es sa el la hw hown at_ m ha hm hk
    · exact c_bring3 bw w q ps ss ms ek ec ca es sa el la hw hown at_ m ha hm hk
    · exact c_bring5 bw w q ps ss ms ek ec ca es sa el la hw hown at_ m ha hm hk hte
    · by_cases hb : m.client = w.bad
      · exact c_bring_b bw w q ps ss ms ek ec ca es sa el la hw hown at_ m ha hm hk hb
      · exact c_bring_c bw w q ps ss ms ek ec ca es sa el la hw hown at_ m ha hm hk hb
  · exact c_bring0 bw w q ps ss ms ek ec ca es sa el la hw hown at_ ha
end
end Go.Proofs.YtoledfhjmdpihaaGreat
/- Worlds: all seals that were sent. -/
set_option linter.unusedVariables false
set_option linter.unusedSectionVars false
set_option linter.unusedSimpArgs false
namespace Go.Proofs.YtoledfhjmdpihaaGreat
open Go Go.Proofs Go.Proofs.YtoledfhjmdpihaaGreat.VE
attribute [local irreducible] Val Op1 WO WR WA WC seqQ blockQ loopQ retQ
set_option maxHeartbeats 4000000
theorem addNew_append : ∀ (a b out : List Seal), addNew out (a ++ b) = addNew (addNew out a) b
  | [], _, _ => rfl
  | s :: r, b, out => by simp only [List.cons_append, addNew]; exact addNew_append r b _
theorem addNew_len : ∀ (a out : List Seal), (addNew out a).length ≤ out.length + a.length
  | [], out => by simp [addNew]
  | s :: r, out => by
    simp only [addNew]
    refine Nat.le_trans (addNew_len r _) ?_
    split <;> simp <;> omega
abbrev sealsOf (ms : List (Msg × Sl)) : List Seal := ms.flatMap (fun p => p.1.seals)
theorem sealsOf_take (ms : List (Msg × Sl)) (k : Nat) : (sealsOf (ms.take k)).length ≤ (sealsOf ms).length := by
  have h : sealsOf ms = sealsOf (ms.take k) ++ sealsOf (ms.drop k) := by rw [← List.flatMap_append, List.take_append_drop]
  rw [h, List.length_append]; omega
theorem sealsOf_next {ms : List (Msg × Sl)} {k : Nat} {y : Msg × Sl} (hy : ms[k]? = some y) : sealsOf (ms.take (k + 1)) = sealsOf (ms.take k) ++ y.1.seals := by
  rw [take_next hy]; simp [sealsOf]
theorem sealsOf_log {ms : List (Msg × Sl)} {w : World} (h : ms.map Prod.fst = w.log) : sealsOf ms = w.log.flatMap Msg.seals := by
  rw [← h, List.flatMap_map]
theorem c_seals {L : List Ent} (bw : Nat) (w : World) (q : WSl) (ms : List (Msg × Sl)) (hmem : (bw, cellsO (worldC w q) 43) ∈ L) (hr : SliceAt L encMsg q.ls ms) (hms : ms.map Prod.fst = w.log) (ha : ∀ p ∈ ms, MsgAt L p.1 p.2) (hl : (w.log.flatMap Msg.seals).length ≤ 1000) :
    Tri Tryz.prog 103 [.pointer (some ⟨bw, 0, none⟩)] L (fun v L' => ∃ s es', v = s.v ∧ Row encSeal 155 s (worldSeals w) es' ∧ L' = es' ++ L) := by
  obtain ⟨kc, cs, ss', ⟨al, nl, cl⟩⟩ := q
  have hws : worldSeals w = addNew [] (sealsOf ms) := by unfold worldSeals; rw [sealsOf_log hms]
  rw [← sealsOf_log hms] at hl
  obtain ⟨hn, hcap, hbig, hat⟩ := hr
  dsimp only at hn hcap hat
  subst hn
  simp only [big] at hbig
  refine Tri.of Tryz.func103 rfl rfl Tryz.ntmps103 rfl rfl ?_
  (repeat' (first | refine nX ?_ | (refine nA ?_; intro _) | refine nY ?_ | refine nR ?_))
  rename_i b0
  refine WC_loop (fun mz Ez Mz => ∃ (k : Nat) (xs : List Seal) (a2 : Option Addr) (n2 c2 : Nat) (eo : List Ent), k + mz = (ms).length ∧ Ez = [(3, .slice a2 n2 c2), (12, .slice al ms.length cl), (13, I ms.length), (14, I k)] ∧ Mz = eo ++ L ∧ (Row encSeal 155 ⟨a2, n2, c2⟩ xs eo ∧ xs = addNew [] (sealsOf (ms.take k)))) (ms).length (by exact kQ) (by exact kL) ⟨0, [], some ⟨b0, 0, none⟩, 0, 0, [], by omega, rfl, rfl, by exact ⟨Row.nil, rfl⟩⟩ ?_
  rintro mz Ez Mz ⟨k, xs, a2, n2, c2, eo, hk, rfl, rfl, hin⟩
  rcases Nat.lt_or_ge k (ms).length with hlt | hge
  · obtain ⟨hrow0, hxs⟩ := hin
    obtain ⟨ko, rfl⟩ : ∃ ko, ko = k := ⟨k, rfl⟩
    obtain ⟨mo, rfl⟩ : ∃ mo, mo = mz := ⟨mz, rfl⟩
    obtain ⟨⟨m, ⟨sa', sn, sc⟩⟩, hy2⟩ : ∃ y, ms[ko]? = some y := ⟨ms[ko]'(by omega), by simp [hlt]⟩
    obtain ⟨b'2, o2, cs2, T2, fr2, rfl, hm2, hrow2⟩ := hat (by omega)
    have hrow'2 := hrow2 ko _ hy2
    have hma := ha _ (List.mem_of_getElem? hy2)
    have hsn : sn = m.seals.length := hma.1
    subst hsn
    have hsb := hma.2.2.1
    have hsr := hma.2.2.2
    dsimp only at hsb hsr
    simp only [big] at hsb
    have hlen1 := addNew_len (sealsOf (ms.take ko)) []
    have hlen2 := sealsOf_take ms (ko + 1)
    rw [sealsOf_next hy2, List.length_append] at hlen2
    rw [← hxs] at hlen1
    simp only [List.length_nil, Nat.zero_add] at hlen1
    dsimp only at hlen2
    (repeat' (first | refine nX ?_ | (refine nA ?_; intro _) | refine nY ?_ | refine nR ?_ | refine WC_condT rfl (by exact kD) ?_ | refine WC_condF rfl (by exact kD) ?_ | refine WC_cond rfl (fun hc => ?_) (fun hc => ?_)))
    refine WC_loop (fun mz Ez Mz => ∃ (k : Nat) (ys : List Seal) (a3 : Option Addr) (n3 c3 : Nat) (eq : List Ent), k + mz = (m.seals).length ∧ Ez = [(3, .slice a3 n3 c3), (12, .slice (some ⟨b'2, o2, none⟩) ms.length cl), (13, I ms.length), (14, I ko), (19, .slice sa' m.seals.length sc), (20, I m.seals.length), (21, I k)] ∧ Mz = eq ++ L ∧ (Row encSeal 155 ⟨a3, n3, c3⟩ ys eq ∧ ys = addNew xs (m.seals.take k))) (m.seals).length (by exact kQ) (by exact kL) ⟨0, xs, a2, n2, c2, eo, by omega, rfl, rfl, by exact ⟨hrow0, rfl⟩⟩ ?_
    rintro mz Ez Mz ⟨k, ys, a3, n3, c3, eq, hk, rfl, rfl, hin⟩
    rcases Nat.lt_or_ge k (m.seals).length with hlt | hge
    · obtain ⟨hrow1, hys⟩ := hin
      obtain ⟨y3, hy3⟩ : ∃ y, (m.seals)[k]? = some y := ⟨(m.seals)[k]'(by omega), by simp [hlt]⟩; obtain ⟨b'3, o3, cs3, T3, fr3, rfl, hm3, hrow3⟩ := hsr (by omega); have hrow'3 := hrow3 k y3 hy3; have htk3 := take_next hy3
      have hlen3 := addNew_len (m.seals.take k) xs
      rw [← hys, List.length_take] at hlen3
      have hsnoc : addNew xs (m.seals.take (k + 1)) = if y3 ∈ ys then ys else ys ++ [y3] := by rw [htk3, addNew_append, ← hys]; rfl
      by_cases hin3 : y3 ∈ ys
      · (repeat' (first | refine nX ?_ | (refine nA ?_; intro _) | (refine nW ?_; first | (refine op_call_id ?_; refine op_ro rfl rfl (by exact (c_containsimpl.Seal ⟨a3, n3, c3⟩ ys y3 (hrow1.atL (by exact kS))).eq (congrArg B (decide_eq_true hin3))) ?_)) | refine nY ?_ | refine nR ?_ | refine WC_condT rfl (by exact kD) ?_ | refine WC_condF rfl (by exact kD) ?_ | refine WC_cond rfl (fun hc => ?_) (fun hc => ?_)))
        exact loopQ_next ⟨mz - 1, _, _, by omega, by exact kQ, by exact kL, k + 1, ys, a3, n3, c3, eq, by omega, rfl, rfl, by exact ⟨hrow1, by rw [hsnoc, if_pos hin3]⟩⟩
      · (repeat' (first | refine nX ?_ | (refine nA ?_; intro _) | (refine nW ?_; first | (refine op_call_id ?_; refine op_ro rfl rfl (by exact (c_containsimpl.Seal ⟨a3, n3, c3⟩ ys y3 (hrow1.atL (by exact kS))).eq (congrArg B (decide_eq_false hin3))) ?_) | (refine go_append ?_; refine op_appendRow (sl := ⟨_, _, _⟩) (sx := ⟨_, _, _⟩) rfl rfl rfl rfl rfl rfl rfl rfl rfl (hrow1) (by exact kE) (SliceAt.one (x := y3) (by exact kM) rfl) (by exact kN) ?_; intro sl' es' hrow' hst')) | refine nY ?_ | refine nR ?_ | refine WC_condT rfl (by exact kD) ?_ | refine WC_condF rfl (by exact kD) ?_ | refine WC_cond rfl (fun hc => ?_) (fun hc => ?_)))
        obtain ⟨a9, n9, c9⟩ := sl'
        exact loopQ_next ⟨mz - 1, _, _, by omega, by exact kQ, by exact kL, k + 1, ys ++ [y3], a9, n9, c9, es', by omega, rfl, rfl, by exact ⟨hrow', by rw [hsnoc, if_neg hin3]⟩⟩
    · obtain ⟨hrow1, hys⟩ := hin
      rw [take_all hge] at hys
      (repeat' (first | refine nX ?_ | (refine nA ?_; intro _) | refine nY ?_ | refine nR ?_ | refine WC_condT rfl (by exact kD) ?_ | refine WC_condF rfl (by exact kD) ?_ | refine WC_cond rfl (fun hc => ?_) (fun hc => ?_)))
      have hfin : ys = addNew [] (sealsOf (ms.take (ko + 1))) := by rw [sealsOf_next hy2, addNew_append, ← hxs, hys]
      exact loopQ_next ⟨mo - 1, _, _, by omega, by exact kQ, by exact kL, ko + 1, ys, a3, n3, c3, eq, by omega, rfl, rfl, hrow1, hfin⟩
  · obtain ⟨hrow0, hxs⟩ := hin
    rw [take_all hge, ← hws] at hxs
    subst hxs
    (repeat' (first | refine nX ?_ | (refine nA ?_; intro _) | (refine nW ?_; first | (refine op_call_id ?_; refine op_ro rfl rfl (by exact c_clipimpl.Seal _ _ _ hrow0.1.le_cap) ?_)) | refine nY ?_ | refine nR ?_ | refine WC_condT rfl (by exact kD) ?_ | refine WC_condF rfl (by exact kD) ?_ | refine WC_cond rfl (fun hc => ?_) (fun hc => ?_)))
    obtain ⟨e3, hs3, hr3⟩ := hrow0.clip
    refine ret_ret (by exact kR) ?_; exact ⟨e3 ++ L, hs3 L, ⟨_, _, _⟩, e3, rfl, hr3, rfl⟩
end Go.Proofs.YtoledfhjmdpihaaGreat
/- Worlds: the begin; time; a service that falls. -/
set_option linter.unusedVariables false
set_option linter.unusedSectionVars false
set_option linter.unusedSimpArgs false
namespace Go.Proofs.YtoledfhjmdpihaaGreat
open Go Go.Proofs Go.Proofs.YtoledfhjmdpihaaGreat.VE
attribute [local irreducible] Val Op1 WO WR WA WC seqQ blockQ loopQ retQ
noncomputable def o56x3L26 : Array Oper := cops (cl (cr (cr (codeOf Tryz.f56))))
noncomputable def r56x3L26 : Run := (.st 1 0 (.alt (.st 0 3 (.alt (.st 2 3 (.alt (.st 3 3 (.st 4 0 (.st 5 3 (.st 6 3 .done)))) (.st 5 3 (.st 3 3 (.st 4 0 (.st 6 3 .done)))))) (.alt (.st 3 3 (.alt (.st 2 3 (.st 4 0 (.st 5 3 (.st 6 3 .done)))) (.st 5 3 (.st 2 3 (.st 4 0 (.st 6 3 .done)))))) (.st 5 3 (.alt (.st 2 3 (.st 3 3 (.st 4 0 (.st 6 3 .done)))) (.st 3 3 (.st 2 3 (.st 4 0 (.st 6 3 .done))))))))) (.alt (.st 2 3 (.alt (.st 0 3 (.alt (.st 3 3 (.st 4 0 (.st 5 3 (.st 6 3 .done)))) (.st 5 3 (.st 3 3 (.st 4 0 (.st 6 3 .done)))))) (.alt (.st 3 3 (.alt (.st 0 3 (.st 4 0 (.st 5 3 (.st 6 3 .done)))) (.st 5 3 (.st 0 3 (.st 4 0 (.st 6 3 .done)))))) (.st 5 3 (.alt (.st 0 3 (.st 3 3 (.st 4 0 (.st 6 3 .done)))) (.st 3 3 (.st 0 3 (.st 4 0 (.st 6 3 .done))))))))) (.alt (.st 3 3 (.alt (.st 0 3 (.alt (.st 2 3 (.st 4 0 (.st 5 3 (.st 6 3 .done)))) (.st 5 3 (.st 2 3 (.st 4 0 (.st 6 3 .done)))))) (.alt (.st 2 3 (.alt (.st 0 3 (.st 4 0 (.st 5 3 (.st 6 3 .done)))) (.st 5 3 (.st 0 3 (.st 4 0 (.st 6 3 .done)))))) (.st 5 3 (.alt (.st 0 3 (.st 2 3 (.st 4 0 (.st 6 3 .done)))) (.st 2 3 (.st 0 3 (.st 4 0 (.st 6 3 .done))))))))) (.st 5 3 (.alt (.st 0 3 (.alt (.st 2 3 (.st 3 3 (.st 4 0 (.st 6 3 .done)))) (.st 3 3 (.st 2 3 (.st 4 0 (.st 6 3 .done)))))) (.alt (.st 2 3 (.alt (.st 0 3 (.st 3 3 (.st 4 0 (.st 6 3 .done)))) (.st 3 3 (.st 0 3 (.st 4 0 (.st 6 3 .done)))))) (.st 3 3 (.alt (.st 0 3 (.st 2 3 (.st 4 0 (.st 6 3 .done)))) (.st 2 3 (.st 0 3 (.st 4 0 (.st 6 3 .done)))))))))))))
set_option maxHeartbeats 4000000
theorem All.empty {X : Type} {R : X → List Ent → Prop} : ∀ {xs : List X}, (∀ x ∈ xs, R x []) → All R xs []
  | [], _ => rfl
  | x :: r, h => ⟨[], [], rfl, h x List.mem_cons_self, All.empty fun y hy => h y (List.mem_cons_of_mem _ hy)⟩
theorem cliOwn_new (id : Int) : CliOwn (clientNew id, CSl.nil) [] := ⟨[], [], [], [], rfl, Row.nil, Row.nil, Row.nil, Row.nil⟩
theorem srvOwn_new (id : Int) : SrvOwn (servNew id, Sl.nil, Sl.nil) [] := ⟨[], [], rfl, Row.nil, Row.nil⟩
abbrev World.zero : World := ⟨0, ⟨0, []⟩, [], [], [], 0⟩
def newCs (k : Nat) : List (Client × CSl) := (List.range k).map fun i : Nat => (clientNew ((i : Int) + 1), CSl.nil)
def newSs (k : Nat) : List (Serv × (Sl × Sl)) := (List.range k).map fun i : Nat => (servNew ((i : Int) + 4), Sl.nil, Sl.nil)
theorem newCs_succ (k : Nat) : newCs (k + 1) = newCs k ++ [(clientNew ((k : Int) + 1), CSl.nil)] := by simp [newCs, List.range_succ]
theorem newSs_succ (k : Nat) : newSs (k + 1) = newSs k ++ [(servNew ((k : Int) + 4), Sl.nil, Sl.nil)] := by simp [newSs, List.range_succ]
theorem c_kdcNew {L : List Ent} : RO Tryz.prog 120 [] L (.agg [I 10, Sl.nil.v].toArray) := by
  refine Tri.of Tryz.func120 rfl rfl Tryz.ntmps120 rfl rfl ?_
  (repeat' (first | refine nX ?_ | (refine nA ?_; intro _) | refine nY ?_ | refine nR ?_))
  refine ro_ret (by exact kR) (by exact kL) ?_; rfl
theorem c_worldNew0 {L : List Ent} (bad : Int) (h : within bad 0 3 = false) : RO Tryz.prog 56 [I bad] L (.tuple [worldV World.zero WSl.nil, B false].toArray) := by
  refine Tri.of Tryz.func56 rfl rfl Tryz.ntmps56 rfl rfl ?_
  (repeat' (first | refine nX ?_ | (refine nA ?_; intro _) | (refine nW ?_; first | (refine op_call_id ?_; refine op_ro rfl rfl (by exact (c_within _ _ _).eq (congrArg B h)) ?_)) | refine nY ?_ | refine WA_alt ?_ ?_ | refine nR ?_ | refine WC_drawL (id := 3) (ops := o56x3L26) r56x3L26 (by kernel_rfl) rfl ?_ | refine WC_cond rfl (fun hc => ?_) (fun hc => ?_)))
  refine ro_ret (by exact kR) (by exact kL) ?_; rfl
theorem c_tick {L : List Ent} (bw : Nat) (w : World) (q : WSl) (hn : 0 ≤ w.now ∧ w.now ≤ 100) : Tri Tryz.prog 104 [.pointer (some ⟨bw, 0, none⟩)] ((bw, cellsO (worldC w q) 43) :: L) (fun v L' => v = .tuple #[] ∧ L' = (bw, cellsO (worldC (tick w) q) 43) :: L) := by
  refine Tri.of Tryz.func104 rfl rfl Tryz.ntmps104 rfl rfl ?_
  (repeat' (first | refine nX ?_ | (refine nA ?_; intro _) | refine nY ?_ | refine nR ?_))
  refine ret_normal (by exact kR) ?_; exact ⟨_, SubP.refl _, rfl, rfl⟩
theorem c_servFall {L : List Ent} (sv : Serv) (c t : Sl) (now : Int) (hok : servOk' sv = true) (hn : 0 ≤ now ∧ now ≤ 100) (h : SrvAt L (sv, c, t)) (hl2 : sv.took.length ≤ lim) : Tri Tryz.prog 106 [servV sv c t, I now] L (fun v L' => ∃ c' t' es, v = servV (servFall sv now) c' t' ∧ SrvOwn (servFall sv now, c', t') es ∧ L' = es ++ L) := by
  have hT : timeOk now = true := within_iff.2 hn
  have hsok := servOk'_iff.1 hok
  refine Tri.of Tryz.func106 rfl rfl Tryz.ntmps106 rfl rfl ?_
  (repeat' (first | refine nX ?_ | (refine nA ?_; intro _) | (refine nW ?_; first | (refine op_call_id ?_; refine op_ro rfl rfl (by first | exact (c_servOk' sv c t (h.c.mono (by exact kS)) (h.t.mono (by exact kS))).eq (congrArg B hok) | exact (c_timeOk _).eq (congrArg B hT)) ?_) | (refine op_call_id ?_; refine op_call rfl (c_servCopied sv c t (h.mono (by exact kS)) (by have := hsok.cache.len; simp only [lim]; omega) hl2) rfl ?_; rintro _ _ ⟨c1, t1, e1, rfl, ⟨ea, eb, rfl, hr1, hr2⟩, rfl⟩)) | refine nY ?_ | refine nR ?_ | refine WC_cond rfl (fun hc => ?_) (fun hc => ?_)))
  refine ret_ret (by exact kR) ?_; exact ⟨eb ++ L, SubP.trans (M := (ea ++ eb) ++ L) (by exact kP) (by rw [List.append_assoc]; exact SubP.dropA (.refl _)), Sl.nil, t1, eb, rfl, ⟨[], eb, rfl, Row.nil, hr2⟩, rfl⟩
end Go.Proofs.YtoledfhjmdpihaaGreat
/- Worlds: at the begin. -/
set_option linter.unusedVariables false
set_option linter.unusedSectionVars false
set_option linter.unusedSimpArgs false
namespace Go.Proofs.YtoledfhjmdpihaaGreat
open Go Go.Proofs Go.Proofs.YtoledfhjmdpihaaGreat.VE
attribute [local irreducible] Val Op1 WO WR WA WC seqQ blockQ loopQ retQ
noncomputable def o56x3L27 : Array Oper := cops (cl (cr (cr (codeOf Tryz.f56))))
noncomputable def r56x3L27 : Run := (.st 1 0 (.alt (.st 0 3 (.alt (.st 2 3 (.alt (.st 3 3 (.st 4 0 (.st 5 3 (.st 6 3 .done)))) (.st 5 3 (.st 3 3 (.st 4 0 (.st 6 3 .done)))))) (.alt (.st 3 3 (.alt (.st 2 3 (.st 4 0 (.st 5 3 (.st 6 3 .done)))) (.st 5 3 (.st 2 3 (.st 4 0 (.st 6 3 .done)))))) (.st 5 3 (.alt (.st 2 3 (.st 3 3 (.st 4 0 (.st 6 3 .done)))) (.st 3 3 (.st 2 3 (.st 4 0 (.st 6 3 .done))))))))) (.alt (.st 2 3 (.alt (.st 0 3 (.alt (.st 3 3 (.st 4 0 (.st 5 3 (.st 6 3 .done)))) (.st 5 3 (.st 3 3 (.st 4 0 (.st 6 3 .done)))))) (.alt (.st 3 3 (.alt (.st 0 3 (.st 4 0 (.st 5 3 (.st 6 3 .done)))) (.st 5 3 (.st 0 3 (.st 4 0 (.st 6 3 .done)))))) (.st 5 3 (.alt (.st 0 3 (.st 3 3 (.st 4 0 (.st 6 3 .done)))) (.st 3 3 (.st 0 3 (.st 4 0 (.st 6 3 .done))))))))) (.alt (.st 3 3 (.alt (.st 0 3 (.alt (.st 2 3 (.st 4 0 (.st 5 3 (.st 6 3 .done)))) (.st 5 3 (.st 2 3 (.st 4 0 (.st 6 3 .done)))))) (.alt (.st 2 3 (.alt (.st 0 3 (.st 4 0 (.st 5 3 (.st 6 3 .done)))) (.st 5 3 (.st 0 3 (.st 4 0 (.st 6 3 .done)))))) (.st 5 3 (.alt (.st 0 3 (.st 2 3 (.st 4 0 (.st 6 3 .done)))) (.st 2 3 (.st 0 3 (.st 4 0 (.st 6 3 .done))))))))) (.st 5 3 (.alt (.st 0 3 (.alt (.st 2 3 (.st 3 3 (.st 4 0 (.st 6 3 .done)))) (.st 3 3 (.st 2 3 (.st 4 0 (.st 6 3 .done)))))) (.alt (.st 2 3 (.alt (.st 0 3 (.st 3 3 (.st 4 0 (.st 6 3 .done)))) (.st 3 3 (.st 0 3 (.st 4 0 (.st 6 3 .done)))))) (.st 3 3 (.alt (.st 0 3 (.st 2 3 (.st 4 0 (.st 6 3 .done)))) (.st 2 3 (.st 0 3 (.st 4 0 (.st 6 3 .done)))))))))))))
set_option maxHeartbeats 4000000
theorem c_worldNew1 {L : List Ent} (bad : Int) (h : within bad 0 3 = true) : Tri Tryz.prog 56 [I bad] L (fun v L' => ∃ q ps ss ms ek ec ca es sa el la, v = .tuple [worldV (worldNew bad) q, B true].toArray ∧ WldOwn (worldNew bad) q ps ss ms ek ec ca es sa el la ∧ L' = wldE ek ec ca es sa el la ++ L) := by
  refine Tri.of Tryz.func56 rfl rfl Tryz.ntmps56 rfl rfl ?_
  (repeat' (first | refine nX ?_ | (refine nA ?_; intro _) | (refine nW ?_; first | (refine op_call_id ?_; refine op_ro rfl rfl (by exact (c_within _ _ _).eq (congrArg B h)) ?_)) | refine nY ?_ | refine WA_alt ?_ ?_ | refine nR ?_ | refine WC_cond rfl (fun hc => ?_) (fun hc => ?_)))
  rename_i b2
  refine WC_cut (X := Nat × Nat × Nat) (fun x => [(2, .pointer (some ⟨b2, 0, none⟩)), (4, .pointer (some ⟨x.1, 0, none⟩))]) (fun x => (b2, cellsO (worldC World.zero WSl.nil) 43) :: (x.1, cellsO (worldC ⟨0, kdcNew, [], [], [], bad⟩ ⟨Sl.nil, ⟨some ⟨x.2.1, 0, none⟩, 0, 3⟩, ⟨some ⟨x.2.2, 0, none⟩, 0, 2⟩, Sl.nil⟩) 43) :: (x.2.1, cellsO (zerosOf (clientC (clientNew 0) CSl.nil) 3) 112) :: (x.2.2, cellsO (zerosOf (servC ⟨0, 0, [], []⟩ Sl.nil Sl.nil) 2) 115) :: L) ?_ ?_
  · (repeat' (first | refine nX ?_ | (refine nA ?_; intro _) | (refine nW ?_; first | (refine op_call_id ?_; refine op_ro rfl rfl (by exact c_kdcNew) ?_) | (refine op_makeSlice (l := 0) (c := 3) (e := 112) rfl rfl rfl rfl rfl rfl rfl rfl rfl rfl ?_; intro _) | (refine op_makeSlice (l := 0) (c := 2) (e := 115) rfl rfl rfl rfl rfl rfl rfl rfl rfl rfl ?_; intro _)) | refine nY ?_ | refine WA_alt ?_ ?_ | refine nR ?_ | refine WC_drawL (id := 3) (ops := o56x3L27) r56x3L27 (by kernel_rfl) rfl ?_))
    all_goals exact ⟨rfl, (_, _, _), by exact kQ, by exact kL⟩
  · rintro ⟨b4, bc, bs⟩
    dsimp only
    (repeat' (first | refine nX ?_ | (refine nA ?_; intro _) | refine nY ?_ | refine WA_alt ?_ ?_ | refine nR ?_ | refine WC_drawL (id := 3) (ops := o56x3L27) r56x3L27 (by kernel_rfl) rfl ?_))
    refine WC_loop (fun mz Ez Mz => ∃ (k : Nat) (a2 : Option Addr) (n2 c2 : Nat) (ec : List Ent), k + mz = (List.range 3).length ∧ Ez = [(2, .pointer (some ⟨b2, 0, none⟩)), (4, .pointer (some ⟨b4, 0, none⟩)), (5, I ((k : Int) + 1))] ∧ Mz = (b2, cellsO (worldC World.zero WSl.nil) 43) :: (b4, cellsO (worldC ⟨0, kdcNew, [], [], [], bad⟩ ⟨Sl.nil, ⟨a2, n2, c2⟩, ⟨some ⟨bs, 0, none⟩, 0, 2⟩, Sl.nil⟩) 43) :: (ec ++ ((bs, cellsO (zerosOf (servC ⟨0, 0, [], []⟩ Sl.nil Sl.nil) 2) 115) :: L)) ∧ (Row encClient 112 ⟨a2, n2, c2⟩ (newCs k) ec)) (List.range 3).length (by exact kQ) (by exact kL) ⟨0, some ⟨bc, 0, none⟩, 0, 3, [(bc, cellsO (zerosOf (clientC (clientNew 0) CSl.nil) 3) 112)], by omega, rfl, rfl, by exact Row.made (E := encClient) rfl (by omega)⟩ ?_
    rintro mz Ez Mz ⟨k, a2, n2, c2, ec, hk, rfl, rfl, hin⟩
    rcases Nat.lt_or_ge k (List.range 3).length with hlt | hge
    · have hl3 : (List.range 3).length = 3 := List.length_range
      have hnl : (newCs k).length = k := by simp [newCs]
      (repeat' (first | refine nX ?_ | (refine nA ?_; intro _) | (refine nW ?_; first | (refine go_append ?_; refine op_appendRow (sl := ⟨_, _, _⟩) (sx := ⟨_, _, _⟩) rfl rfl rfl rfl rfl rfl rfl rfl rfl (hin) (by exact kE) (SliceAt.one (E := encClient) (x := (clientNew ((k : Int) + 1), CSl.nil)) (by exact kM) rfl) (by (simp only [hnl, List.length_cons, List.length_nil, lim]; omega)) ?_; intro sl' es' hrow' hst')) | refine nY ?_ | refine WA_alt ?_ ?_ | refine nR ?_ | refine WC_drawL (id := 3) (ops := o56x3L27) r56x3L27 (by kernel_rfl) rfl ?_ | refine WC_condT rfl (by exact kD) ?_ | refine WC_condF rfl (by exact kD) ?_ | refine WC_cond rfl (fun hc => ?_) (fun hc => ?_)))
      obtain ⟨a9, n9, c9⟩ := sl'
      exact loopQ_next ⟨mz - 1, _, _, by omega, by exact kQ, by exact kL, k + 1, a9, n9, c9, es', by omega, rfl, rfl, by (rw [newCs_succ]; exact hrow')⟩
    · have hl3 : (List.range 3).length = 3 := List.length_range
      have hk3 : k = 3 := by omega
      subst hk3
      have hrc := hin
      (repeat' (first | refine nX ?_ | (refine nA ?_; intro _) | refine nY ?_ | refine WA_alt ?_ ?_ | refine nR ?_ | refine WC_drawL (id := 3) (ops := o56x3L27) r56x3L27 (by kernel_rfl) rfl ?_ | refine WC_condT rfl (by exact kD) ?_ | refine WC_condF rfl (by exact kD) ?_ | refine WC_cond rfl (fun hc => ?_) (fun hc => ?_)))
      refine WC_loop (fun mz Ez Mz => ∃ (k : Nat) (a3 : Option Addr) (n3 c3 : Nat) (ed : List Ent), k + mz = (List.range 2).length ∧ Ez = [(2, .pointer (some ⟨b2, 0, none⟩)), (4, .pointer (some ⟨b4, 0, none⟩)), (6, I ((k : Int) + 4))] ∧ Mz = (b2, cellsO (worldC World.zero WSl.nil) 43) :: (b4, cellsO (worldC ⟨0, kdcNew, [], [], [], bad⟩ ⟨Sl.nil, ⟨a2, n2, c2⟩, ⟨a3, n3, c3⟩, Sl.nil⟩) 43) :: (ec ++ (ed ++ L)) ∧ (Row encServ 115 ⟨a3, n3, c3⟩ (newSs k) ed)) (List.range 2).length (by exact kQ) (by exact kL) ⟨0, some ⟨bs, 0, none⟩, 0, 2, [(bs, cellsO (zerosOf (servC ⟨0, 0, [], []⟩ Sl.nil Sl.nil) 2) 115)], by omega, rfl, rfl, by exact Row.made (E := encServ) rfl (by omega)⟩ ?_
      rintro mz Ez Mz ⟨k, a3, n3, c3, ed, hk, rfl, rfl, hin⟩
      rcases Nat.lt_or_ge k (List.range 2).length with hlt | hge
      · have hl2 : (List.range 2).length = 2 := List.length_range
        have hnl : (newSs k).length = k := by simp [newSs]
        (repeat' (first | refine nX ?_ | (refine nA ?_; intro _) | (refine nW ?_; first | (refine go_append ?_; refine op_appendRow (sl := ⟨_, _, _⟩) (sx := ⟨_, _, _⟩) rfl rfl rfl rfl rfl rfl rfl rfl rfl (hin) (by exact kE) (SliceAt.one (E := encServ) (x := (servNew ((k : Int) + 4), Sl.nil, Sl.nil)) (by exact kM) rfl) (by (simp only [hnl, List.length_cons, List.length_nil, lim]; omega)) ?_; intro sl' es' hrow' hst')) | refine nY ?_ | refine WA_alt ?_ ?_ | refine nR ?_ | refine WC_drawL (id := 3) (ops := o56x3L27) r56x3L27 (by kernel_rfl) rfl ?_ | refine WC_condT rfl (by exact kD) ?_ | refine WC_condF rfl (by exact kD) ?_ | refine WC_cond rfl (fun hc => ?_) (fun hc => ?_)))
        obtain ⟨a9, n9, c9⟩ := sl'
        exact loopQ_next ⟨mz - 1, _, _, by omega, by exact kQ, by exact kL, k + 1, a9, n9, c9, es', by omega, rfl, rfl, by (rw [newSs_succ]; exact hrow')⟩
      · have hl2 : (List.range 2).length = 2 := List.length_range
        have hk2 : k = 2 := by omega
        subst hk2
        (repeat' (first | refine nX ?_ | (refine nA ?_; intro _) | refine nY ?_ | refine WA_alt ?_ ?_ | refine nR ?_ | refine WC_drawL (id := 3) (ops := o56x3L27) r56x3L27 (by kernel_rfl) rfl ?_ | refine WC_condT rfl (by exact kD) ?_ | refine WC_condF rfl (by exact kD) ?_ | refine WC_cond rfl (fun hc => ?_) (fun hc => ?_)))
        refine ret_ret (by exact kR) ?_; exact ⟨wldE [] ec [] ed [] [] [] ++ L, by simp only [wldE, List.nil_append, List.append_nil, List.append_assoc]; exact kP, ⟨Sl.nil, ⟨a2, n2, c2⟩, ⟨a3, n3, c3⟩, Sl.nil⟩, newCs 3, newSs 2, [], [], ec, [], ed, [], [], [], rfl, ⟨Row.nil, rfl, hrc, All.empty (by simp [newCs, List.range_succ]; exact ⟨cliOwn_new _, cliOwn_new _, cliOwn_new _⟩), rfl, hin, All.empty (by simp [newSs, List.range_succ]; exact ⟨srvOwn_new _, srvOwn_new _⟩), rfl, Row.nil, rfl⟩, rfl⟩
end Go.Proofs.YtoledfhjmdpihaaGreat
/- Worlds: copies. -/
set_option linter.unusedVariables false
set_option linter.unusedSectionVars false
set_option linter.unusedSimpArgs false
namespace Go.Proofs.YtoledfhjmdpihaaGreat
open Go Go.Proofs Go.Proofs.YtoledfhjmdpihaaGreat.VE
attribute [local irreducible] Val Op1 WO WR WA WC seqQ blockQ loopQ retQ
noncomputable def o39x10L28 : Array Oper := cops (cr (cl (cl (cr (cr (cl (cl (cr (cl (cr (cr (cr (codeOf Tryz.f39)))))))))))))
noncomputable def o39x15L28 : Array Oper := cops (cr (cl (cl (cr (cr (cl (cl (cr (cl (cr (cr (cr (cr (codeOf Tryz.f39))))))))))))))
noncomputable def o39x17L28 : Array Oper := cops (cl (cr (cr (cr (cr (cr (codeOf Tryz.f39)))))))
noncomputable def o39x1L28 : Array Oper := cops (cl (cr (codeOf Tryz.f39)))
noncomputable def o39x5L28 : Array Oper := cops (cr (cl (cl (cr (cr (cl (cl (cr (cl (cr (cr (codeOf Tryz.f39))))))))))))
noncomputable def r39x10L28 : Run := (.st 0 0 (.st 1 1 (.st 2 1 (.st 3 2 (.st 4 2 (.st 5 3 (.st 6 0 (.st 7 3 .done))))))))
noncomputable def r39x15L28 : Run := (.st 0 0 (.st 1 1 (.st 2 1 (.st 3 2 (.st 4 2 (.st 5 3 (.st 6 0 (.st 7 3 .done))))))))
noncomputable def r39x17L28 : Run := (.st 0 0 (.st 1 1 (.st 3 0 (.st 4 1 (.st 6 0 (.st 7 1 (.st 2 2 (.st 9 0 (.st 5 2 (.st 8 3 (.st 10 3 (.st 11 0 (.st 12 3 (.st 13 0 (.st 14 3 .done)))))))))))))))
noncomputable def r39x1L28 : Run := (.st 0 0 (.st 1 1 (.st 2 0 (.st 3 1 (.st 5 0 (.st 6 1 (.alt (.st 4 2 (.st 7 0 (.st 8 2 (.st 9 3 .done)))) (.st 8 2 (.st 4 2 (.st 7 0 (.st 9 3 .done)))))))))))
noncomputable def r39x5L28 : Run := (.st 0 0 (.st 1 1 (.st 2 1 (.st 3 2 (.st 4 2 (.st 5 3 (.st 6 0 (.st 7 3 .done))))))))
set_option maxHeartbeats 4000000
structure WLim (w : World) : Prop where
  kc : w.kdc.cache.length ≤ lim
  cl : w.clients.length ≤ 1000
  sl : w.servs.length ≤ 1000
  ll : w.log.length ≤ 1000
  cs : ∀ c ∈ w.clients, c.wants.length ≤ lim ∧ c.creds.length ≤ lim ∧ c.sent.length ≤ lim ∧ c.met.length ≤ lim
  ss : ∀ s ∈ w.servs, s.cache.length ≤ lim ∧ s.took.length ≤ lim
  ms : ∀ m ∈ w.log, m.seals.length ≤ lim
theorem mem_fst {X Y : Type} {ps : List (X × Y)} {xs : List X} (h : ps.map Prod.fst = xs) {p : X × Y} (hp : p ∈ ps) : p.1 ∈ xs := h ▸ List.mem_map_of_mem hp
theorem len_fst {X Y : Type} {ps : List (X × Y)} {xs : List X} (h : ps.map Prod.fst = xs) : ps.length = xs.length := by rw [← h]; simp
theorem fst_next {X Y : Type} {ps qs : List (X × Y)} {k : Nat} {p r : X × Y} (hp : ps[k]? = some p) (h : qs.map Prod.fst = (ps.take k).map Prod.fst) (e : r.1 = p.1) : (qs ++ [r]).map Prod.fst = (ps.take (k + 1)).map Prod.fst := by
  rw [take_next hp, List.map_append, List.map_append, h]; simp [e]
theorem c_wldCopied {L : List Ent} (w : World) (q : WSl) (ps : List (Client × CSl)) (ss : List (Serv × (Sl × Sl))) (ms : List (Msg × Sl)) (h : WldAt L w q ps ss ms) (hl : WLim w) :
    Tri Tryz.prog 39 [worldV w q] L (fun v L' => ∃ q' ps' ss' ms' ek ec ca es sa el la, v = worldV w q' ∧ WldOwn w q' ps' ss' ms' ek ec ca es sa el la ∧ L' = wldE ek ec ca es sa el la ++ L) := by
  obtain ⟨kc, ⟨a1, n1, c1⟩, ⟨a4, n4, c4⟩, ⟨a5, n5, c5⟩⟩ := q
  obtain ⟨hkc, hpe, hpr, hpa, hse, hsr, hsa, hme, hmr, hma⟩ := h
  dsimp only at hkc hpr hsr hmr
  have hpl := len_fst hpe
  have hsl := len_fst hse
  have hml := len_fst hme
  obtain ⟨hn1, hc1, hb1, hat1⟩ := hpr
  obtain ⟨hn4, hc4, hb4, hat4⟩ := hsr
  obtain ⟨hn5, hc5, hb5, hat5⟩ := hmr
  dsimp only at hn1 hn4 hn5 hat1 hat4 hat5
  subst hn1 hn4 hn5
  have l1 := hl.cl
  have l2 := hl.sl
  have l3 := hl.ll
  refine Tri.of Tryz.func39 rfl rfl Tryz.ntmps39 rfl rfl ?_
  (repeat' (first | refine nX ?_ | (refine nA ?_; intro _) | refine nY ?_ | refine WA_alt ?_ ?_ | refine nR ?_ | refine WC_drawL (id := 5) (ops := o39x5L28) r39x5L28 (by kernel_rfl) rfl ?_ | refine WC_drawL (id := 10) (ops := o39x10L28) r39x10L28 (by kernel_rfl) rfl ?_ | refine WC_drawL (id := 15) (ops := o39x15L28) r39x15L28 (by kernel_rfl) rfl ?_ | refine WC_drawL (id := 17) (ops := o39x17L28) r39x17L28 (by kernel_rfl) rfl ?_))
  rename_i b1 b2
  refine WC_cut (X := { x : Nat × Sl × List Ent // Row encSeal 155 x.2.1 w.kdc.cache x.2.2 }) (fun x => [(1, .pointer (some ⟨b1, 0, none⟩)), (2, .pointer (some ⟨b2, 0, none⟩)), (3, .pointer (some ⟨x.1.1, 0, none⟩))]) (fun x => (b1, cellsO (worldC w ⟨kc, ⟨a1, ps.length, c1⟩, ⟨a4, ss.length, c4⟩, ⟨a5, ms.length, c5⟩⟩) 43) :: (b2, cellsO (worldC World.zero WSl.nil) 43) :: (x.1.1, cellsO (worldC w ⟨x.1.2.1, Sl.nil, Sl.nil, Sl.nil⟩) 43) :: (x.1.2.2 ++ L)) ?_ ?_
  · (repeat' (first | refine nX ?_ | (refine nA ?_; intro _) | (refine nW ?_; first | (refine op_call_id ?_; refine op_call rfl (c_kdcCopied w.kdc kc (hkc.mono (by exact kS)) hl.kc) rfl ?_; rintro _ _ ⟨sk, ek, rfl, hrk, rfl⟩)) | refine nY ?_ | refine WA_alt ?_ ?_ | refine nR ?_ | refine WC_drawL (id := 1) (ops := o39x1L28) r39x1L28 (by kernel_rfl) rfl ?_ | refine WC_drawL (id := 5) (ops := o39x5L28) r39x5L28 (by kernel_rfl) rfl ?_ | refine WC_drawL (id := 10) (ops := o39x10L28) r39x10L28 (by kernel_rfl) rfl ?_ | refine WC_drawL (id := 15) (ops := o39x15L28) r39x15L28 (by kernel_rfl) rfl ?_ | refine WC_drawL (id := 17) (ops := o39x17L28) r39x17L28 (by kernel_rfl) rfl ?_))
    all_goals exact ⟨rfl, ⟨(_, _, _), hrk⟩, by exact kQ, by exact kL⟩
  · rintro ⟨⟨b3, sk, ek⟩, hrk⟩
    dsimp only at hrk ⊢
    (repeat' (first | refine nX ?_ | (refine nA ?_; intro _) | refine nY ?_ | refine WA_alt ?_ ?_ | refine nR ?_ | refine WC_drawL (id := 1) (ops := o39x1L28) r39x1L28 (by kernel_rfl) rfl ?_ | refine WC_drawL (id := 5) (ops := o39x5L28) r39x5L28 (by kernel_rfl) rfl ?_ | refine WC_drawL (id := 10) (ops := o39x10L28) r39x10L28 (by kernel_rfl) rfl ?_ | refine WC_drawL (id := 15) (ops := o39x15L28) r39x15L28 (by kernel_rfl) rfl ?_ | refine WC_drawL (id := 17) (ops := o39x17L28) r39x17L28 (by kernel_rfl) rfl ?_))
    refine WC_loop (fun mz Ez Mz => ∃ (k : Nat) (qs : List (Client × CSl)) (a2 : Option Addr) (n2 c2 : Nat) (ec ca : List Ent), k + mz = (ps).length ∧ Ez = [(1, .pointer (some ⟨b1, 0, none⟩)), (2, .pointer (some ⟨b2, 0, none⟩)), (3, .pointer (some ⟨b3, 0, none⟩)), (19, .slice a1 ps.length c1), (20, I ps.length), (21, I k)] ∧ Mz = (b1, cellsO (worldC w ⟨kc, ⟨a1, ps.length, c1⟩, ⟨a4, ss.length, c4⟩, ⟨a5, ms.length, c5⟩⟩) 43) :: (b2, cellsO (worldC World.zero WSl.nil) 43) :: (b3, cellsO (worldC w ⟨sk, ⟨a2, n2, c2⟩, Sl.nil, Sl.nil⟩) 43) :: (ek ++ (ec ++ (ca ++ L))) ∧ (Row encClient 112 ⟨a2, n2, c2⟩ qs ec ∧ All CliOwn qs ca ∧ qs.map Prod.fst = (ps.take k).map Prod.fst)) (ps).length (by exact kQ) (by exact kL) ⟨0, [], none, 0, 0, [], [], by omega, rfl, rfl, by exact ⟨Row.nil, rfl, rfl⟩⟩ ?_
    rintro mz Ez Mz ⟨k, qs, a2, n2, c2, ec, ca, hk, rfl, rfl, hin⟩
    rcases Nat.lt_or_ge k (ps).length with hlt | hge
    · obtain ⟨hrow0, hall0, hmap0⟩ := hin
      obtain ⟨⟨c, s⟩, hy⟩ : ∃ y, ps[k]? = some y := ⟨ps[k]'(by omega), by simp [hlt]⟩
      obtain ⟨b', o', cs', T', fr', rfl, hm', hrw⟩ := hat1 (by omega)
      have hrow'' := hrw k _ hy
      have hca := hpa _ (List.mem_of_getElem? hy)
      have hcl := hl.cs c (mem_fst hpe (List.mem_of_getElem? hy))
      have hql : qs.length = k := by have := congrArg List.length hmap0; simp at this; omega
      (repeat' (first | refine nX ?_ | (refine nA ?_; intro _) | refine nY ?_ | refine WA_alt ?_ ?_ | refine nR ?_ | refine WC_drawL (id := 1) (ops := o39x1L28) r39x1L28 (by kernel_rfl) rfl ?_ | refine WC_drawL (id := 10) (ops := o39x10L28) r39x10L28 (by kernel_rfl) rfl ?_ | refine WC_drawL (id := 15) (ops := o39x15L28) r39x15L28 (by kernel_rfl) rfl ?_ | refine WC_drawL (id := 17) (ops := o39x17L28) r39x17L28 (by kernel_rfl) rfl ?_ | refine WC_condT rfl (by exact kD) ?_ | refine WC_condF rfl (by exact kD) ?_ | refine WC_cond rfl (fun hc => ?_) (fun hc => ?_)))
      rename_i b5
      (repeat' (first | refine nX ?_ | (refine nA ?_; intro _) | (refine nW ?_; first | (refine op_call_id ?_; refine op_call rfl (c_cliCopied c s (hca.mono (by exact kS)) hcl.1 hcl.2.1 hcl.2.2.1 hcl.2.2.2) rfl ?_; rintro _ _ ⟨s', e', rfl, ho', rfl⟩) | (refine go_append ?_; refine op_appendRow (sl := ⟨_, _, _⟩) (sx := ⟨_, _, _⟩) rfl rfl rfl rfl rfl rfl rfl rfl rfl (hrow0) (by exact kE) (SliceAt.one (E := encClient) (x := (c, s')) (by exact kM) rfl) (by (simp only [hql, List.length_cons, List.length_nil, lim]; omega)) ?_; intro sl' es' hrow' hst')) | refine nY ?_ | refine WA_alt ?_ ?_ | refine nR ?_ | refine WC_drawL (id := 1) (ops := o39x1L28) r39x1L28 (by kernel_rfl) rfl ?_ | refine WC_draw (id := 5) (ops := o39x5L28) ([(b5, cellsO (clientC c s) 112), (b3, cellsO (worldC w ⟨sk, ⟨a2, n2, c2⟩, Sl.nil, Sl.nil⟩) 43)]) r39x5L28 (by kernel_rfl) rfl ?_ | refine WC_drawL (id := 10) (ops := o39x10L28) r39x10L28 (by kernel_rfl) rfl ?_ | refine WC_drawL (id := 15) (ops := o39x15L28) r39x15L28 (by kernel_rfl) rfl ?_ | refine WC_drawL (id := 17) (ops := o39x17L28) r39x17L28 (by kernel_rfl) rfl ?_))
      obtain ⟨a9, n9, c9⟩ := sl'
      exact loopQ_next ⟨mz - 1, _, _, by omega, by exact kQ, by (try simp only [List.append_assoc]); exact kL, k + 1, qs ++ [(c, s')], a9, n9, c9, es', ca ++ e', by omega, rfl, rfl, by exact ⟨hrow', hall0.snoc ho', fst_next hy hmap0 rfl⟩⟩
    obtain ⟨hrow1, hall1, hmap1⟩ := hin
    rw [take_all hge, hpe] at hmap1
    (repeat' (first | refine nX ?_ | (refine nA ?_; intro _) | refine nY ?_ | refine WA_alt ?_ ?_ | refine nR ?_ | refine WC_drawL (id := 1) (ops := o39x1L28) r39x1L28 (by kernel_rfl) rfl ?_ | refine WC_drawL (id := 5) (ops := o39x5L28) r39x5L28 (by kernel_rfl) rfl ?_ | refine WC_drawL (id := 10) (ops := o39x10L28) r39x10L28 (by kernel_rfl) rfl ?_ | refine WC_drawL (id := 15) (ops := o39x15L28) r39x15L28 (by kernel_rfl) rfl ?_ | refine WC_drawL (id := 17) (ops := o39x17L28) r39x17L28 (by kernel_rfl) rfl ?_ | refine WC_condT rfl (by exact kD) ?_ | refine WC_condF rfl (by exact kD) ?_ | refine WC_cond rfl (fun hc => ?_) (fun hc => ?_)))
    clear hk hge
    refine WC_loop (fun mz Ez Mz => ∃ (k : Nat) (rs : List (Serv × (Sl × Sl))) (a3 : Option Addr) (n3 c3 : Nat) (ed sa : List Ent), k + mz = (ss).length ∧ Ez = [(1, .pointer (some ⟨b1, 0, none⟩)), (2, .pointer (some ⟨b2, 0, none⟩)), (3, .pointer (some ⟨b3, 0, none⟩)), (34, .slice a4 ss.length c4), (35, I ss.length), (36, I k)] ∧ Mz = (b1, cellsO (worldC w ⟨kc, ⟨a1, ps.length, c1⟩, ⟨a4, ss.length, c4⟩, ⟨a5, ms.length, c5⟩⟩) 43) :: (b2, cellsO (worldC World.zero WSl.nil) 43) :: (b3, cellsO (worldC w ⟨sk, ⟨a2, n2, c2⟩, ⟨a3, n3, c3⟩, Sl.nil⟩) 43) :: (ek ++ (ec ++ (ca ++ (ed ++ (sa ++ L))))) ∧ (Row encServ 115 ⟨a3, n3, c3⟩ rs ed ∧ All SrvOwn rs sa ∧ rs.map Prod.fst = (ss.take k).map Prod.fst)) (ss).length (by exact kQ) (by exact kL) ⟨0, [], none, 0, 0, [], [], by omega, rfl, rfl, by exact ⟨Row.nil, rfl, rfl⟩⟩ ?_
    rintro mz Ez Mz ⟨k, rs, a3, n3, c3, ed, sa, hk, rfl, rfl, hin⟩
    rcases Nat.lt_or_ge k (ss).length with hlt | hge
    · obtain ⟨hrow0, hall0, hmap0⟩ := hin
      obtain ⟨⟨c, ct, tt⟩, hy⟩ : ∃ y, ss[k]? = some y := ⟨ss[k]'(by omega), by simp [hlt]⟩
      obtain ⟨b', o', cs', T', fr', rfl, hm', hrw⟩ := hat4 (by omega)
      have hrow'' := hrw k _ hy
      have hca := hsa _ (List.mem_of_getElem? hy)
      have hcl := hl.ss c (mem_fst hse (List.mem_of_getElem? hy))
      have hql : rs.length = k := by have := congrArg List.length hmap0; simp at this; omega
      (repeat' (first | refine nX ?_ | (refine nA ?_; intro _) | refine nY ?_ | refine WA_alt ?_ ?_ | refine nR ?_ | refine WC_drawL (id := 1) (ops := o39x1L28) r39x1L28 (by kernel_rfl) rfl ?_ | refine WC_drawL (id := 5) (ops := o39x5L28) r39x5L28 (by kernel_rfl) rfl ?_ | refine WC_drawL (id := 15) (ops := o39x15L28) r39x15L28 (by kernel_rfl) rfl ?_ | refine WC_drawL (id := 17) (ops := o39x17L28) r39x17L28 (by kernel_rfl) rfl ?_ | refine WC_condT rfl (by exact kD) ?_ | refine WC_condF rfl (by exact kD) ?_ | refine WC_cond rfl (fun hc => ?_) (fun hc => ?_)))
      rename_i b5
      (repeat' (first | refine nX ?_ | (refine nA ?_; intro _) | (refine nW ?_; first | (refine op_call_id ?_; refine op_call rfl (c_servCopied c ct tt (hca.mono (by exact kS)) hcl.1 hcl.2) rfl ?_; rintro _ _ ⟨c', t', e', rfl, ho', rfl⟩) | (refine go_append ?_; refine op_appendRow (sl := ⟨_, _, _⟩) (sx := ⟨_, _, _⟩) rfl rfl rfl rfl rfl rfl rfl rfl rfl (hrow0) (by exact kE) (SliceAt.one (E := encServ) (x := (c, c', t')) (by exact kM) rfl) (by (simp only [hql, List.length_cons, List.length_nil, lim]; omega)) ?_; intro sl' es' hrow' hst')) | refine nY ?_ | refine WA_alt ?_ ?_ | refine nR ?_ | refine WC_drawL (id := 1) (ops := o39x1L28) r39x1L28 (by kernel_rfl) rfl ?_ | refine WC_drawL (id := 5) (ops := o39x5L28) r39x5L28 (by kernel_rfl) rfl ?_ | refine WC_draw (id := 10) (ops := o39x10L28) ([(b5, cellsO (servC c ct tt) 115), (b3, cellsO (worldC w ⟨sk, ⟨a2, n2, c2⟩, ⟨a3, n3, c3⟩, Sl.nil⟩) 43)]) r39x10L28 (by kernel_rfl) rfl ?_ | refine WC_drawL (id := 15) (ops := o39x15L28) r39x15L28 (by kernel_rfl) rfl ?_ | refine WC_drawL (id := 17) (ops := o39x17L28) r39x17L28 (by kernel_rfl) rfl ?_))
      obtain ⟨a9, n9, c9⟩ := sl'
      exact loopQ_next ⟨mz - 1, _, _, by omega, by exact kQ, by (try simp only [List.append_assoc]); exact kL, k + 1, rs ++ [(c, c', t')], a9, n9, c9, es', sa ++ e', by omega, rfl, rfl, by exact ⟨hrow', hall0.snoc ho', fst_next hy hmap0 rfl⟩⟩
    obtain ⟨hrow2, hall2, hmap2⟩ := hin
    rw [take_all hge, hse] at hmap2
    (repeat' (first | refine nX ?_ | (refine nA ?_; intro _) | refine nY ?_ | refine WA_alt ?_ ?_ | refine nR ?_ | refine WC_drawL (id := 1) (ops := o39x1L28) r39x1L28 (by kernel_rfl) rfl ?_ | refine WC_drawL (id := 5) (ops := o39x5L28) r39x5L28 (by kernel_rfl) rfl ?_ | refine WC_drawL (id := 10) (ops := o39x10L28) r39x10L28 (by kernel_rfl) rfl ?_ | refine WC_drawL (id := 15) (ops := o39x15L28) r39x15L28 (by kernel_rfl) rfl ?_ | refine WC_drawL (id := 17) (ops := o39x17L28) r39x17L28 (by kernel_rfl) rfl ?_ | refine WC_condT rfl (by exact kD) ?_ | refine WC_condF rfl (by exact kD) ?_ | refine WC_cond rfl (fun hc => ?_) (fun hc => ?_)))
    clear hk hge
    refine WC_loop (fun mz Ez Mz => ∃ (k : Nat) (us : List (Msg × Sl)) (a6 : Option Addr) (n6 c6 : Nat) (el la : List Ent), k + mz = (ms).length ∧ Ez = [(2, .pointer (some ⟨b2, 0, none⟩)), (3, .pointer (some ⟨b3, 0, none⟩)), (49, .slice a5 ms.length c5), (50, I ms.length), (51, I k)] ∧ Mz = (b2, cellsO (worldC World.zero WSl.nil) 43) :: (b3, cellsO (worldC w ⟨sk, ⟨a2, n2, c2⟩, ⟨a3, n3, c3⟩, ⟨a6, n6, c6⟩⟩) 43) :: (ek ++ (ec ++ (ca ++ (ed ++ (sa ++ (el ++ (la ++ L))))))) ∧ (Row encMsg 47 ⟨a6, n6, c6⟩ us el ∧ All MsgOwn us la ∧ us.map Prod.fst = (ms.take k).map Prod.fst)) (ms).length (by exact kQ) (by exact kL) ⟨0, [], none, 0, 0, [], [], by omega, rfl, rfl, by exact ⟨Row.nil, rfl, rfl⟩⟩ ?_
    rintro mz Ez Mz ⟨k, us, a6, n6, c6, el, la, hk, rfl, rfl, hin⟩
    rcases Nat.lt_or_ge k (ms).length with hlt | hge
    · obtain ⟨hrow0, hall0, hmap0⟩ := hin
      obtain ⟨⟨c, s⟩, hy⟩ : ∃ y, ms[k]? = some y := ⟨ms[k]'(by omega), by simp [hlt]⟩
      obtain ⟨b', o', cs', T', fr', rfl, hm', hrw⟩ := hat5 (by omega)
      have hrow'' := hrw k _ hy
      have hca := hma _ (List.mem_of_getElem? hy)
      have hcl := hl.ms c (mem_fst hme (List.mem_of_getElem? hy))
      have hql : us.length = k := by have := congrArg List.length hmap0; simp at this; omega
      (repeat' (first | refine nX ?_ | (refine nA ?_; intro _) | refine nY ?_ | refine WA_alt ?_ ?_ | refine nR ?_ | refine WC_drawL (id := 1) (ops := o39x1L28) r39x1L28 (by kernel_rfl) rfl ?_ | refine WC_drawL (id := 5) (ops := o39x5L28) r39x5L28 (by kernel_rfl) rfl ?_ | refine WC_drawL (id := 10) (ops := o39x10L28) r39x10L28 (by kernel_rfl) rfl ?_ | refine WC_drawL (id := 17) (ops := o39x17L28) r39x17L28 (by kernel_rfl) rfl ?_ | refine WC_condT rfl (by exact kD) ?_ | refine WC_condF rfl (by exact kD) ?_ | refine WC_cond rfl (fun hc => ?_) (fun hc => ?_)))
      rename_i b5
      (repeat' (first | refine nX ?_ | (refine nA ?_; intro _) | (refine nW ?_; first | (refine op_call_id ?_; refine op_call rfl (c_msgCopied c s (hca.mono (by exact kS)) hcl) rfl ?_; rintro _ _ ⟨s', e', rfl, ho', rfl⟩) | (refine go_append ?_; refine op_appendRow (sl := ⟨_, _, _⟩) (sx := ⟨_, _, _⟩) rfl rfl rfl rfl rfl rfl rfl rfl rfl (hrow0) (by exact kE) (SliceAt.one (E := encMsg) (x := (c, s')) (by exact kM) rfl) (by (simp only [hql, List.length_cons, List.length_nil, lim]; omega)) ?_; intro sl' es' hrow' hst')) | refine nY ?_ | refine WA_alt ?_ ?_ | refine nR ?_ | refine WC_drawL (id := 1) (ops := o39x1L28) r39x1L28 (by kernel_rfl) rfl ?_ | refine WC_drawL (id := 5) (ops := o39x5L28) r39x5L28 (by kernel_rfl) rfl ?_ | refine WC_drawL (id := 10) (ops := o39x10L28) r39x10L28 (by kernel_rfl) rfl ?_ | refine WC_draw (id := 15) (ops := o39x15L28) ([(b5, cellsO (msgC c s) 47), (b3, cellsO (worldC w ⟨sk, ⟨a2, n2, c2⟩, ⟨a3, n3, c3⟩, ⟨a6, n6, c6⟩⟩) 43)]) r39x15L28 (by kernel_rfl) rfl ?_ | refine WC_drawL (id := 17) (ops := o39x17L28) r39x17L28 (by kernel_rfl) rfl ?_))
      obtain ⟨a9, n9, c9⟩ := sl'
      exact loopQ_next ⟨mz - 1, _, _, by omega, by exact kQ, by (try simp only [List.append_assoc]); exact kL, k + 1, us ++ [(c, s')], a9, n9, c9, es', la ++ e', by omega, rfl, rfl, by exact ⟨hrow', hall0.snoc ho', fst_next hy hmap0 rfl⟩⟩
    obtain ⟨hrow3, hall3, hmap3⟩ := hin
    rw [take_all hge, hme] at hmap3
    (repeat' (first | refine nX ?_ | (refine nA ?_; intro _) | (refine nW ?_; first | (refine op_call_id ?_; refine op_ro rfl rfl (by first | exact c_clipimpl.Client _ _ _ hrow1.1.le_cap | exact c_clipimpl.Serv _ _ _ hrow2.1.le_cap | exact c_clipimpl.Msg _ _ _ hrow3.1.le_cap) ?_)) | refine nY ?_ | refine WA_alt ?_ ?_ | refine nR ?_ | refine WC_drawL (id := 1) (ops := o39x1L28) r39x1L28 (by kernel_rfl) rfl ?_ | refine WC_drawL (id := 5) (ops := o39x5L28) r39x5L28 (by kernel_rfl) rfl ?_ | refine WC_drawL (id := 10) (ops := o39x10L28) r39x10L28 (by kernel_rfl) rfl ?_ | refine WC_drawL (id := 15) (ops := o39x15L28) r39x15L28 (by kernel_rfl) rfl ?_ | refine WC_drawL (id := 17) (ops := o39x17L28) r39x17L28 (by kernel_rfl) rfl ?_ | refine WC_condT rfl (by exact kD) ?_ | refine WC_condF rfl (by exact kD) ?_ | refine WC_cond rfl (fun hc => ?_) (fun hc => ?_)))
    obtain ⟨f1, hf1, hq1⟩ := hrow1.clip
    obtain ⟨f2, hf2, hq2⟩ := hrow2.clip
    obtain ⟨f3, hf3, hq3⟩ := hrow3.clip
    refine ret_ret (by exact kR) ?_; exact ⟨wldE ek f1 ca f2 sa f3 la ++ L, SubP.trans (M := ek ++ (ec ++ (ca ++ (ed ++ (sa ++ (el ++ (la ++ L))))))) (by exact kP) (by simp only [wldE, List.append_assoc]; exact SubP.front (.refl _) (SubP.trans (hf1 _) (SubP.front (.refl _) (SubP.front (.refl _) (SubP.trans (hf2 _) (SubP.front (.refl _) (SubP.front (.refl _) (hf3 _)))))))), ⟨sk, ⟨a2, n2, n2⟩, ⟨a3, n3, n3⟩, ⟨a6, n6, n6⟩⟩, qs, rs, us, ek, f1, ca, f2, sa, f3, la, rfl, ⟨hrk, hmap1, hq1, hall1, hmap2, hq2, hall2, hmap3, hq3, hall3⟩, rfl⟩
end Go.Proofs.YtoledfhjmdpihaaGreat
/- What one comes to. -/
set_option linter.unusedVariables false
set_option linter.unusedSectionVars false
set_option linter.unusedSimpArgs false
namespace Go.Proofs.YtoledfhjmdpihaaGreat
open Go Go.Proofs Go.Proofs.YtoledfhjmdpihaaGreat.VE
attribute [local irreducible] Val Op1 WO WR WA WC seqQ blockQ loopQ retQ
set_option maxHeartbeats 4000000
def ringC (f : Nat → Bool) : List Value := (List.range 61).map fun i => B (f i)
theorem ring_len (f : Nat → Bool) : (ringC f).length = 61 := by simp [ringC]
theorem ring_get (f : Nat → Bool) {key : Int} (h : 0 ≤ key ∧ key ≤ 60) : (ringC f)[0 + key.toNat * 1]? = some (B (f key.toNat)) := by
  have h1 : key.toNat < 61 := by omega
  have h2 : 0 + key.toNat * 1 = key.toNat := by omega
  rw [h2]
  simp only [ringC, List.getElem?_map, List.getElem?_range h1, Option.map_some]
theorem ring_blt (f : Nat → Bool) {key : Int} (h : 0 ≤ key ∧ key ≤ 60) : Nat.blt (0 + key.toNat * 1) (ringC f).length = true := by
  rw [ring_len, Nat.blt_eq]; omega
def ringPut (f : Nat → Bool) (k : Nat) (i : Nat) : Bool := i == k || f i
theorem ring_set (f : Nat → Bool) {key : Int} (h : 0 ≤ key ∧ key ≤ 60) : (ringC f).set (0 + key.toNat * 1) (B true) = ringC (ringPut f key.toNat) := by
  have h2 : 0 + key.toNat * 1 = key.toNat := by omega
  rw [h2]
  apply List.ext_getElem?
  intro i
  by_cases hi : key.toNat = i
  · subst hi
    rw [List.getElem?_set_self (by rw [ring_len]; omega)]
    have h1 : key.toNat < 61 := by omega
    simp only [ringC, List.getElem?_map, List.getElem?_range h1, Option.map_some, ringPut, beq_self_eq_true, Bool.true_or]
  · rw [List.getElem?_set_ne hi]
    simp only [ringC, List.getElem?_map]
    rcases Nat.lt_or_ge i 61 with h1 | h1
    · rw [List.getElem?_range h1]
      simp only [Option.map_some, ringPut, show (i == key.toNat) = false from by simp; omega, Bool.false_or]
    · rw [List.getElem?_eq_none (by simpa using h1)]; rfl
def cnt (f : Nat → Bool) : Nat := ((List.range 61).filter fun i => !f i).length
theorem filter_le {p q : Nat → Bool} : ∀ l : List Nat, (∀ i ∈ l, q i = true → p i = true) → (l.filter q).length ≤ (l.filter p).length
  | [], _ => Nat.le_refl _
  | x :: r, h => by
    have ih := filter_le r (fun i hi => h i (List.mem_cons_of_mem _ hi))
    have hx := h x List.mem_cons_self
    simp only [List.filter_cons]
    cases hq : q x <;> cases hp : p x <;> simp_all <;> omega
theorem filter_lt {p q : Nat → Bool} : ∀ l : List Nat, (∀ i ∈ l, q i = true → p i = true) → (∃ i ∈ l, p i = true ∧ q i = false) → (l.filter q).length < (l.filter p).length
  | [], _, ⟨i, h, _⟩ => by cases h
  | x :: r, h, ⟨i, hi, h1, h2⟩ => by
    have ih := filter_le r (fun i hi => h i (List.mem_cons_of_mem _ hi))
    have hx := h x List.mem_cons_self
    simp only [List.filter_cons]
    rcases List.mem_cons.1 hi with rfl | hi
    · simp [h1, h2]; omega
    · have ih2 := filter_lt r (fun i hi => h i (List.mem_cons_of_mem _ hi)) ⟨i, hi, h1, h2⟩
      cases hq : q x <;> cases hp : p x <;> simp_all <;> omega
theorem cnt_put {f : Nat → Bool} {k : Nat} (hk : k < 61) (hf : f k = false) : cnt (ringPut f k) < cnt f :=
  filter_lt _ (fun i _ h => by simp [ringPut] at h ⊢; exact h.2) ⟨k, List.mem_range.2 hk, by simp [hf], by simp [ringPut]⟩
theorem sealHolds_range {s : Seal} (h : 0 < sealHolds s) : (10 ≤ sealHolds s ∧ sealHolds s ≤ 60) ∧ sealOk s = true := by
  unfold sealHolds at h ⊢
  split at h
  · rename_i hok
    rw [if_pos hok]
    refine ⟨?_, hok⟩
    have := sealOk_cases hok
    unfold holds at h ⊢
    split at h
    · rw [if_pos (by assumption)]; omega
    split at h
    · rw [if_neg (by assumption), if_pos (by assumption)]; omega
    · omega
  · omega
/-- The rings found so far are right. -/
structure RingIn (keys : List Int) (seals : List Seal) (f : Nat → Bool) : Prop where
  sound : ∀ i : Nat, f i = true → Comes keys seals (i : Int)
  range : ∀ i : Nat, f i = true → 1 ≤ i ∧ i ≤ 60
def closedAt (f : Nat → Bool) (s : Seal) : Prop := 0 < sealHolds s → (within s.key 1 60 && f s.key.toNat) = true → f (sealHolds s).toNat = true
/-- All that one comes to, as a ring. -/
def Ring (keys : List Int) (seals : List Seal) (f : Nat → Bool) : Prop := ∀ key : Int, (within key 1 60 && f key.toNat) = comes keys seals key
theorem ring_of {keys : List Int} {seals : List Seal} {f : Nat → Bool} (h : RingIn keys seals f) (hk : ∀ x ∈ keys, within x 1 60 = true → f x.toNat = true) (hc : ∀ s ∈ seals, closedAt f s) : Ring keys seals f := by
  have hall : ∀ key, Comes keys seals key → (within key 1 60 && f key.toNat) = true := by
    intro key hcm
    induction hcm with
    | has h1 h2 => rw [h2, hk _ h1 h2]; rfl
    | opens h1 _ h3 ih =>
      have hr := sealHolds_range h3
      have := hc _ h1 h3 ih
      rw [this, within_iff.2 (show 1 ≤ _ ∧ _ ≤ 60 by omega)]; rfl
  intro key
  rw [Bool.eq_iff_iff]
  constructor
  · intro h1
    simp only [Bool.and_eq_true] at h1
    have h2 := within_iff.1 h1.1
    have h3 := h.sound _ h1.2
    rw [show ((key.toNat : Nat) : Int) = key by omega] at h3
    exact @decide_eq_true _ (Classical.propDecidable _) h3
  · intro h1
    exact hall key (@of_decide_eq_true _ (Classical.propDecidable _) h1)
theorem ringIn_put {keys : List Int} {seals : List Seal} {f : Nat → Bool} {k : Int} (h : RingIn keys seals f) (hk : 1 ≤ k ∧ k ≤ 60) (hc : Comes keys seals k) : RingIn keys seals (ringPut f k.toNat) := by
  constructor
  · intro i hi
    simp only [ringPut, Bool.or_eq_true, beq_iff_eq] at hi
    rcases hi with rfl | hi
    · rwa [show ((k.toNat : Nat) : Int) = k by omega]
    · exact h.sound i hi
  · intro i hi
    simp only [ringPut, Bool.or_eq_true, beq_iff_eq] at hi
    rcases hi with rfl | hi
    · omega
    · exact h.range i hi
theorem ringPut_keep {f : Nat → Bool} {k i : Nat} (h : f i = true) : ringPut f k i = true := by simp [ringPut, h]
theorem c_has {L : List Ent} (b : Nat) (f : Nat → Bool) (key : Int) (hm : (b, cellsO (ringC f) 239) ∈ L) : RO Tryz.prog 183 [.pointer (some ⟨b, 0, none⟩), I key] L (B (within key 1 60 && f key.toNat)) := by
  cases hw : within key 1 60 with
  | false =>
    refine Tri.of Tryz.func183 rfl rfl Tryz.ntmps183 rfl rfl ?_
    (repeat' (first | refine nX ?_ | (refine nA ?_; intro _) | (refine nW ?_; first | (refine op_call_id ?_; refine op_ro rfl rfl (by exact (c_within _ _ _).eq (congrArg B hw)) ?_)) | refine nY ?_ | refine nR ?_))
    refine ro_ret (by exact kR) (by exact kL) ?_; rfl
  | true =>
    have hk := within_iff.1 hw
    have hk' : 0 ≤ key ∧ key ≤ 60 := by omega
    refine Tri.of Tryz.func183 rfl rfl Tryz.ntmps183 rfl rfl ?_
    (repeat' (first | refine nX ?_ | (refine nA ?_; intro _) | (refine nW ?_; first | (refine op_call_id ?_; refine op_ro rfl rfl (by exact (c_within _ _ _).eq (congrArg B hw)) ?_) | (refine op_load_id ?_; refine op_val rfl (by exact val_load1 rfl rfl rfl (by exact kM) (ring_get f hk')) ?_)) | refine nY ?_ | refine nR ?_))
    refine ro_ret (by exact kR) (by exact kL) ?_; rfl
theorem c_ringOf0 {L : List Ent} (sk ss : Sl) (keys : List Int) (seals : List Seal) (hk : SliceAt L encInt sk keys) (hs : SliceAt L encSeal ss seals) :
    Tri Tryz.prog 179 [sk.v, ss.v] L (fun v L' => ∃ b f, v = .pointer (some ⟨b, 0, none⟩) ∧ Ring keys seals f ∧ f 0 = false ∧ L' = (b, cellsO (ringC f) 239) :: L) := by
  obtain ⟨ak, nk, ck⟩ := sk
  obtain ⟨as_, ns, cs⟩ := ss
  obtain ⟨hn1, hc1, hb1, hat1⟩ := hk
  obtain ⟨hn2, hc2, hb2, hat2⟩ := hs
  dsimp only at hn1 hn2 hat1 hat2
  subst hn1 hn2
  simp only [big] at hb1 hb2
  refine Tri.of Tryz.func179 rfl rfl Tryz.ntmps179 rfl rfl ?_
  (repeat' (first | refine nX ?_ | (refine nA ?_; intro _) | (refine nW ?_; first | refine op_val rfl (by (apply gv_build; exact val_buildArr0 rfl rfl)) ?_) | refine nY ?_ | refine nR ?_))
  rename_i br
  refine WC_loop (fun mz Ez Mz => ∃ (k : Nat) (f : Nat → Bool), k + mz = (keys).length ∧ Ez = [(1, .slice as_ seals.length cs), (5, .pointer (some ⟨br, 0, none⟩)), (14, .slice ak keys.length ck), (15, I keys.length), (16, I k)] ∧ Mz = (br, cellsO (ringC f) 239) :: L ∧ (RingIn keys seals f ∧ (∀ x ∈ keys.take k, within x 1 60 = true → f x.toNat = true))) (keys).length (by exact kQ) (by exact kL) ⟨0, (fun _ => false), by omega, rfl, rfl, by exact ⟨⟨by simp, by simp⟩, by simp⟩⟩ ?_
  rintro mz Ez Mz ⟨k, f, hk, rfl, rfl, hin⟩
  rcases Nat.lt_or_ge k (keys).length with hlt | hge
  · obtain ⟨hri, hks⟩ := hin
    obtain ⟨y2, hy2⟩ : ∃ y, (keys)[k]? = some y := ⟨(keys)[k]'(by omega), by simp [hlt]⟩; obtain ⟨b'2, o2, cs2, T2, fr2, rfl, hm2, hrow2⟩ := hat1 (by omega); have hrow'2 := hrow2 k y2 hy2; have htk2 := take_next hy2
    cases hw : within y2 1 60 with
    | false =>
      (repeat' (first | refine nX ?_ | (refine nA ?_; intro _) | (refine nW ?_; first | (refine op_call_id ?_; refine op_ro rfl rfl (by exact (c_within _ _ _).eq (congrArg B hw)) ?_)) | refine nY ?_ | refine nR ?_ | refine WC_condT rfl (by exact kD) ?_ | refine WC_condF rfl (by exact kD) ?_ | refine WC_cond rfl (fun hc => ?_) (fun hc => ?_)))
      exact loopQ_next ⟨mz - 1, _, _, by omega, by exact kQ, by exact kL, k + 1, f, by omega, rfl, rfl, by (refine ⟨hri, ?_⟩; rw [htk2]; exact all_next hks (fun h => by rw [hw] at h; cases h))⟩
    | true =>
      have hy := within_iff.1 hw
      have hy' : 0 ≤ y2 ∧ y2 ≤ 60 := by omega
      (repeat' (first | refine nX ?_ | (refine nA ?_; intro _) | (refine nW ?_; first | (refine op_call_id ?_; refine op_ro rfl rfl (by exact (c_within _ _ _).eq (congrArg B hw)) ?_) | (refine op_store_id ?_; (refine op_store1 rfl rfl rfl rfl rfl (by exact kF) (ring_blt f hy') (ring_set f hy') ?_))) | refine nY ?_ | refine nR ?_ | refine WC_condT rfl (by exact kD) ?_ | refine WC_condF rfl (by exact kD) ?_ | refine WC_cond rfl (fun hc => ?_) (fun hc => ?_)))
      exact loopQ_next ⟨mz - 1, _, _, by omega, by exact kQ, by exact kL, k + 1, ringPut f y2.toNat, by omega, rfl, rfl, by (refine ⟨ringIn_put hri hy (.has (List.mem_of_getElem? hy2) hw), ?_⟩; rw [htk2]; exact all_next (fun x hx h => ringPut_keep (hks x hx h)) (fun _ => by simp [ringPut]))⟩
  obtain ⟨hri0, hks0⟩ := hin
  rw [take_all hge] at hks0
  (repeat' (first | refine nX ?_ | (refine nA ?_; intro _) | refine nY ?_ | refine nR ?_ | refine WC_condT rfl (by exact kD) ?_ | refine WC_condF rfl (by exact kD) ?_ | refine WC_cond rfl (fun hc => ?_) (fun hc => ?_)))
  clear hk hge
  refine WC_loop (fun mz Ez Mz => ∃ (f : Nat → Bool) (ch : Bool), 2 * cnt f + (if ch then 1 else 0) = mz ∧ Ez = [(1, .slice as_ seals.length cs), (5, .pointer (some ⟨br, 0, none⟩)), (8, B ch)] ∧ Mz = (br, cellsO (ringC f) 239) :: L ∧ RingIn keys seals f ∧ (∀ x ∈ keys, within x 1 60 = true → f x.toNat = true) ∧ (ch = false → ∀ s ∈ seals, closedAt f s)) (2 * cnt f + 1) (by exact kQ) (by exact kL) ⟨f, true, rfl, rfl, rfl, hri0, hks0, fun h => by cases h⟩ ?_
  rintro mo Eo Mo ⟨f0, ch0, hmo, rfl, rfl, hri1, hks1, hcl1⟩
  cases ch0 with
  | false =>
    (repeat' (first | refine nX ?_ | (refine nA ?_; intro _) | refine nY ?_ | refine nR ?_ | refine WC_cond rfl (fun hc => ?_) (fun hc => ?_)))
    refine ret_ret (by exact kR) ?_; exact ⟨(br, cellsO (ringC f0) 239) :: L, by exact kP, br, f0, rfl, ring_of hri1 hks1 (hcl1 rfl), (by cases h0 : f0 0 with | false => rfl | true => have := hri1.range 0 h0; omega), rfl⟩
  | true =>
    simp only [if_true] at hmo
    (repeat' (first | refine nX ?_ | (refine nA ?_; intro _) | refine nY ?_ | refine nR ?_ | refine WC_cond rfl (fun hc => ?_) (fun hc => ?_)))
    refine WC_loop (fun mz Ez Mz => ∃ (k : Nat) (f : Nat → Bool) (ch : Bool), k + mz = (seals).length ∧ Ez = [(1, .slice as_ seals.length cs), (5, .pointer (some ⟨br, 0, none⟩)), (8, B ch), (28, .slice as_ seals.length cs), (29, I seals.length), (30, I k)] ∧ Mz = (br, cellsO (ringC f) 239) :: L ∧ (RingIn keys seals f ∧ (∀ x ∈ keys, within x 1 60 = true → f x.toNat = true) ∧ (ch = false → f = f0 ∧ ∀ s ∈ seals.take k, closedAt f s) ∧ (ch = true → cnt f < cnt f0))) (seals).length (by exact kQ) (by exact kL) ⟨0, f0, false, by omega, rfl, rfl, by exact ⟨hri1, hks1, fun _ => ⟨rfl, by simp⟩, fun h => by cases h⟩⟩ ?_
    rintro mz Ez Mz ⟨k, f, ch, hk, rfl, rfl, hin⟩
    rcases Nat.lt_or_ge k (seals).length with hlt | hge
    · obtain ⟨hri, hks, hcf, hct⟩ := hin
      obtain ⟨y2, hy2⟩ : ∃ y, (seals)[k]? = some y := ⟨(seals)[k]'(by omega), by simp [hlt]⟩; obtain ⟨b'2, o2, cs2, T2, fr2, rfl, hm2, hrow2⟩ := hat2 (by omega); have hrow'2 := hrow2 k y2 hy2; have htk2 := take_next hy2
      by_cases hpos : 0 < sealHolds y2
      rotate_left
      · (repeat' (first | (refine nW ?_; refine op_val rfl (by exact val_gtr_f rfl rfl (by omega)) ?_) | refine nX ?_ | (refine nA ?_; intro _) | (refine nW ?_; first | (refine op_call_id ?_; refine op_ro rfl rfl (by exact c_sealHolds y2) ?_)) | refine nY ?_ | refine nR ?_ | refine WC_condT rfl (by exact kD) ?_ | refine WC_condF rfl (by exact kD) ?_ | refine WC_cond rfl (fun hc => ?_) (fun hc => ?_)))
        exact loopQ_next ⟨mz - 1, _, _, by omega, by exact kQ, by exact kL, k + 1, f, ch, by omega, rfl, rfl, by exact ⟨hri, hks, fun h => ⟨(hcf h).1, by rw [htk2]; exact all_next (hcf h).2 (fun h1 => (hpos h1).elim)⟩, hct⟩⟩
      have hr := sealHolds_range hpos
      have hr' : 0 ≤ sealHolds y2 ∧ sealHolds y2 ≤ 60 := by omega
      cases hh : (within y2.key 1 60 && f y2.key.toNat) with
      | false =>
        (repeat' (first | (refine nW ?_; refine op_val rfl (by exact val_gtr_t rfl rfl hpos) ?_) | refine nX ?_ | (refine nA ?_; intro _) | (refine nW ?_; first | (refine op_call_id ?_; refine op_ro rfl rfl (by first | exact c_sealHolds y2 | exact (c_has br f _ (by exact kM)).eq (congrArg B hh)) ?_)) | refine nY ?_ | refine nR ?_ | refine WC_condT rfl (by exact kD) ?_ | refine WC_condF rfl (by exact kD) ?_ | refine WC_cond rfl (fun hc => ?_) (fun hc => ?_)))
        exact loopQ_next ⟨mz - 1, _, _, by omega, by exact kQ, by exact kL, k + 1, f, ch, by omega, rfl, rfl, by exact ⟨hri, hks, fun h => ⟨(hcf h).1, by rw [htk2]; exact all_next (hcf h).2 (fun _ h2 => by rw [hh] at h2; cases h2)⟩, hct⟩⟩
      | true =>
        cases hf : f (sealHolds y2).toNat with
        | true =>
          have hget := ring_get f hr'
          rw [hf] at hget
          (repeat' (first | (refine nW ?_; refine op_val rfl (by exact val_gtr_t rfl rfl hpos) ?_) | refine nX ?_ | (refine nA ?_; intro _) | (refine nW ?_; first | (refine op_call_id ?_; refine op_ro rfl rfl (by first | exact c_sealHolds y2 | exact (c_has br f _ (by exact kM)).eq (congrArg B hh)) ?_) | (refine op_load_id ?_; refine op_val rfl (by exact val_load1 rfl rfl rfl (by exact kM) hget) ?_)) | refine nY ?_ | refine nR ?_ | refine WC_condT rfl (by exact kD) ?_ | refine WC_condF rfl (by exact kD) ?_ | refine WC_cond rfl (fun hc => ?_) (fun hc => ?_)))
          exact loopQ_next ⟨mz - 1, _, _, by omega, by exact kQ, by exact kL, k + 1, f, ch, by omega, rfl, rfl, by exact ⟨hri, hks, fun h => ⟨(hcf h).1, by rw [htk2]; exact all_next (hcf h).2 (fun _ _ => hf)⟩, hct⟩⟩
        | false =>
          have hget := ring_get f hr'
          rw [hf] at hget
          have hcm : Comes keys seals (sealHolds y2) := by
            simp only [Bool.and_eq_true] at hh
            have h2 := within_iff.1 hh.1
            have h3 := hri.sound _ hh.2
            rw [show ((y2.key.toNat : Nat) : Int) = y2.key by omega] at h3
            exact .opens (List.mem_of_getElem? hy2) h3 hpos
          have hcnt := cnt_put (f := f) (k := (sealHolds y2).toNat) (by omega) hf
          have hcnt2 : cnt f ≤ cnt f0 := by
            cases hch : ch with
            | false => rw [(hcf hch).1]; exact Nat.le_refl _
            | true => exact Nat.le_of_lt (hct hch)
          (repeat' (first | (refine nW ?_; refine op_val rfl (by exact val_gtr_t rfl rfl hpos) ?_) | refine nX ?_ | (refine nA ?_; intro _) | (refine nW ?_; first | (refine op_call_id ?_; refine op_ro rfl rfl (by first | exact c_sealHolds y2 | exact (c_has br f _ (by exact kM)).eq (congrArg B hh)) ?_) | (refine op_store_id ?_; (refine op_store1 rfl rfl rfl rfl rfl (by exact kF) (ring_blt f hr') (ring_set f hr') ?_)) | (refine op_load_id ?_; refine op_val rfl (by exact val_load1 rfl rfl rfl (by exact kM) hget) ?_)) | refine nY ?_ | refine nR ?_ | refine WC_condT rfl (by exact kD) ?_ | refine WC_condF rfl (by exact kD) ?_ | refine WC_cond rfl (fun hc => ?_) (fun hc => ?_)))
          exact loopQ_next ⟨mz - 1, _, _, by omega, by exact kQ, by exact kL, k + 1, ringPut f (sealHolds y2).toNat, true, by omega, rfl, rfl, by exact ⟨ringIn_put hri (by omega) hcm, fun x hx h => ringPut_keep (hks x hx h), fun h => (by cases h), fun _ => by omega⟩⟩
    · obtain ⟨hri, hks, hcf, hct⟩ := hin
      rw [take_all hge] at hcf
      (repeat' (first | refine nX ?_ | (refine nA ?_; intro _) | refine nY ?_ | refine nR ?_ | refine WC_condT rfl (by exact kD) ?_ | refine WC_condF rfl (by exact kD) ?_ | refine WC_cond rfl (fun hc => ?_) (fun hc => ?_)))
      cases ch with
      | false =>
        obtain ⟨rfl, hcl⟩ := hcf rfl
        exact loopQ_next ⟨2 * cnt f, _, _, by omega, by exact kQ, by exact kL, f, false, by simp, rfl, rfl, hri, hks, fun _ => hcl⟩
      | true =>
        have := hct rfl
        exact loopQ_next ⟨2 * cnt f + 1, _, _, by omega, by exact kQ, by exact kL, f, true, by simp, rfl, rfl, hri, hks, fun h => by cases h⟩
theorem c_ringOf {L : List Ent} (sk ss : Sl) (keys : List Int) (seals : List Seal) (hk : SliceAt L encInt sk keys) (hs : SliceAt L encSeal ss seals) :
    Tri Tryz.prog 179 [sk.v, ss.v] L (fun v L' => ∃ b f, v = .pointer (some ⟨b, 0, none⟩) ∧ Ring keys seals f ∧ L' = (b, cellsO (ringC f) 239) :: L) :=
  (c_ringOf0 sk ss keys seals hk hs).mono fun v L' ⟨b, f, h1, h2, _, h3⟩ => ⟨b, f, h1, h2, h3⟩
theorem c_know1 {L : List Ent} (x : Seal) (b4 b7 br : Nat) (ss : Sl) (keys : List Int) (seals : List Seal) (f : Nat → Bool) (hf : Ring keys seals f) (h4 : (b4, cellsO [ss.v] 36) ∈ L) (h7 : (b7, cellsO [.pointer (some ⟨br, 0, none⟩)] 206) ∈ L) (hr : (br, cellsO (ringC f) 239) ∈ L) (hs : SliceAt L encSeal ss seals) :
    RO Tryz.prog 180 [sealV x, .pointer (some ⟨b4, 0, none⟩), .pointer (some ⟨b7, 0, none⟩)] L (B (!canMake keys seals x)) := by
  by_cases hin : x ∈ seals
  · refine Tri.of Tryz.func180 rfl rfl Tryz.ntmps180 rfl rfl ?_
    (repeat' (first | refine nX ?_ | (refine nA ?_; intro _) | (refine nW ?_; first | (refine op_call_id ?_; refine op_ro rfl rfl (by first | exact c_sealHolds x | exact (c_containsimpl.Seal ss seals x (hs.mono (by exact kS))).eq (congrArg B (decide_eq_true hin))) ?_)) | refine nY ?_ | refine nR ?_))
    refine ro_ret (by exact kR) (by exact kL) ?_; simp [packR, canMake, hin]
  cases hk : comes keys seals x.key with
  | false =>
    refine Tri.of Tryz.func180 rfl rfl Tryz.ntmps180 rfl rfl ?_
    (repeat' (first | refine nX ?_ | (refine nA ?_; intro _) | (refine nW ?_; first | (refine op_call_id ?_; refine op_ro rfl rfl (by first | exact c_sealHolds x | exact (c_containsimpl.Seal ss seals x (hs.mono (by exact kS))).eq (congrArg B (decide_eq_false hin)) | exact (c_has br f _ (by exact kM)).eq (congrArg B ((hf x.key).trans hk))) ?_)) | refine nY ?_ | refine nR ?_))
    refine ro_ret (by exact kR) (by exact kL) ?_; simp [packR, canMake, hin, hk]
  | true =>
    by_cases h0 : sealHolds x = 0
    · refine Tri.of Tryz.func180 rfl rfl Tryz.ntmps180 rfl rfl ?_
      (repeat' (first | (refine nW ?_; refine op_val rfl (by exact val_eql_t rfl rfl h0) ?_) | refine nX ?_ | (refine nA ?_; intro _) | (refine nW ?_; first | (refine op_call_id ?_; refine op_ro rfl rfl (by first | exact c_sealHolds x | exact (c_containsimpl.Seal ss seals x (hs.mono (by exact kS))).eq (congrArg B (decide_eq_false hin)) | exact (c_has br f _ (by exact kM)).eq (congrArg B ((hf x.key).trans hk))) ?_)) | refine nY ?_ | refine nR ?_))
      refine ro_ret (by exact kR) (by exact kL) ?_; simp [packR, canMake, hk, h0]
    · refine Tri.of Tryz.func180 rfl rfl Tryz.ntmps180 rfl rfl ?_
      (repeat' (first | (refine nW ?_; refine op_val rfl (by exact val_eql_f rfl rfl h0) ?_) | refine nX ?_ | (refine nA ?_; intro _) | (refine nW ?_; first | (refine op_call_id ?_; refine op_ro rfl rfl (by first | exact c_sealHolds x | exact (c_containsimpl.Seal ss seals x (hs.mono (by exact kS))).eq (congrArg B (decide_eq_false hin)) | exact (c_has br f _ (by exact kM)).eq (congrArg B ((hf x.key).trans hk)) | exact (c_has br f _ (by exact kM)).eq (congrArg B (hf (sealHolds x)))) ?_)) | refine nY ?_ | refine nR ?_))
      refine ro_ret (by exact kR) (by exact kL) ?_; simp [packR, canMake, hin, hk, h0]
theorem c_knowBuild {L : List Ent} (sk ss sm : Sl) (keys : List Int) (seals : List Seal) (m : Msg) (hk : SliceAt L encInt sk keys) (hs : SliceAt L encSeal ss seals) (hm : MsgAt L m sm) :
    RO Tryz.prog 101 [sk.v, ss.v, msgV m sm] L (B (knowBuild keys seals m)) := by
  cases hok : msgOk m with
  | false =>
    refine Tri.of Tryz.func101 rfl rfl Tryz.ntmps101 rfl rfl ?_
    (repeat' (first | refine nX ?_ | (refine nA ?_; intro _) | (refine nW ?_; first | (refine op_call_id ?_; refine op_ro rfl rfl (by exact (c_msgOk m _ (hm.mono (by exact kS))).eq (congrArg B hok)) ?_) | (refine op_call_id ?_; refine op_call rfl (c_ringOf sk ss keys seals (hk.mono (by exact kS)) (hs.mono (by exact kS))) rfl ?_; rintro _ _ ⟨br, f, rfl, hf, rfl⟩)) | refine nY ?_ | refine nR ?_))
    refine ro_ret (by exact kR) (by exact kL) ?_; simp [packR, knowBuild, hok]
  | true =>
    refine Tri.of Tryz.func101 rfl rfl Tryz.ntmps101 rfl rfl ?_
    (repeat' (first | refine nX ?_ | (refine nA ?_; intro _) | (refine nW ?_; first | (refine op_call_id ?_; refine op_ro rfl rfl (by first | exact (c_msgOk m _ (hm.mono (by exact kS))).eq (congrArg B hok) | exact c_containsFuncimpl.Seal sm m.seals _ [_, _] (fun x => !canMake keys seals x) (hm.mono (by exact kS)) (fun x _ => c_know1 x _ _ br ss keys seals f hf (by exact kM) (by exact kM) (by exact kM) (hs.mono (by exact kS)))) ?_) | (refine op_call_id ?_; refine op_call rfl (c_ringOf sk ss keys seals (hk.mono (by exact kS)) (hs.mono (by exact kS))) rfl ?_; rintro _ _ ⟨br, f, rfl, hf, rfl⟩)) | refine nY ?_ | refine nR ?_))
    refine ro_ret (by exact kR) (by exact kL) ?_; simp [packR, knowBuild, hok, List.all_eq_not_any_not]
end Go.Proofs.YtoledfhjmdpihaaGreat
/- Worlds: whatever happens. -/
set_option linter.unusedVariables false
set_option linter.unusedSectionVars false
set_option linter.unusedSimpArgs false
namespace Go.Proofs.YtoledfhjmdpihaaGreat
open Go Go.Proofs Go.Proofs.YtoledfhjmdpihaaGreat.VE
attribute [local irreducible] Val Op1 WO WR WA WC seqQ blockQ loopQ retQ
noncomputable def o40x14L30 : Array Oper := cops (cl (cr (cl (cr (cr (cr (cr (cr (cr (cr (cr (cr (cl (cr (cr (codeOf Tryz.f40))))))))))))))))
noncomputable def o40x9L30 : Array Oper := cops (cl (cr (cr (cr (cr (cr (cl (cr (cr (codeOf Tryz.f40))))))))))
noncomputable def r40x14L30 : Run := (.st 0 0 (.st 1 0 (.st 2 0 (.st 3 1 (.st 4 0 (.st 5 1 (.st 6 0 (.st 7 0 (.st 8 0 (.st 9 0 (.st 10 1 (.st 11 0 (.st 12 1 (.st 13 0 (.st 14 0 (.st 15 1 (.st 16 0 (.st 17 0 (.st 18 0 (.st 19 1 (.st 20 2 (.st 21 0 (.st 22 3 .done)))))))))))))))))))))))
noncomputable def r40x9L30 : Run := (.st 0 0 (.st 1 0 (.st 2 1 (.st 3 0 (.st 5 0 (.st 7 0 (.st 8 1 (.st 4 2 (.st 6 2 (.st 9 2 (.st 10 3 .done)))))))))))
set_option maxHeartbeats 4000000
theorem seals_len : ∀ (l : List Msg), (∀ m ∈ l, msgOk m = true) → (l.flatMap Msg.seals).length ≤ 2 * l.length
  | [], _ => by simp
  | m :: r, h => by
    have h1 := msgOk_shape (h m List.mem_cons_self)
    have h2 := seals_len r (fun x hx => h x (List.mem_cons_of_mem _ hx))
    simp only [List.flatMap_cons, List.length_append, List.length_cons]; omega
theorem msgOk_len {m : Msg} (h : msgOk m = true) : m.seals.length ≤ 2 := by
  have h1 := msgOk_shape h
  omega
def TookLe (n : Nat) (w : World) : Prop := ∀ s ∈ w.servs, s.took.length ≤ n
theorem TookLe.up {n m : Nat} {w : World} (h : TookLe n w) (hm : n ≤ m) : TookLe m w := fun s hs => Nat.le_trans (h s hs) hm
theorem TookLe.same {n : Nat} {w v : World} (h : TookLe n w) (e : v.servs = w.servs) : TookLe n v := fun s hs => h s (e ▸ hs)
theorem TookLe.send {n : Nat} {w : World} {m : Option Msg} (h : TookLe n w) : TookLe n (send w m) := by
  refine h.same ?_
  unfold Go.Proofs.YtoledfhjmdpihaaGreat.send
  split
  · rfl
  · split <;> rfl
theorem TookLe.setServ {n : Nat} {w : World} {i : Int} {s : Serv} (h : TookLe n w) (hs : s.took.length ≤ n) : TookLe n (setServ w i s) := by
  intro x hx
  rcases List.mem_or_eq_of_mem_set hx with hx | rfl
  · exact h x hx
  · exact hs
theorem servOf_took {n : Nat} {w : World} {i : Int} (h : TookLe n w) : (servOf w i).took.length ≤ n := by
  unfold servOf
  rw [List.getD_eq_getElem?_getD]
  cases hg : w.servs[(i - 4).toNat]? with
  | none => simp [servNew]
  | some s => exact h s (List.mem_of_getElem? hg)
theorem servHear_took {s : Serv} {m : Msg} {now : Int} : (servHear s m now).1.took.length ≤ s.took.length + 1 := by
  unfold servHear
  split
  · simp
  split <;> simp
theorem took_step {n : Nat} {w : World} {e : Event} (h : TookLe n w) : TookLe (n + 1) (step w e) := by
  have h' := h.up (Nat.le_succ n)
  unfold step
  split
  · unfold asks
    split
    · exact h'
    · exact TookLe.send (h'.same rfl)
  split
  · unfold bring
    split
    · unfold bringMsg
      split
      · exact TookLe.send (h'.same rfl)
      split
      · exact TookLe.send (h'.same rfl)
      split
      · exact TookLe.send (h'.setServ (Nat.le_trans servHear_took (Nat.succ_le_succ (servOf_took h))))
      split
      · exact h'
      · exact h'.same rfl
    · exact h'
  split
  · split
    · exact TookLe.send h'
    · exact h'
  split
  · exact h'.same rfl
  split
  · unfold fall
    split
    · exact h'.setServ (servOf_took h')
    · exact h'
  · exact h'
section
variable {L0 : List Ent} (bw : Nat) (w : World) (q : WSl) (ps : List (Client × CSl)) (ss : List (Serv × (Sl × Sl))) (ms : List (Msg × Sl)) (ek ec ca es sa el la : List Ent) (hw : WOk w) (hown : WldOwn w q ps ss ms ek ec ca es sa el la) (hte : TookLe 1500000 w) (e : Event) (se : Sl) (hm : MsgAt L0 e.msg se)
include hw hown hte hm
theorem c_do1 (hk : e.kind = 1 ∨ e.kind = 2 ∨ e.kind = 3) : Tri Tryz.prog 40 [.pointer (some ⟨bw, 0, none⟩), eventV e se] ((bw, cellsO (worldC w q) 43) :: (wldE ek ec ca es sa el la ++ L0)) (fun v L' => v = .tuple #[] ∧ WldR L0 bw (step w e) L') := by
  have he : step w e = asks w e.kind e.a e.b := by unfold step; rw [if_pos hk]
  rw [he]
  rcases hk with hk | hk | hk
  · refine Tri.of Tryz.func40 rfl rfl Tryz.ntmps40 rfl rfl ?_
    (repeat' (first | refine nI ?_ | (refine nA ?_; intro _) | (refine nW ?_; first | (refine op_call_id ?_; refine op_call rfl ((c_asks bw w q ps ss ms ek ec ca es sa el la hw hown e se).perm (front2 (by exact kF) (by exact kE))) rfl ?_; rintro _ _ ⟨rfl, hR⟩)) | refine nY ?_ | refine WA_alt ?_ ?_ | refine nR ?_ | refine WC_drawL (id := 9) (ops := o40x9L30) r40x9L30 (by kernel_rfl) rfl ?_ | refine WC_drawL (id := 14) (ops := o40x14L30) r40x14L30 (by kernel_rfl) rfl ?_ | refine WC_cond rfl (fun hc => ?_) (fun hc => ?_)))
    obtain ⟨M, h1, h2⟩ := WldR.sub (L0 := L0) hR (by exact kP)
    refine ret_normal (by exact kR) ?_; exact ⟨M, h1, rfl, h2⟩
  · refine Tri.of Tryz.func40 rfl rfl Tryz.ntmps40 rfl rfl ?_
    (repeat' (first | refine nI ?_ | (refine nA ?_; intro _) | (refine nW ?_; first | (refine op_call_id ?_; refine op_call rfl ((c_asks bw w q ps ss ms ek ec ca es sa el la hw hown e se).perm (front2 (by exact kF) (by exact kE))) rfl ?_; rintro _ _ ⟨rfl, hR⟩)) | refine nY ?_ | refine WA_alt ?_ ?_ | refine nR ?_ | refine WC_drawL (id := 9) (ops := o40x9L30) r40x9L30 (by kernel_rfl) rfl ?_ | refine WC_drawL (id := 14) (ops := o40x14L30) r40x14L30 (by kernel_rfl) rfl ?_ | refine WC_cond rfl (fun hc => ?_) (fun hc => ?_)))
    obtain ⟨M, h1, h2⟩ := WldR.sub (L0 := L0) hR (by exact kP)
    refine ret_normal (by exact kR) ?_; exact ⟨M, h1, rfl, h2⟩
  · refine Tri.of Tryz.func40 rfl rfl Tryz.ntmps40 rfl rfl ?_
    (repeat' (first | refine nI ?_ | (refine nA ?_; intro _) | (refine nW ?_; first | (refine op_call_id ?_; refine op_call rfl ((c_asks bw w q ps ss ms ek ec ca es sa el la hw hown e se).perm (front2 (by exact kF) (by exact kE))) rfl ?_; rintro _ _ ⟨rfl, hR⟩)) | refine nY ?_ | refine WA_alt ?_ ?_ | refine nR ?_ | refine WC_drawL (id := 9) (ops := o40x9L30) r40x9L30 (by kernel_rfl) rfl ?_ | refine WC_drawL (id := 14) (ops := o40x14L30) r40x14L30 (by kernel_rfl) rfl ?_ | refine WC_cond rfl (fun hc => ?_) (fun hc => ?_)))
    obtain ⟨M, h1, h2⟩ := WldR.sub (L0 := L0) hR (by exact kP)
    refine ret_normal (by exact kR) ?_; exact ⟨M, h1, rfl, h2⟩
theorem c_do4 (hk : e.kind = 4) : Tri Tryz.prog 40 [.pointer (some ⟨bw, 0, none⟩), eventV e se] ((bw, cellsO (worldC w q) 43) :: (wldE ek ec ca es sa el la ++ L0)) (fun v L' => v = .tuple #[] ∧ WldR L0 bw (step w e) L') := by
  have he : step w e = bring w e.a := by unfold step; rw [if_neg (by omega), if_pos hk]
  rw [he]
  refine Tri.of Tryz.func40 rfl rfl Tryz.ntmps40 rfl rfl ?_
  (repeat' (first | refine nI ?_ | (refine nA ?_; intro _) | (refine nW ?_; first | (refine op_call_id ?_; refine op_call rfl ((c_bring bw w q ps ss ms ek ec ca es sa el la hw hown e.a (fun s hs => by have := hte s hs; simp only [lim]; omega)).perm (front2 (by exact kF) (by exact kE))) rfl ?_; rintro _ _ ⟨rfl, hR⟩)) | refine nY ?_ | refine WA_alt ?_ ?_ | refine nR ?_ | refine WC_drawL (id := 9) (ops := o40x9L30) r40x9L30 (by kernel_rfl) rfl ?_ | refine WC_drawL (id := 14) (ops := o40x14L30) r40x14L30 (by kernel_rfl) rfl ?_ | refine WC_cond rfl (fun hc => ?_) (fun hc => ?_)))
  obtain ⟨M, h1, h2⟩ := WldR.sub (L0 := L0) hR (by exact kP)
  refine ret_normal (by exact kR) ?_; exact ⟨M, h1, rfl, h2⟩
theorem c_do5 (hk : e.kind = 5) : Tri Tryz.prog 40 [.pointer (some ⟨bw, 0, none⟩), eventV e se] ((bw, cellsO (worldC w q) 43) :: (wldE ek ec ca es sa el la ++ L0)) (fun v L' => v = .tuple #[] ∧ WldR L0 bw (step w e) L') := by
  have he : step w e = send w (if knowBuild (own w) (worldSeals w) e.msg then some e.msg else none) := by
    unfold step; rw [if_neg (by omega), if_neg (by omega), if_pos hk]; split <;> rfl
  rw [he]
  have hat := hown.at
  have hsl : (w.log.flatMap Msg.seals).length ≤ 1000 := by
    have h1 := seals_len w.log hw.ms
    have h2 := hw.ll
    omega
  refine Tri.of Tryz.func40 rfl rfl Tryz.ntmps40 rfl rfl ?_
  (repeat' (first | refine nI ?_ | (refine nA ?_; intro _) | refine nY ?_ | refine WA_alt ?_ ?_ | refine nR ?_ | refine WC_drawL (id := 14) (ops := o40x14L30) r40x14L30 (by kernel_rfl) rfl ?_ | refine WC_cond rfl (fun hc => ?_) (fun hc => ?_)))
  rename_i bx
  (repeat' (first | refine nX ?_ | (refine nA ?_; intro _) | (refine nW ?_; first | (refine op_call_id ?_; refine op_ro rfl rfl (by exact c_knowBuild ⟨ao, no, co⟩ ⟨al, nl, cl⟩ se (own w) (worldSeals w) e.msg (hro.atL (by exact kS)) (hrs.atL (by exact kS)) (hm.mono (by exact kS))) ?_) | (refine op_call_id ?_; refine op_call rfl (c_own bw w q (by exact kM)) rfl ?_; rintro _ _ ⟨⟨ao, no, co⟩, eo, rfl, hro, rfl⟩) | (refine op_call_id ?_; refine op_call rfl (c_seals bw w q ms (by exact kM) (hat.mr.mono (by exact kS)) hown.me (fun p hp => (hat.ma p hp).mono (by exact kS)) hsl) rfl ?_; rintro _ _ ⟨⟨al, nl, cl⟩, es2, rfl, hrs, rfl⟩) | (refine op_call_id ?_; refine op_call rfl (c_send bw w q ps ss ms ek ec ca es sa el la (front2 (by exact kF) (by exact kE)) hown e.msg se (knowBuild (own w) (worldSeals w) e.msg) hw.ll (fun _ => hm.mono (by exact kS)) (fun hb => by simp only [knowBuild, Bool.and_eq_true] at hb; have := msgOk_len hb.1; simp only [lim]; omega)) rfl ?_; rintro _ _ ⟨rfl, hR⟩)) | refine nY ?_ | refine WA_alt ?_ ?_ | refine nR ?_ | refine WC_draw (id := 9) (ops := o40x9L30) ([(bx, cellsO (eventC e se) 49)]) r40x9L30 (by kernel_rfl) rfl ?_ | refine WC_drawL (id := 14) (ops := o40x14L30) r40x14L30 (by kernel_rfl) rfl ?_))
  obtain ⟨M, h1, h2⟩ := WldR.sub (L0 := L0) hR (by exact kP)
  refine ret_normal (by exact kR) ?_; exact ⟨M, h1, rfl, h2⟩
theorem c_do6 (hk : e.kind = 6) : Tri Tryz.prog 40 [.pointer (some ⟨bw, 0, none⟩), eventV e se] ((bw, cellsO (worldC w q) 43) :: (wldE ek ec ca es sa el la ++ L0)) (fun v L' => v = .tuple #[] ∧ WldR L0 bw (step w e) L') := by
  have he : step w e = tick w := by unfold step; rw [if_neg (by omega), if_neg (by omega), if_neg (by omega), if_pos hk]
  rw [he]
  refine Tri.of Tryz.func40 rfl rfl Tryz.ntmps40 rfl rfl ?_
  (repeat' (first | refine nI ?_ | (refine nA ?_; intro _) | (refine nW ?_; first | (refine op_call_id ?_; refine op_call rfl ((c_tick bw w q hw.now).perm (by exact kF)) rfl ?_; rintro _ _ ⟨rfl, rfl⟩)) | refine nY ?_ | refine WA_alt ?_ ?_ | refine nR ?_ | refine WC_drawL (id := 9) (ops := o40x9L30) r40x9L30 (by kernel_rfl) rfl ?_ | refine WC_drawL (id := 14) (ops := o40x14L30) r40x14L30 (by kernel_rfl) rfl ?_ | refine WC_cond rfl (fun hc => ?_) (fun hc => ?_)))
  refine ret_normal (by exact kR) ?_; exact ⟨(bw, cellsO (worldC (tick w) q) 43) :: (wldE ek ec ca es sa el la ++ L0), by exact kP, rfl, q, ps, ss, ms, ek, ec, ca, es, sa, el, la, ⟨hown.kc, hown.pe, hown.pr, hown.pa, hown.se, hown.sr, hown.sa, hown.me, hown.mr, hown.ma⟩, rfl⟩
theorem c_do7 (hk : e.kind = 7) (hb : servOk e.b = true) : Tri Tryz.prog 40 [.pointer (some ⟨bw, 0, none⟩), eventV e se] ((bw, cellsO (worldC w q) 43) :: (wldE ek ec ca es sa el la ++ L0)) (fun v L' => v = .tuple #[] ∧ WldR L0 bw (step w e) L') := by
  have hbr := within_iff.1 hb
  have hsl := hw.sl
  obtain ⟨sv, hsvi⟩ : ∃ sv, w.servs[(e.b - 4).toNat]? = some sv := ⟨w.servs[(e.b - 4).toNat]'(by omega), List.getElem?_eq_getElem _⟩
  have hso : servOf w e.b = sv := getD_some hsvi
  have hsok := (hw.ss _ _ hsvi).1
  have he : step w e = { w with servs := w.servs.set (e.b - 4).toNat (servFall sv w.now) } := by
    unfold step; rw [if_neg (by omega), if_neg (by omega), if_neg (by omega), if_neg (by omega), if_pos hk]; unfold fall; rw [if_pos hb, hso]; rfl
  rw [he]
  obtain ⟨cs, ts, g, gcap, c, e1, e2, hq, hc, rfl, hperm, hown1, hback⟩ := hown.srv hsvi
  rw [hw.sl] at hq
  obtain ⟨kc, cs', ss', ls⟩ := q
  dsimp only at hq; subst hq
  have htk : takeC (putC c (0 + (e.b - 4).toNat * 4) (servC sv cs ts)) (0 + (e.b - 4).toNat * 4) 4 = some (servC sv cs ts) := takeC_putC (cs := servC sv cs ts) hc
  have hsat := hown1.at
  have htk2 := hte sv (List.mem_of_getElem? hsvi)
  refine Tri.perm ?_ ((wldE_sa hperm).cons _)
  simp only [wldE, List.append_assoc, List.cons_append, List.nil_append]
  refine Tri.of Tryz.func40 rfl rfl Tryz.ntmps40 rfl rfl ?_
  (repeat' (first | refine nI ?_ | (refine nA ?_; intro _) | (refine nW ?_; first | (refine op_call_id ?_; refine op_ro rfl rfl (by exact (c_servOk _).eq (congrArg B hb)) ?_)) | refine nY ?_ | refine WA_alt ?_ ?_ | refine nR ?_ | refine WC_drawL (id := 9) (ops := o40x9L30) r40x9L30 (by kernel_rfl) rfl ?_ | refine WC_cond rfl (fun hc => ?_) (fun hc => ?_)))
  rename_i bx
  (repeat' (first | refine nX ?_ | (refine nA ?_; intro _) | (refine nW ?_; first | (refine op_store_id ?_; (refine op_storePut (cs := servC sv cs ts) rfl rfl rfl rfl rfl rfl (by exact kF) hc ?_)) | (refine op_call_id ?_; refine op_call rfl (c_servFall sv cs ts w.now (servOk'_iff.2 hsok) hw.now (hsat.mono (by exact kS)) (by simp only [lim]; omega)) rfl ?_; rintro _ _ ⟨c9, t9, e9, rfl, ho9, rfl⟩)) | refine nY ?_ | refine WA_alt ?_ ?_ | refine nR ?_ | refine WC_drawL (id := 9) (ops := o40x9L30) r40x9L30 (by kernel_rfl) rfl ?_ | refine WC_draw (id := 14) (ops := o40x14L30) ([(bx, cellsO (eventC e se) 49), (bw, cellsO (worldC w ⟨kc, cs', ⟨some ⟨g, 0, none⟩, 2, gcap⟩, ls⟩) 43), (g, cellsO (putC c (0 + (e.b - 4).toNat * 4) (servC sv cs ts)) 115)]) r40x14L30 (by kernel_rfl) rfl ?_))
  obtain ⟨ss9, sa9, hp9, hown9⟩ := hback _ _ _ _ ho9
  refine ret_normal (by exact kR) ?_; exact ⟨(bw, cellsO (worldC w ⟨kc, cs', ⟨some ⟨g, 0, none⟩, 2, gcap⟩, ls⟩) 43) :: (wldE ek ec ca [(g, cellsO (putC c (0 + (e.b - 4).toNat * 4) (servC (servFall sv w.now) c9 t9)) 115)] sa9 el la ++ L0), SubP.trans (M := (bw, cellsO (worldC w ⟨kc, cs', ⟨some ⟨g, 0, none⟩, 2, gcap⟩, ls⟩) 43) :: (wldE ek ec ca [(g, cellsO (putC c (0 + (e.b - 4).toNat * 4) (servC (servFall sv w.now) c9 t9)) 115)] (e9 ++ e2) el la ++ L0)) (by simp only [wldE, List.append_assoc, List.cons_append, List.nil_append]; exact kP) (Perm.sub ((wldE_sa hp9.symm).cons _)), rfl, _, _, _, _, _, _, _, _, _, _, _, hown9, rfl⟩
theorem c_do0 (hk : (e.kind < 1 ∨ 7 < e.kind) ∨ (e.kind = 7 ∧ servOk e.b = false)) : Tri Tryz.prog 40 [.pointer (some ⟨bw, 0, none⟩), eventV e se] ((bw, cellsO (worldC w q) 43) :: (wldE ek ec ca es sa el la ++ L0)) (fun v L' => v = .tuple #[] ∧ WldR L0 bw (step w e) L') := by
  have he : step w e = w := by
    unfold step; rw [if_neg (by omega), if_neg (by omega), if_neg (by omega), if_neg (by omega)]
    split
    · unfold fall
      rcases hk with hk | hk
      · omega
      · rw [if_neg (by simp [hk.2])]
    · rfl
  rw [he]
  rcases hk with hk | ⟨hk, hb⟩
  · refine Tri.of Tryz.func40 rfl rfl Tryz.ntmps40 rfl rfl ?_
    (repeat' (first | refine nI ?_ | (refine nA ?_; intro _) | refine nY ?_ | refine WA_alt ?_ ?_ | refine nR ?_ | refine WC_drawL (id := 9) (ops := o40x9L30) r40x9L30 (by kernel_rfl) rfl ?_ | refine WC_drawL (id := 14) (ops := o40x14L30) r40x14L30 (by kernel_rfl) rfl ?_ | refine WC_cond rfl (fun hc => ?_) (fun hc => ?_)))
    refine ret_normal (by exact kR) ?_; exact ⟨(bw, cellsO (worldC w q) 43) :: (wldE ek ec ca es sa el la ++ L0), by exact kP, rfl, q, ps, ss, ms, ek, ec, ca, es, sa, el, la, hown, rfl⟩
  · refine Tri.of Tryz.func40 rfl rfl Tryz.ntmps40 rfl rfl ?_
    (repeat' (first | refine nI ?_ | (refine nA ?_; intro _) | (refine nW ?_; first | (refine op_call_id ?_; refine op_ro rfl rfl (by exact (c_servOk _).eq (congrArg B hb)) ?_)) | refine nY ?_ | refine WA_alt ?_ ?_ | refine nR ?_ | refine WC_drawL (id := 9) (ops := o40x9L30) r40x9L30 (by kernel_rfl) rfl ?_ | refine WC_drawL (id := 14) (ops := o40x14L30) r40x14L30 (by kernel_rfl) rfl ?_ | refine WC_cond rfl (fun hc => ?_) (fun hc => ?_)))
    refine ret_normal (by exact kR) ?_; exact ⟨(bw, cellsO (worldC w q) 43) :: (wldE ek ec ca es sa el la ++ L0), by exact kP, rfl, q, ps, ss, ms, ek, ec, ca, es, sa, el, la, hown, rfl⟩
theorem c_do : Tri Tryz.prog 40 [.pointer (some ⟨bw, 0, none⟩), eventV e se] ((bw, cellsO (worldC w q) 43) :: (wldE ek ec ca es sa el la ++ L0)) (fun v L' => v = .tuple #[] ∧ WldR L0 bw (step w e) L') := by
  by_cases h1 : e.kind = 1 ∨ e.kind = 2 ∨ e.kind = 3
  · exact c_do1 bw w q ps ss ms ek ec ca es sa el la hw hown hte e se hm h1
  by_cases h4 : e.kind = 4
  · exact c_do4 bw w q ps ss ms ek ec ca es sa el la hw hown hte e se hm h4
  by_cases h5 : e.kind = 5
  · exact c_do5 bw w q ps ss ms ek ec ca es sa el la hw hown hte e se hm h5
  by_cases h6 : e.kind = 6
  · exact c_do6 bw w q ps ss ms ek ec ca es sa el la hw hown hte e se hm h6
  by_cases h7 : e.kind = 7
  · cases hb : servOk e.b with
    | false => exact c_do0 bw w q ps ss ms ek ec ca es sa el la hw hown hte e se hm (.inr ⟨h7, hb⟩)
    | true => exact c_do7 bw w q ps ss ms ek ec ca es sa el la hw hown hte e se hm h7 hb
  · exact c_do0 bw w q ps ss ms ek ec ca es sa el la hw hown hte e se hm (.inl (by omega))
end
end Go.Proofs.YtoledfhjmdpihaaGreat
/- Worlds: all events happen. -/
set_option linter.unusedVariables false
set_option linter.unusedSectionVars false
set_option linter.unusedSimpArgs false
namespace Go.Proofs.YtoledfhjmdpihaaGreat
open Go Go.Proofs Go.Proofs.YtoledfhjmdpihaaGreat.VE
attribute [local irreducible] Val Op1 WO WR WA WC seqQ blockQ loopQ retQ
set_option maxHeartbeats 4000000
theorem c_doP {L L0 : List Ent} (bw : Nat) (w : World) (q : WSl) (ps : List (Client × CSl)) (ss : List (Serv × (Sl × Sl))) (ms : List (Msg × Sl)) (ek ec ca es sa el la : List Ent) (hL : L.Perm ((bw, cellsO (worldC w q) 43) :: (wldE ek ec ca es sa el la ++ L0))) (hw : WOk w) (hown : WldOwn w q ps ss ms ek ec ca es sa el la) (hte : TookLe 1500000 w) (e : Event) (se : Sl) (hm : MsgAt L0 e.msg se) :
    Tri Tryz.prog 40 [.pointer (some ⟨bw, 0, none⟩), eventV e se] L (fun v L' => v = .tuple #[] ∧ WldR L0 bw (step w e) L') := (c_do bw w q ps ss ms ek ec ca es sa el la hw hown hte e se hm).perm hL
theorem wlim_of {w : World} {n : Nat} (hw : WOk w) (ht : TookLe n w) (hn : n ≤ 2000000) : WLim w := by
  refine ⟨?_, ?_, ?_, ?_, fun c hc => ?_, fun s hs => ?_, fun m hm => ?_⟩
  · have := hw.kdc.cache.len; simp only [lim]; omega
  · have := hw.cl; omega
  · have := hw.sl; omega
  · have := hw.ll; omega
  · obtain ⟨i, hi⟩ := List.getElem?_of_mem hc
    have h := (hw.cs i c hi).1
    have h1 := h.wl
    have h2 := h.cl
    have h3 := h.sl
    have h4 := h.ml
    simp only [lim]; omega
  · obtain ⟨i, hi⟩ := List.getElem?_of_mem hs
    have h := (hw.ss i s hi).1
    have h1 := h.cache.len
    have h2 := ht s hs
    simp only [lim]; omega
  · have := msgOk_len (hw.ms m hm)
    simp only [lim]; omega
theorem play_snoc (w : World) (es : List Event) (e : Event) : play w (es ++ [e]) = step (play w es) e := by simp [play]
theorem c_worldPlay0 {L : List Ent} (bad : Int) (sev : Sl) (evs : List (Event × Sl)) (hat : SliceAt L encEvent sev evs) (h : within bad 0 3 = false ∨ 70 < evs.length) : RO Tryz.prog 20 [I bad, sev.v] L (.tuple [worldV World.zero WSl.nil, B false].toArray) := by
  obtain ⟨a, n, c⟩ := sev
  obtain ⟨hn, _, hbig, _⟩ := hat
  dsimp only at hn
  subst hn
  simp only [big] at hbig
  cases hb : within bad 0 3 with
  | false =>
    refine Tri.of Tryz.func20 rfl rfl Tryz.ntmps20 rfl rfl ?_
    (repeat' (first | refine nI ?_ | (refine nA ?_; intro _) | (refine nW ?_; first | (refine op_call_id ?_; refine op_ro rfl rfl (by exact c_worldNew0 bad hb) ?_)) | refine nY ?_ | refine nR ?_ | refine WC_cond rfl (fun hc => ?_) (fun hc => ?_)))
    refine ro_ret (by exact kR) (by exact kL) ?_; rfl
  | true =>
    have h70 : 70 < evs.length := by
      rcases h with h | h
      · rw [hb] at h; cases h
      · exact h
    refine Tri.of Tryz.func20 rfl rfl Tryz.ntmps20 rfl rfl ?_
    (repeat' (first | refine nI ?_ | (refine nA ?_; intro _) | (refine nW ?_; first | (refine op_call_id ?_; refine op_call rfl (c_worldNew1 bad hb) rfl ?_; rintro _ _ ⟨q, ps, ss, ms, ek, ec, ca, es, sa, el, la, rfl, hown, rfl⟩)) | refine nY ?_ | refine nR ?_ | refine WC_cond rfl (fun hc => ?_) (fun hc => ?_)))
    refine ro_ret (by exact kR) (by exact kL) ?_; rfl
theorem c_worldPlay1 {L : List Ent} (bad : Int) (sev : Sl) (evs : List (Event × Sl)) (hat : SliceAt L encEvent sev evs) (hm : ∀ p ∈ evs, MsgAt L p.1.msg p.2) (hb : within bad 0 3 = true) (h70 : evs.length ≤ 70) :
    Tri Tryz.prog 20 [I bad, sev.v] L (fun v L' => ∃ q ps ss ms ek ec ca es sa el la, v = .tuple [worldV (play (worldNew bad) (evs.map Prod.fst)) q, B true].toArray ∧ WldOwn (play (worldNew bad) (evs.map Prod.fst)) q ps ss ms ek ec ca es sa el la ∧ L' = wldE ek ec ca es sa el la ++ L) := by
  obtain ⟨a, n, c⟩ := sev
  obtain ⟨hn, hc, hbig, hrd⟩ := hat
  dsimp only at hn hrd hc
  subst hn
  simp only [big] at hbig
  have hbb := within_iff.1 hb
  refine Tri.of Tryz.func20 rfl rfl Tryz.ntmps20 rfl rfl ?_
  (repeat' (first | refine nI ?_ | (refine nA ?_; intro _) | (refine nW ?_; first | (refine op_call_id ?_; refine op_call rfl (c_worldNew1 bad hb) rfl ?_; rintro _ _ ⟨q0, ps0, ss0, ms0, ek0, ec0, ca0, es0, sa0, el0, la0, rfl, hown0, rfl⟩)) | refine nY ?_ | refine nR ?_ | refine WC_cond rfl (fun hc => ?_) (fun hc => ?_)))
  rename_i b4 b6
  refine WC_loop (fun mz Ez Mz => ∃ (k : Nat) (w : World) (q : WSl) (ps : List (Client × CSl)) (ss : List (Serv × (Sl × Sl))) (ms : List (Msg × Sl)) (ek ec ca es sa el la : List Ent), k + mz = (evs).length ∧ Ez = [(4, .pointer (some ⟨b4, 0, none⟩)), (6, .pointer (some ⟨b6, 0, none⟩)), (23, .slice a evs.length c), (24, I evs.length), (25, I k)] ∧ Mz = (b6, cellsO (worldC w q) 43) :: (b4, cellsO (worldC World.zero WSl.nil) 43) :: (wldE ek ec ca es sa el la ++ L) ∧ (w = play (worldNew bad) ((evs.take k).map Prod.fst) ∧ WldOwn w q ps ss ms ek ec ca es sa el la ∧ WOk w ∧ TookLe k w)) (evs).length (by exact kQ) (by exact kL) ⟨0, worldNew bad, q0, ps0, ss0, ms0, ek0, ec0, ca0, es0, sa0, el0, la0, by omega, rfl, rfl, by exact ⟨rfl, hown0, new_ok hbb, fun s hs => by simp [worldNew, servNew] at hs; rcases hs with rfl | rfl <;> simp⟩⟩ ?_
  rintro mz Ez Mz ⟨k, w, q, ps, ss, ms, ek, ec, ca, es, sa, el, la, hk, rfl, rfl, hin⟩
  rcases Nat.lt_or_ge k (evs).length with hlt | hge
  · obtain ⟨hpl, hown, hok, htk⟩ := hin
    obtain ⟨⟨e, se⟩, hy⟩ : ∃ y, evs[k]? = some y := ⟨evs[k]'(by omega), by simp [hlt]⟩
    obtain ⟨b', o', cs', T', fr', rfl, hm', hrw⟩ := hrd (by omega)
    have hrow'' := hrw k _ hy
    have hme := hm _ (List.mem_of_getElem? hy)
    (repeat' (first | refine nI ?_ | (refine nA ?_; intro _) | (refine nW ?_; first | (refine op_call_id ?_; refine op_call rfl (c_doP b6 w q ps ss ms ek ec ca es sa el la (front2 (by exact kF) (by exact kE)) hok hown (htk.up (by omega)) e se (hme.mono (by exact kS))) rfl ?_; rintro _ _ ⟨rfl, q9, ps9, ss9, ms9, ek9, ec9, ca9, es9, sa9, el9, la9, ho9, rfl⟩)) | refine nY ?_ | refine nR ?_ | refine WC_cond rfl (fun hc => ?_) (fun hc => ?_)))
    exact loopQ_next ⟨mz - 1, _, _, by omega, by exact kQ, by exact kL, k + 1, step w e, q9, ps9, ss9, ms9, ek9, ec9, ca9, es9, sa9, el9, la9, by omega, rfl, rfl, by exact ⟨by rw [take_next hy, List.map_append, List.map_cons, List.map_nil, play_snoc, ← hpl], ho9, step_ok hok, took_step htk⟩⟩
  · obtain ⟨hpl, hown, hok, htk⟩ := hin
    rw [take_all hge] at hpl
    subst hpl
    (repeat' (first | refine nI ?_ | (refine nA ?_; intro _) | (refine nW ?_; first | (refine op_call_id ?_; refine op_call rfl (c_wldCopied (play (worldNew bad) (evs.map Prod.fst)) q ps ss ms (hown.at.mono (by exact kS)) (wlim_of hok htk (by omega))) rfl ?_; rintro _ _ ⟨q9, ps9, ss9, ms9, ek9, ec9, ca9, es9, sa9, el9, la9, rfl, ho9, rfl⟩)) | refine nY ?_ | refine nR ?_ | refine WC_cond rfl (fun hc => ?_) (fun hc => ?_)))
    refine ret_ret (by exact kR) ?_; exact ⟨wldE ek9 ec9 ca9 es9 sa9 el9 la9 ++ L, by exact kP, q9, ps9, ss9, ms9, ek9, ec9, ca9, es9, sa9, el9, la9, rfl, ho9, rfl⟩
end Go.Proofs.YtoledfhjmdpihaaGreat
