/- The law: what one does is nothing to others. -/
import Derived.Test.YtkdlkclanlkebaaGreatRows
import Derived.WalkKit
import Derived.ProofKit
import Derived.OpenShut
import Derived.ShutString
import Derived.ChangeOld
import Derived.Below
import Derived.Test.YtkdlkclanlkebaaGreatA20
import Derived.Test.YtkdlkclanlkebaaGreatA14
set_option linter.unusedVariables false
set_option linter.unusedSectionVars false
set_option linter.unusedSimpArgs false
namespace Go.Proofs.YtkdlkclanlkebaaGreat
open Go Go.Proofs Go.Proofs.YtkdlkclanlkebaaGreat.VE
attribute [local irreducible] Val Op1 WO WR WA WC seqQ blockQ loopQ retQ
noncomputable def o24x10K29 : Array Oper := cops (cl (cl (cl (cr (cl (cl (cr (cl (cr (cr (cr (cr (cr (codeOf Tryz.f24))))))))))))))
noncomputable def o24x15K29 : Array Oper := cops (cl (cl (cl (cr (cl (cl (cr (cl (cr (cr (cr (cr (cr (cr (codeOf Tryz.f24)))))))))))))))
noncomputable def o24x5K29 : Array Oper := cops (cl (cl (cr (cr (cr (cr (codeOf Tryz.f24)))))))
noncomputable def o24x6K29 : Array Oper := cops (cl (cl (cr (cl (cr (cr (cr (cr (codeOf Tryz.f24)))))))))
noncomputable def r24x10K29 : Run := (.st 0 0 (.st 1 0 (.st 2 0 (.st 3 1 (.st 4 0 (.st 5 0 (.st 6 0 (.st 7 1 (.st 8 0 (.st 9 0 (.st 10 1 (.st 11 0 (.st 12 1 (.st 13 0 (.st 14 0 (.st 15 1 (.st 16 3 (.st 17 0 (.st 18 0 .done)))))))))))))))))))
noncomputable def r24x15K29 : Run := (.st 0 0 (.st 1 1 (.st 2 0 (.st 3 0 (.st 4 1 (.st 5 0 (.st 6 1 (.st 7 0 (.st 8 0 (.st 9 1 (.st 10 3 (.st 11 0 .done))))))))))))
noncomputable def r24x5K29 : Run := (.st 0 1 (.st 1 1 (.st 2 1 (.st 3 2 (.st 4 3 (.st 5 0 (.st 6 0 (.st 7 1 (.st 8 3 (.st 9 0 (.st 10 0 (.st 11 0 (.st 12 0 (.st 13 1 (.st 14 0 (.st 15 0 (.st 16 0 (.st 17 0 (.st 18 1 (.st 19 0 (.st 20 0 .done)))))))))))))))))))))
noncomputable def r24x6K29 : Run := (.st 0 1 (.st 1 1 (.st 2 1 (.st 3 2 (.st 4 3 (.st 5 0 .done))))))
set_option maxHeartbeats 8000000
theorem c_FnWorldOthersBig {L : List Ent} (a : Option Addr) (n c : Nat) (hn : 1048576 < n) : RO Tryz.prog 24 [.slice a n c] L (B true) := by
  refine Tri.of Tryz.func24 rfl rfl Tryz.ntmps24 rfl rfl ?_
  (repeat' (first | refine nI ?_ | (refine nA ?_; intro _) | refine nY ?_ | refine WA_alt ?_ ?_ | refine nR ?_ | refine WC_drawL (id := 5) (ops := o24x5K29) r24x5K29 (by kernel_rfl) rfl ?_ | refine WC_drawL (id := 6) (ops := o24x6K29) r24x6K29 (by kernel_rfl) rfl ?_ | refine WC_drawL (id := 10) (ops := o24x10K29) r24x10K29 (by kernel_rfl) rfl ?_ | refine WC_drawL (id := 15) (ops := o24x15K29) r24x15K29 (by kernel_rfl) rfl ?_ | refine WC_cond rfl (fun hc => ?_) (fun hc => ?_)))
  refine ro_ret (by exact kR) (by exact kL) ?_; rfl
theorem c_FnWorldOthers1 {L : List Ent} (a : Option Addr) (n c : Nat) (bs : List Int) (h : BytesIn L a n c bs) (hlen : n ≤ 1048576) : RO Tryz.prog 24 [.slice a n c] L (B true) := by
  have hat := h.at_ hlen
  have hby := h.byte
  have hn := hat.1
  dsimp only at hn
  subst hn
  refine Tri.of Tryz.func24 rfl rfl Tryz.ntmps24 rfl rfl ?_
  (repeat' (first | refine nI ?_ | (refine nA ?_; intro _) | (refine nW ?_; first | (refine op_call_id ?_; refine op_call rfl (c_drawWorldDo ⟨a, bs.length, c⟩ bs (hat.mono (by exact kS)) hby) rfl ?_; rintro _ _ ⟨w, e, ⟨kc0, cs0, sv0, ⟨al0, nl0, cl0⟩⟩, ps0, ss0, ms0, se, Y, rfl, hdr, hme, rfl⟩)) | refine nY ?_ | refine WA_alt ?_ ?_ | refine nR ?_ | refine WC_drawL (id := 5) (ops := o24x5K29) r24x5K29 (by kernel_rfl) rfl ?_ | refine WC_drawL (id := 6) (ops := o24x6K29) r24x6K29 (by kernel_rfl) rfl ?_ | refine WC_drawL (id := 10) (ops := o24x10K29) r24x10K29 (by kernel_rfl) rfl ?_ | refine WC_drawL (id := 15) (ops := o24x15K29) r24x15K29 (by kernel_rfl) rfl ?_ | refine WC_cond rfl (fun hc => ?_) (fun hc => ?_)))
  rename_i bw be
  have hnl0 := log_len hdr.at_
  subst hnl0
  have hat0 := hdr.at_
  cases hwk : worldOk w with
  | false =>
    (repeat' (first | refine nI ?_ | (refine nA ?_; intro _) | (refine nW ?_; first | (refine op_call_id ?_; refine op_ro rfl rfl (by first | exact c_worldDoF w e _ ps0 ss0 ms0 se (hat0.mono (by exact kS)) hdr.n hwk | exact c_sWorldDoF w e _ ps0 ss0 ms0 se (hat0.mono (by exact kS)) hdr.n hwk | exact (c_sWorldOkN w _ ps0 ss0 ms0 (hat0.mono (by exact kS)) hdr.n).eq (congrArg B hwk) | exact c_lbWorldT World.zero WSl.nil WSl.nil [] [] [] [] [] [] (zeroAt _) (zeroAt _)) ?_)) | refine nY ?_ | refine WA_alt ?_ ?_ | refine nR ?_ | refine WC_drawL (id := 5) (ops := o24x5K29) r24x5K29 (by kernel_rfl) rfl ?_ | refine WC_drawL (id := 6) (ops := o24x6K29) r24x6K29 (by kernel_rfl) rfl ?_ | refine WC_drawL (id := 10) (ops := o24x10K29) r24x10K29 (by kernel_rfl) rfl ?_ | refine WC_drawL (id := 15) (ops := o24x15K29) r24x15K29 (by kernel_rfl) rfl ?_ | refine WC_cond rfl (fun hc => ?_) (fun hc => ?_)))
    refine ro_ret (by exact kR) (by exact kL) ?_; rfl
  | true =>
  have hok : WOk w := worldOk_iff.1 hwk
  have hwn := hok.now
  have hll := hok.ll
  have htk := hdr.took
  obtain ⟨x, hx⟩ : ∃ x, step w e = x := ⟨_, rfl⟩
  have hokx : WOk x := hx ▸ step_ok hok
  have htkx : TookLe 63 x := hx ▸ took_step htk
  have hfr := step_grow hok e
  rw [hx] at hfr
  obtain ⟨f1, f2, f3, f4, f5, f6, f7, f8⟩ := hfr
  have hkn := hok.kdc.next
  have hxn := hokx.now
  have hxl := hokx.ll
  have hxk := hokx.kdc.next
  by_cases g1 : e.kind < 1
  · (repeat' (first | refine nI ?_ | (refine nA ?_; intro _) | (refine nW ?_; first | (refine op_call_id ?_; refine op_ro rfl rfl (by first | exact (c_sWorldOkN w _ ps0 ss0 ms0 (hat0.mono (by exact kS)) hdr.n).eq (congrArg B hwk) | exact c_lbWorldT x _ q2 ps1 ps2 ss1 ss2 ms1 ms2 (ho1.at.mono (by exact kS)) (ho2.at.mono (by exact kS))) ?_) | (refine op_call_id ?_; refine op_call rfl (c_worldDoU hx _ ps0 ss0 ms0 (hat0.mono (by exact kS)) hok (htk.up (by omega)) se (hme.mono (by exact kS))) rfl ?_; rintro _ _ ⟨kc1, cs1, sv1, al1, cl1, ps1, ss1, ms1, ek1, ec1, ca1, es1, sa1, el1, la1, rfl, ho1, rfl⟩) | (refine op_call_id ?_; refine op_call rfl (c_sWorldDo hx _ ps0 ss0 ms0 (hat0.mono (by exact kS)) hok (htk.up (by omega)) se (hme.mono (by exact kS))) rfl ?_; rintro _ _ ⟨q2, ps2, ss2, ms2, ek2, ec2, ca2, es2, sa2, el2, la2, rfl, ho2, rfl⟩)) | refine nY ?_ | refine WA_alt ?_ ?_ | refine nR ?_ | refine WC_drawL (id := 5) (ops := o24x5K29) r24x5K29 (by kernel_rfl) rfl ?_ | refine WC_drawL (id := 6) (ops := o24x6K29) r24x6K29 (by kernel_rfl) rfl ?_ | refine WC_drawL (id := 10) (ops := o24x10K29) r24x10K29 (by kernel_rfl) rfl ?_ | refine WC_drawL (id := 15) (ops := o24x15K29) r24x15K29 (by kernel_rfl) rfl ?_ | refine WC_cond rfl (fun hc => ?_) (fun hc => ?_)))
    refine ro_ret (by exact kR) (by exact kL) ?_; rfl
  by_cases g2 : 3 < e.kind
  · (repeat' (first | refine nI ?_ | (refine nA ?_; intro _) | (refine nW ?_; first | (refine op_call_id ?_; refine op_ro rfl rfl (by first | exact (c_sWorldOkN w _ ps0 ss0 ms0 (hat0.mono (by exact kS)) hdr.n).eq (congrArg B hwk) | exact c_lbWorldT x _ q2 ps1 ps2 ss1 ss2 ms1 ms2 (ho1.at.mono (by exact kS)) (ho2.at.mono (by exact kS))) ?_) | (refine op_call_id ?_; refine op_call rfl (c_worldDoU hx _ ps0 ss0 ms0 (hat0.mono (by exact kS)) hok (htk.up (by omega)) se (hme.mono (by exact kS))) rfl ?_; rintro _ _ ⟨kc1, cs1, sv1, al1, cl1, ps1, ss1, ms1, ek1, ec1, ca1, es1, sa1, el1, la1, rfl, ho1, rfl⟩) | (refine op_call_id ?_; refine op_call rfl (c_sWorldDo hx _ ps0 ss0 ms0 (hat0.mono (by exact kS)) hok (htk.up (by omega)) se (hme.mono (by exact kS))) rfl ?_; rintro _ _ ⟨q2, ps2, ss2, ms2, ek2, ec2, ca2, es2, sa2, el2, la2, rfl, ho2, rfl⟩)) | refine nY ?_ | refine WA_alt ?_ ?_ | refine nR ?_ | refine WC_drawL (id := 5) (ops := o24x5K29) r24x5K29 (by kernel_rfl) rfl ?_ | refine WC_drawL (id := 6) (ops := o24x6K29) r24x6K29 (by kernel_rfl) rfl ?_ | refine WC_drawL (id := 10) (ops := o24x10K29) r24x10K29 (by kernel_rfl) rfl ?_ | refine WC_drawL (id := 15) (ops := o24x15K29) r24x15K29 (by kernel_rfl) rfl ?_ | refine WC_cond rfl (fun hc => ?_) (fun hc => ?_)))
    refine ro_ret (by exact kR) (by exact kL) ?_; rfl
  (repeat' (first | refine nI ?_ | (refine nA ?_; intro _) | (refine nW ?_; first | (refine op_call_id ?_; refine op_ro rfl rfl (by first | exact (c_sWorldOkN w _ ps0 ss0 ms0 (hat0.mono (by exact kS)) hdr.n).eq (congrArg B hwk) | exact c_lbWorldT x _ q2 ps1 ps2 ss1 ss2 ms1 ms2 (ho1.at.mono (by exact kS)) (ho2.at.mono (by exact kS))) ?_) | (refine op_call_id ?_; refine op_call rfl (c_worldDoU hx _ ps0 ss0 ms0 (hat0.mono (by exact kS)) hok (htk.up (by omega)) se (hme.mono (by exact kS))) rfl ?_; rintro _ _ ⟨kc1, cs1, sv1, al1, cl1, ps1, ss1, ms1, ek1, ec1, ca1, es1, sa1, el1, la1, rfl, ho1, rfl⟩) | (refine op_call_id ?_; refine op_call rfl (c_sWorldDo hx _ ps0 ss0 ms0 (hat0.mono (by exact kS)) hok (htk.up (by omega)) se (hme.mono (by exact kS))) rfl ?_; rintro _ _ ⟨q2, ps2, ss2, ms2, ek2, ec2, ca2, es2, sa2, el2, la2, rfl, ho2, rfl⟩)) | refine nY ?_ | refine WA_alt ?_ ?_ | refine nR ?_ | refine WC_drawL (id := 5) (ops := o24x5K29) r24x5K29 (by kernel_rfl) rfl ?_ | refine WC_drawL (id := 6) (ops := o24x6K29) r24x6K29 (by kernel_rfl) rfl ?_ | refine WC_drawL (id := 10) (ops := o24x10K29) r24x10K29 (by kernel_rfl) rfl ?_ | refine WC_drawL (id := 15) (ops := o24x15K29) r24x15K29 (by kernel_rfl) rfl ?_ | refine WC_cond rfl (fun hc => ?_) (fun hc => ?_)))
  rename_i bx
  have hk3 : e.kind = 1 ∨ e.kind = 2 ∨ e.kind = 3 := by omega
  have hxe : asks w e.kind e.a e.b = x := by rw [← hx]; unfold step; rw [if_pos hk3]
  have hot := asks_others (w := w) (k := e.kind) (a := e.a) (b := e.b)
  rw [hxe] at hot
  obtain ⟨q1, q2, q3, q4⟩ := hot
  have q5 : ∀ k : Nat, (k : Int) + 1 ≠ e.a → x.clients[k]? = w.clients[k]? := fun k hk => by
    by_cases h : 1 ≤ e.a
    · exact q4 k (by omega)
    · rw [← hxe, asks_idle (.inl (by omega))]
  have hat1 := ho1.at
  obtain ⟨gp, op, ccp, Tp, frp, capp, sp, rfl, hmemp, _, _⟩ := cli_at hat0 hok (id := 1) (by omega)
  obtain ⟨gr, or_, ccr, Tr, frr, capr, sr, rfl, hmemr, _, _⟩ := cli_at hat1 hokx (id := 1) (by omega)
  obtain ⟨gs, os, ccs, Ts, frs, caps, ss_, st_, rfl, hmems, _, _⟩ := srv_at hat0 hok (id := 4) (by omega)
  obtain ⟨gt, ot, cct, Tt, frt, capt, ss', st', rfl, hmemt, _, _⟩ := srv_at hat1 hokx (id := 4) (by omega)
  have hcl := hok.cl
  have hsl := hok.sl
  refine WC_loop (fun mz Ez Mz => ∃ k : Nat, k + mz = (w.clients).length ∧ Ez = [(3, .pointer (some ⟨bw, 0, none⟩)), (4, .pointer (some ⟨be, 0, none⟩)), (5, .pointer (some ⟨bx, 0, none⟩)), (6, I k)] ∧ Mz = (bx, cellsO (worldC x ⟨kc1, ⟨some ⟨gr, or_, none⟩, 3, capr⟩, ⟨some ⟨gt, ot, none⟩, 2, capt⟩, ⟨al1, x.log.length, cl1⟩⟩) 33) :: (bw, cellsO (worldC w ⟨kc0, ⟨some ⟨gp, op, none⟩, 3, capp⟩, ⟨some ⟨gs, os, none⟩, 2, caps⟩, ⟨al0, w.log.length, cl0⟩⟩) 33) :: (be, cellsO (eventC e se) 58) :: (wldE ek1 ec1 ca1 es1 sa1 el1 la1 ++ (Y ++ L)) ∧ (True)) (w.clients).length (by exact kQ) (by exact kL) ⟨0, by omega, rfl, rfl, by trivial⟩ ?_
  rintro mz Ez Mz ⟨k, hk, rfl, rfl, hin⟩
  rcases Nat.lt_or_ge k (w.clients).length with hlt | hge
  · by_cases hme : (k : Int) + 1 = e.a
    · (repeat' (first | refine nI ?_ | (refine nA ?_; intro _) | refine nY ?_ | refine WA_alt ?_ ?_ | refine nR ?_ | refine WC_drawL (id := 5) (ops := o24x5K29) r24x5K29 (by kernel_rfl) rfl ?_ | refine WC_drawL (id := 6) (ops := o24x6K29) r24x6K29 (by kernel_rfl) rfl ?_ | refine WC_drawL (id := 10) (ops := o24x10K29) r24x10K29 (by kernel_rfl) rfl ?_ | refine WC_drawL (id := 15) (ops := o24x15K29) r24x15K29 (by kernel_rfl) rfl ?_ | refine WC_cond rfl (fun hc => ?_) (fun hc => ?_)))
      exact loopQ_next ⟨mz - 1, _, _, by omega, by exact kQ, by exact kL, k + 1, by omega, rfl, rfl, by trivial⟩
    have hvw : w.clients[k]? = some (clientOf w ((k : Int) + 1)) := by
      have := clientOf_get hok (id := (k : Int) + 1) (by omega)
      rwa [show ((k : Int) + 1 - 1).toNat = k by omega] at this
    have hvx : x.clients[k]? = some (clientOf w ((k : Int) + 1)) := by rw [q5 k hme]; exact hvw
    obtain ⟨gp', op', ccp', Tp', frp', capp', sp', hep, hmemp', hrowp, hcp⟩ := cli_get hat0 hok hvw
    obtain ⟨gr', or', ccr', Tr', frr', capr', sr', her, hmemr', hrowr, hcr⟩ := cli_get hat1 hokx hvx
    injection hep with e1 e2 e3
    injection her with e4 e5 e6
    injection e1 with e1
    injection e4 with e4
    injection e1 with m1 m2
    injection e4 with m3 m4
    subst m1 m2 m3 m4
    (repeat' (first | refine nI ?_ | (refine nA ?_; intro _) | (refine nW ?_; first | (refine op_call_id ?_; refine op_ro rfl rfl (by exact c_lbClientT _ sr' sp' (hcr.mono (by exact kS)) (hcp.mono (by exact kS))) ?_)) | refine nY ?_ | refine WA_alt ?_ ?_ | refine nR ?_ | refine WC_drawL (id := 5) (ops := o24x5K29) r24x5K29 (by kernel_rfl) rfl ?_ | refine WC_drawL (id := 6) (ops := o24x6K29) r24x6K29 (by kernel_rfl) rfl ?_ | refine WC_drawL (id := 10) (ops := o24x10K29) r24x10K29 (by kernel_rfl) rfl ?_ | refine WC_drawL (id := 15) (ops := o24x15K29) r24x15K29 (by kernel_rfl) rfl ?_ | refine WC_cond rfl (fun hc => ?_) (fun hc => ?_)))
    exact loopQ_next ⟨mz - 1, _, _, by omega, by exact kQ, by exact kL, k + 1, by omega, rfl, rfl, by trivial⟩
  (repeat' (first | refine nI ?_ | (refine nA ?_; intro _) | refine nY ?_ | refine WA_alt ?_ ?_ | refine nR ?_ | refine WC_drawL (id := 5) (ops := o24x5K29) r24x5K29 (by kernel_rfl) rfl ?_ | refine WC_drawL (id := 6) (ops := o24x6K29) r24x6K29 (by kernel_rfl) rfl ?_ | refine WC_drawL (id := 10) (ops := o24x10K29) r24x10K29 (by kernel_rfl) rfl ?_ | refine WC_drawL (id := 15) (ops := o24x15K29) r24x15K29 (by kernel_rfl) rfl ?_ | refine WC_cond rfl (fun hc => ?_) (fun hc => ?_)))
  clear hk hge hin
  refine WC_loop (fun mz Ez Mz => ∃ k : Nat, k + mz = (w.servs).length ∧ Ez = [(3, .pointer (some ⟨bw, 0, none⟩)), (5, .pointer (some ⟨bx, 0, none⟩)), (7, I k)] ∧ Mz = (bx, cellsO (worldC x ⟨kc1, ⟨some ⟨gr, or_, none⟩, 3, capr⟩, ⟨some ⟨gt, ot, none⟩, 2, capt⟩, ⟨al1, x.log.length, cl1⟩⟩) 33) :: (bw, cellsO (worldC w ⟨kc0, ⟨some ⟨gp, op, none⟩, 3, capp⟩, ⟨some ⟨gs, os, none⟩, 2, caps⟩, ⟨al0, w.log.length, cl0⟩⟩) 33) :: (wldE ek1 ec1 ca1 es1 sa1 el1 la1 ++ (Y ++ L)) ∧ (True)) (w.servs).length (by exact kQ) (by exact kL) ⟨0, by omega, rfl, rfl, by trivial⟩ ?_
  rintro mz Ez Mz ⟨k, hk, rfl, rfl, hin⟩
  rcases Nat.lt_or_ge k (w.servs).length with hlt | hge
  · skip
    have hvw : w.servs[k]? = some (servOf w ((k : Int) + 4)) := by
      have := servOf_get hok (id := (k : Int) + 4) (by omega)
      rwa [show ((k : Int) + 4 - 4).toNat = k by omega] at this
    have hvx : x.servs[k]? = some (servOf w ((k : Int) + 4)) := by rw [q1]; exact hvw
    obtain ⟨gp', op', ccp', Tp', frp', capp', sp', sq', hep, hmemp', hrowp, hcp⟩ := srv_get hat0 hok hvw
    obtain ⟨gr', or', ccr', Tr', frr', capr', sr', su', her, hmemr', hrowr, hcr⟩ := srv_get hat1 hokx hvx
    injection hep with e1 e2 e3
    injection her with e4 e5 e6
    injection e1 with e1
    injection e4 with e4
    injection e1 with m1 m2
    injection e4 with m3 m4
    subst m1 m2 m3 m4
    (repeat' (first | refine nI ?_ | (refine nA ?_; intro _) | (refine nW ?_; first | (refine op_call_id ?_; refine op_ro rfl rfl (by exact c_lbServT _ sr' su' sp' sq' (hcr.mono (by exact kS)) (hcp.mono (by exact kS))) ?_)) | refine nY ?_ | refine WA_alt ?_ ?_ | refine nR ?_ | refine WC_drawL (id := 5) (ops := o24x5K29) r24x5K29 (by kernel_rfl) rfl ?_ | refine WC_drawL (id := 6) (ops := o24x6K29) r24x6K29 (by kernel_rfl) rfl ?_ | refine WC_drawL (id := 10) (ops := o24x10K29) r24x10K29 (by kernel_rfl) rfl ?_ | refine WC_drawL (id := 15) (ops := o24x15K29) r24x15K29 (by kernel_rfl) rfl ?_ | refine WC_cond rfl (fun hc => ?_) (fun hc => ?_)))
    exact loopQ_next ⟨mz - 1, _, _, by omega, by exact kQ, by exact kL, k + 1, by omega, rfl, rfl, by trivial⟩
  (repeat' (first | refine nI ?_ | (refine nA ?_; intro _) | (refine nW ?_; first | (refine op_call_id ?_; refine op_ro rfl rfl (by exact (c_lbKdc x.kdc w.kdc kc1 kc0 (hat1.kc.mono (by exact kS)) (hat0.kc.mono (by exact kS))).eq (congrArg B (decide_eq_true q2))) ?_)) | refine nY ?_ | refine WA_alt ?_ ?_ | refine nR ?_ | refine WC_drawL (id := 5) (ops := o24x5K29) r24x5K29 (by kernel_rfl) rfl ?_ | refine WC_drawL (id := 6) (ops := o24x6K29) r24x6K29 (by kernel_rfl) rfl ?_ | refine WC_drawL (id := 10) (ops := o24x10K29) r24x10K29 (by kernel_rfl) rfl ?_ | refine WC_drawL (id := 15) (ops := o24x15K29) r24x15K29 (by kernel_rfl) rfl ?_ | refine WC_cond rfl (fun hc => ?_) (fun hc => ?_)))
  refine ro_ret (by exact kR) (by exact kL) ?_; rfl
end Go.Proofs.YtkdlkclanlkebaaGreat
/- The law FnWorldOthers: for all that comes in the call returns true, and what came in reads as before. No condition. (The frame by the kit's program, the walk by ours.) -/
namespace Go.Proofs.YtkdlkclanlkebaaGreat.fnWorldOthers
open Go.ChangeShapes Go.WideShapes Go.ChangeAt Go.RowKit
open Go.ChangeMaps (open_string shut_string)
set_option linter.unusedVariables false

theorem own : ownKnob Tryz.prog.godebug = none := by kernel_rfl
theorem laidOut : laidOutB Tryz.prog = true := by kernel_rfl

def IsRow (k : IntKind) (w : Go.World) (a : Option Addr) (len cap : Nat) (zs : List Int) : Prop :=
  (a = none ∧ len = 0 ∧ cap = 0 ∧ zs = []) ∨
  ∃ x, a = some x ∧ len ≤ cap ∧ cap ≤ maxLen ∧ zs.length = cap ∧ (∀ i, i < zs.length → w.cell? (x.add i) = some (.int k (zs.getD i 0))) ∧ ∀ n ∈ zs, (Lit.int k n).wf = true

theorem walk (a0 : Option Addr) (len0 cap0 : Nat) (z0 : List Int) (w : Go.World) (w0 : IsRow .u8 w a0 len0 cap0 z0) :
    Calls Tryz.prog 24 #[.slice a0 len0 cap0] w fun e w' => e = .returned (.bool true) ∧ Below w.heap.size w w' := by
  exact walk_of (by
    by_cases hb : 1048576 < len0
    · exact c_FnWorldOthersBig a0 len0 cap0 hb
    · exact c_FnWorldOthers1 a0 len0 cap0 (z0.take len0) (bytes_at w0) (by omega))

set_option maxRecDepth 100000 in
theorem lifted (os : Os) (started : os.Started) (H : Type) (enc : TypeId × Value → H) :
    ReturnsInHanded {} Tryz.checked os 24 .any (Rows.fnWorldOthersSpec.pre6 enc Tryz.prog Tryz.f24 Rows.fnWorldOthersRow.domain false) (Rows.fnWorldOthersSpec.post enc Tryz.prog Tryz.f24 false true false false) := by
  refine returnsInHanded_of_change (C := Tryz.checked) own started (by kernel_rfl) Tryz.func24
    (ChangeSpec.witness6 (enc := enc) (C := Tryz.checked) false ⟨#[], #[.slice none 0 0], []⟩ 8 (by kernel_rfl) (by kernel_rfl) (by kernel_rfl) (by kernel_rfl)) ?_
  intro W base args ds gs before hval0 hW hcnd _
  have hval : ∀ (j : Nat) t v, Tryz.f24.params[j]? = some t → args[j]? = some v → Value.okWide Tryz.prog W .any base t v := hval0
  have hW' := hW
  obtain ⟨p, q, hA0, hV, rfl, hfz, hnd⟩ := hW
  have hA : DataW.TrodAll enc Tryz.prog W 0 (fun _ => true) true Tryz.f24.params.toList args.toList ds p := hA0
  rw [Tryz.params24] at hA hval
  obtain ⟨v0, vs0, d0, ds0, p0, q0, hargs, rfl, rfl, h0, r0⟩ := trodAll_cons hA
  obtain ⟨rfl, rfl, rfl⟩ := trodAll_nil r0
  obtain rfl : args = #[v0] := by cases args; simp_all
  obtain ⟨rfl, rfl⟩ := trodVars_none hV
  obtain ⟨a0, len0, cap0, rfl⟩ := okWide_slice Tryz.underlying22 (hval 0 22 v0 rfl rfl)
  have k0 := h0
  have lt0 : ∀ x ∈ p0, x.block < W.heap.size := by obtain ⟨m, hm⟩ := k0; exact DataW.trod_lt m _ _ _ hm
  obtain ⟨z0, w0⟩ : ∃ zs, IsRow .u8 W a0 len0 cap0 zs := by
    obtain ⟨fuel, hf⟩ := h0
    rcases open_ints Tryz.underlying22 Tryz.underlying5 (by kernel_rfl) hf with ⟨hcs, _⟩ | ⟨x, l, c, zs, hcs, _, hl, hm, hz, _, hcell, hwz⟩
    · simp [Value.cells] at hcs
      obtain ⟨rfl, rfl, rfl⟩ := hcs
      exact ⟨[], .inl ⟨rfl, rfl, rfl, rfl⟩⟩
    · simp [Value.cells] at hcs
      obtain ⟨rfl, rfl, rfl⟩ := hcs
      exact ⟨zs, .inr ⟨_, rfl, hl, hm, by simpa using hz, hcell, hwz⟩⟩
  clear hA0 hval0
  refine (walk a0 len0 cap0 z0 W w0).mono fun e W' ⟨he, bel⟩ => ?_
  subst he
  exact ⟨_, rfl, _, _, _, [], _, [], hW', trodAll_mk1 (shut_bool Tryz.underlying4 _), (trodAll_cons_mk (Below.trod laidOut (by kernel_rfl) (of_decide_eq_true (by kernel_rfl)) k0 bel lt0) trodAll_mk0), rfl, bel.frame _, fun h => by cases h⟩

theorem closed : joinedFacts Tryz.prog 24 Tryz.f24 Rows.fnWorldOthersSpec Rows.fnWorldOthersRow = true := by
  unfold joinedFacts
  iterate 31 (refine and_t ?_ ?_)
  · kernel_rfl
  · kernel_rfl
  · kernel_rfl
  · kernel_rfl
  · kernel_rfl
  · kernel_rfl
  · kernel_rfl
  · kernel_rfl
  · kernel_rfl
  · kernel_rfl
  · kernel_rfl
  · kernel_rfl
  · kernel_rfl
  · kernel_rfl
  · kernel_rfl
  · kernel_rfl
  · kernel_rfl
  · kernel_rfl
  · kernel_rfl
  · kernel_rfl
  · kernel_rfl
  · kernel_rfl
  · kernel_rfl
  · kernel_rfl
  · kernel_rfl
  · exact may_enter
  · rw [lifts_final]; kernel_rfl
  · rw [make_is]; kernel_rfl
  · kernel_rfl
  · kernel_rfl
  · kernel_rfl
  · kernel_rfl
theorem over : Rows.fnWorldOthersRow.holds Tryz.pinned (OpenSpec.ofChange Rows.fnWorldOthersSpec) :=
  OpenClaim.holds_of_wide 24 Tryz.f24 rfl rfl rfl rfl rfl rfl rfl ⟨rfl, rfl, rfl, rfl, rfl⟩ rfl rfl rfl rfl rfl (by kernel_rfl) Tryz.func24 closed
    (of_decide_eq_true (by kernel_rfl)) (by unfold Func.isWrapper; first | (rw [if_pos (by decide +kernel)]; kernel_rfl) | (rw [if_neg (by decide +kernel)]; exact ⟨rfl, rfl⟩))
    (fun os started H enc _ => lifted os started H enc)

theorem proved : Rows.FnWorldOthersSaid := over
end Go.Proofs.YtkdlkclanlkebaaGreat.fnWorldOthers
