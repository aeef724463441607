/- The law: what is brought is heard by whom it is for. -/
import Derived.Test.YtkdlkclanlkebaaGreatRows
import Derived.WalkKit
import Derived.ProofKit
import Derived.OpenShut
import Derived.ShutString
import Derived.ChangeOld
import Derived.Below
import Derived.Test.YtkdlkclanlkebaaGreatA20
import Derived.Test.YtkdlkclanlkebaaGreatA14
set_option linter.unusedVariables false
set_option linter.unusedSectionVars false
set_option linter.unusedSimpArgs false
namespace Go.Proofs.YtkdlkclanlkebaaGreat
open Go Go.Proofs Go.Proofs.YtkdlkclanlkebaaGreat.VE
attribute [local irreducible] Val Op1 WO WR WA WC seqQ blockQ loopQ retQ
noncomputable def o21x12K32 : Array Oper := cops (cl (cl (cl (cr (cl (cl (cr (cl (cr (cr (cr (cr (cr (cr (cr (codeOf Tryz.f21))))))))))))))))
noncomputable def o21x17K32 : Array Oper := cops (cl (cl (cl (cr (cl (cl (cr (cl (cr (cr (cr (cr (cr (cr (cr (cr (codeOf Tryz.f21)))))))))))))))))
noncomputable def o21x5K32 : Array Oper := cops (cl (cl (cr (cr (cr (cr (codeOf Tryz.f21)))))))
noncomputable def o21x6K32 : Array Oper := cops (cl (cl (cr (cl (cr (cr (cr (cr (codeOf Tryz.f21)))))))))
noncomputable def r21x12K32 : Run := (.st 0 0 (.st 1 0 (.st 2 0 (.st 3 1 (.st 4 0 (.st 5 0 (.st 6 0 (.st 7 0 (.st 8 1 (.st 9 0 (.st 10 0 (.st 11 0 (.st 12 0 (.st 13 0 (.st 14 0 (.st 15 1 (.st 16 0 (.st 17 1 (.st 18 0 (.st 19 0 (.st 20 0 (.st 21 0 (.st 22 1 (.st 23 0 (.st 24 0 (.st 25 1 (.st 26 0 (.st 27 1 (.st 28 0 (.st 29 0 (.st 30 1 (.st 31 3 (.st 32 0 (.st 33 0 .done))))))))))))))))))))))))))))))))))
noncomputable def r21x17K32 : Run := (.st 0 0 (.st 1 1 (.st 2 0 (.st 3 0 (.st 4 0 (.st 5 1 (.st 6 0 (.st 7 1 (.st 8 0 (.st 9 0 (.st 10 0 (.st 11 1 (.st 12 0 (.st 13 0 (.st 14 0 (.st 15 0 (.st 16 1 (.st 17 0 (.st 18 0 (.st 19 1 (.st 20 0 (.st 21 1 (.st 22 0 (.st 23 0 (.st 24 1 (.st 25 2 (.st 26 0 (.st 27 0 .done))))))))))))))))))))))))))))
noncomputable def r21x5K32 : Run := (.st 0 1 (.st 1 1 (.st 2 1 (.st 3 2 (.st 4 3 (.st 5 0 (.st 6 0 (.st 7 1 (.st 8 3 (.st 9 0 (.st 10 0 (.st 11 0 (.st 12 0 (.st 13 1 (.st 14 0 (.st 15 0 (.st 16 0 (.st 17 0 (.st 18 1 (.st 19 0 (.st 20 0 (.st 21 0 (.st 22 0 (.st 23 1 (.st 24 0 (.st 25 1 (.st 26 0 (.st 27 0 (.st 28 0 .done)))))))))))))))))))))))))))))
noncomputable def r21x6K32 : Run := (.st 0 1 (.st 1 1 (.st 2 1 (.st 3 2 (.st 4 3 (.st 5 0 .done))))))
set_option maxHeartbeats 8000000
theorem c_FnWorldBringBig {L : List Ent} (a : Option Addr) (n c : Nat) (hn : 1048576 < n) : RO Tryz.prog 21 [.slice a n c] L (B true) := by
  refine Tri.of Tryz.func21 rfl rfl Tryz.ntmps21 rfl rfl ?_
  (repeat' (first | refine nI ?_ | (refine nA ?_; intro _) | refine nY ?_ | refine WA_alt ?_ ?_ | refine nR ?_ | refine WC_drawL (id := 5) (ops := o21x5K32) r21x5K32 (by kernel_rfl) rfl ?_ | refine WC_drawL (id := 6) (ops := o21x6K32) r21x6K32 (by kernel_rfl) rfl ?_ | refine WC_drawL (id := 12) (ops := o21x12K32) r21x12K32 (by kernel_rfl) rfl ?_ | refine WC_drawL (id := 17) (ops := o21x17K32) r21x17K32 (by kernel_rfl) rfl ?_ | refine WC_cond rfl (fun hc => ?_) (fun hc => ?_)))
  refine ro_ret (by exact kR) (by exact kL) ?_; rfl
theorem c_FnWorldBring1 {L : List Ent} (a : Option Addr) (n c : Nat) (bs : List Int) (h : BytesIn L a n c bs) (hlen : n ≤ 1048576) : RO Tryz.prog 21 [.slice a n c] L (B true) := by
  have hat := h.at_ hlen
  have hby := h.byte
  have hn := hat.1
  dsimp only at hn
  subst hn
  refine Tri.of Tryz.func21 rfl rfl Tryz.ntmps21 rfl rfl ?_
  (repeat' (first | refine nI ?_ | (refine nA ?_; intro _) | (refine nW ?_; first | (refine op_call_id ?_; refine op_call rfl (c_drawWorldDo ⟨a, bs.length, c⟩ bs (hat.mono (by exact kS)) hby) rfl ?_; rintro _ _ ⟨w, e, ⟨kc0, cs0, sv0, ⟨al0, nl0, cl0⟩⟩, ps0, ss0, ms0, se, Y, rfl, hdr, hme, rfl⟩)) | refine nY ?_ | refine WA_alt ?_ ?_ | refine nR ?_ | refine WC_drawL (id := 5) (ops := o21x5K32) r21x5K32 (by kernel_rfl) rfl ?_ | refine WC_drawL (id := 6) (ops := o21x6K32) r21x6K32 (by kernel_rfl) rfl ?_ | refine WC_drawL (id := 12) (ops := o21x12K32) r21x12K32 (by kernel_rfl) rfl ?_ | refine WC_drawL (id := 17) (ops := o21x17K32) r21x17K32 (by kernel_rfl) rfl ?_ | refine WC_cond rfl (fun hc => ?_) (fun hc => ?_)))
  rename_i bw be
  have hnl0 := log_len hdr.at_
  subst hnl0
  have hat0 := hdr.at_
  cases hwk : worldOk w with
  | false =>
    (repeat' (first | refine nI ?_ | (refine nA ?_; intro _) | (refine nW ?_; first | (refine op_call_id ?_; refine op_ro rfl rfl (by first | exact c_worldDoF w e _ ps0 ss0 ms0 se (hat0.mono (by exact kS)) hdr.n hwk | exact c_sWorldDoF w e _ ps0 ss0 ms0 se (hat0.mono (by exact kS)) hdr.n hwk | exact (c_sWorldOkN w _ ps0 ss0 ms0 (hat0.mono (by exact kS)) hdr.n).eq (congrArg B hwk) | exact c_lbWorldT World.zero WSl.nil WSl.nil [] [] [] [] [] [] (zeroAt _) (zeroAt _)) ?_)) | refine nY ?_ | refine WA_alt ?_ ?_ | refine nR ?_ | refine WC_drawL (id := 5) (ops := o21x5K32) r21x5K32 (by kernel_rfl) rfl ?_ | refine WC_drawL (id := 6) (ops := o21x6K32) r21x6K32 (by kernel_rfl) rfl ?_ | refine WC_drawL (id := 12) (ops := o21x12K32) r21x12K32 (by kernel_rfl) rfl ?_ | refine WC_drawL (id := 17) (ops := o21x17K32) r21x17K32 (by kernel_rfl) rfl ?_ | refine WC_cond rfl (fun hc => ?_) (fun hc => ?_)))
    refine ro_ret (by exact kR) (by exact kL) ?_; rfl
  | true =>
  have hok : WOk w := worldOk_iff.1 hwk
  have hwn := hok.now
  have hll := hok.ll
  have htk := hdr.took
  obtain ⟨x, hx⟩ : ∃ x, step w e = x := ⟨_, rfl⟩
  have hokx : WOk x := hx ▸ step_ok hok
  have htkx : TookLe 63 x := hx ▸ took_step htk
  have hfr := step_grow hok e
  rw [hx] at hfr
  obtain ⟨f1, f2, f3, f4, f5, f6, f7, f8⟩ := hfr
  have hkn := hok.kdc.next
  have hxn := hokx.now
  have hxl := hokx.ll
  have hxk := hokx.kdc.next
  by_cases hk4 : e.kind = 4
  rotate_left
  · (repeat' (first | refine nI ?_ | (refine nA ?_; intro _) | (refine nW ?_; first | (refine op_call_id ?_; refine op_ro rfl rfl (by first | exact (c_sWorldOkN w _ ps0 ss0 ms0 (hat0.mono (by exact kS)) hdr.n).eq (congrArg B hwk) | exact c_lbWorldT x _ q2 ps1 ps2 ss1 ss2 ms1 ms2 (ho1.at.mono (by exact kS)) (ho2.at.mono (by exact kS))) ?_) | (refine op_call_id ?_; refine op_call rfl (c_worldDoU hx _ ps0 ss0 ms0 (hat0.mono (by exact kS)) hok (htk.up (by omega)) se (hme.mono (by exact kS))) rfl ?_; rintro _ _ ⟨kc1, cs1, sv1, al1, cl1, ps1, ss1, ms1, ek1, ec1, ca1, es1, sa1, el1, la1, rfl, ho1, rfl⟩) | (refine op_call_id ?_; refine op_call rfl (c_sWorldDo hx _ ps0 ss0 ms0 (hat0.mono (by exact kS)) hok (htk.up (by omega)) se (hme.mono (by exact kS))) rfl ?_; rintro _ _ ⟨q2, ps2, ss2, ms2, ek2, ec2, ca2, es2, sa2, el2, la2, rfl, ho2, rfl⟩)) | refine nY ?_ | refine WA_alt ?_ ?_ | refine nR ?_ | refine WC_drawL (id := 5) (ops := o21x5K32) r21x5K32 (by kernel_rfl) rfl ?_ | refine WC_drawL (id := 6) (ops := o21x6K32) r21x6K32 (by kernel_rfl) rfl ?_ | refine WC_drawL (id := 12) (ops := o21x12K32) r21x12K32 (by kernel_rfl) rfl ?_ | refine WC_drawL (id := 17) (ops := o21x17K32) r21x17K32 (by kernel_rfl) rfl ?_ | refine WC_cond rfl (fun hc => ?_) (fun hc => ?_)))
    refine ro_ret (by exact kR) (by exact kL) ?_; rfl
  by_cases g2 : e.a < 0
  · (repeat' (first | refine nI ?_ | (refine nA ?_; intro _) | (refine nW ?_; first | (refine op_call_id ?_; refine op_ro rfl rfl (by first | exact (c_sWorldOkN w _ ps0 ss0 ms0 (hat0.mono (by exact kS)) hdr.n).eq (congrArg B hwk) | exact c_lbWorldT x _ q2 ps1 ps2 ss1 ss2 ms1 ms2 (ho1.at.mono (by exact kS)) (ho2.at.mono (by exact kS))) ?_) | (refine op_call_id ?_; refine op_call rfl (c_worldDoU hx _ ps0 ss0 ms0 (hat0.mono (by exact kS)) hok (htk.up (by omega)) se (hme.mono (by exact kS))) rfl ?_; rintro _ _ ⟨kc1, cs1, sv1, al1, cl1, ps1, ss1, ms1, ek1, ec1, ca1, es1, sa1, el1, la1, rfl, ho1, rfl⟩) | (refine op_call_id ?_; refine op_call rfl (c_sWorldDo hx _ ps0 ss0 ms0 (hat0.mono (by exact kS)) hok (htk.up (by omega)) se (hme.mono (by exact kS))) rfl ?_; rintro _ _ ⟨q2, ps2, ss2, ms2, ek2, ec2, ca2, es2, sa2, el2, la2, rfl, ho2, rfl⟩)) | refine nY ?_ | refine WA_alt ?_ ?_ | refine nR ?_ | refine WC_drawL (id := 5) (ops := o21x5K32) r21x5K32 (by kernel_rfl) rfl ?_ | refine WC_drawL (id := 6) (ops := o21x6K32) r21x6K32 (by kernel_rfl) rfl ?_ | refine WC_drawL (id := 12) (ops := o21x12K32) r21x12K32 (by kernel_rfl) rfl ?_ | refine WC_drawL (id := 17) (ops := o21x17K32) r21x17K32 (by kernel_rfl) rfl ?_ | refine WC_cond rfl (fun hc => ?_) (fun hc => ?_)))
    refine ro_ret (by exact kR) (by exact kL) ?_; rfl
  by_cases g3 : (w.log.length : Int) ≤ e.a
  · (repeat' (first | refine nI ?_ | (refine nA ?_; intro _) | (refine nW ?_; first | (refine op_call_id ?_; refine op_ro rfl rfl (by first | exact (c_sWorldOkN w _ ps0 ss0 ms0 (hat0.mono (by exact kS)) hdr.n).eq (congrArg B hwk) | exact c_lbWorldT x _ q2 ps1 ps2 ss1 ss2 ms1 ms2 (ho1.at.mono (by exact kS)) (ho2.at.mono (by exact kS))) ?_) | (refine op_call_id ?_; refine op_call rfl (c_worldDoU hx _ ps0 ss0 ms0 (hat0.mono (by exact kS)) hok (htk.up (by omega)) se (hme.mono (by exact kS))) rfl ?_; rintro _ _ ⟨kc1, cs1, sv1, al1, cl1, ps1, ss1, ms1, ek1, ec1, ca1, es1, sa1, el1, la1, rfl, ho1, rfl⟩) | (refine op_call_id ?_; refine op_call rfl (c_sWorldDo hx _ ps0 ss0 ms0 (hat0.mono (by exact kS)) hok (htk.up (by omega)) se (hme.mono (by exact kS))) rfl ?_; rintro _ _ ⟨q2, ps2, ss2, ms2, ek2, ec2, ca2, es2, sa2, el2, la2, rfl, ho2, rfl⟩)) | refine nY ?_ | refine WA_alt ?_ ?_ | refine nR ?_ | refine WC_drawL (id := 5) (ops := o21x5K32) r21x5K32 (by kernel_rfl) rfl ?_ | refine WC_drawL (id := 6) (ops := o21x6K32) r21x6K32 (by kernel_rfl) rfl ?_ | refine WC_drawL (id := 12) (ops := o21x12K32) r21x12K32 (by kernel_rfl) rfl ?_ | refine WC_drawL (id := 17) (ops := o21x17K32) r21x17K32 (by kernel_rfl) rfl ?_ | refine WC_cond rfl (fun hc => ?_) (fun hc => ?_)))
    refine ro_ret (by exact kR) (by exact kL) ?_; rfl
  have hea : 0 ≤ e.a ∧ e.a < w.log.length := by omega
  obtain ⟨m, hm⟩ : ∃ m, w.log[e.a.toNat]? = some m := ⟨_, List.getElem?_eq_getElem (by omega)⟩
  have hxe : bringMsg w m = x := by
    rw [← hx]; unfold step; rw [if_neg (by omega), if_pos hk4]; unfold bring; rw [if_pos hea]
    have h : w.log.getD e.a.toNat Msg.zero = m := getD_some hm
    rw [h]
  have hot := bringMsg_others (w := w) (m := m)
  rw [hxe] at hot
  obtain ⟨r1, r2, r3⟩ := hot
  (repeat' (first | refine nI ?_ | (refine nA ?_; intro _) | (refine nW ?_; first | (refine op_call_id ?_; refine op_ro rfl rfl (by first | exact (c_sWorldOkN w _ ps0 ss0 ms0 (hat0.mono (by exact kS)) hdr.n).eq (congrArg B hwk) | exact c_lbWorldT x _ q2 ps1 ps2 ss1 ss2 ms1 ms2 (ho1.at.mono (by exact kS)) (ho2.at.mono (by exact kS))) ?_) | (refine op_call_id ?_; refine op_call rfl (c_worldDoU hx _ ps0 ss0 ms0 (hat0.mono (by exact kS)) hok (htk.up (by omega)) se (hme.mono (by exact kS))) rfl ?_; rintro _ _ ⟨kc1, cs1, sv1, al1, cl1, ps1, ss1, ms1, ek1, ec1, ca1, es1, sa1, el1, la1, rfl, ho1, rfl⟩) | (refine op_call_id ?_; refine op_call rfl (c_sWorldDo hx _ ps0 ss0 ms0 (hat0.mono (by exact kS)) hok (htk.up (by omega)) se (hme.mono (by exact kS))) rfl ?_; rintro _ _ ⟨q2, ps2, ss2, ms2, ek2, ec2, ca2, es2, sa2, el2, la2, rfl, ho2, rfl⟩)) | refine nY ?_ | refine WA_alt ?_ ?_ | refine nR ?_ | refine WC_drawL (id := 5) (ops := o21x5K32) r21x5K32 (by kernel_rfl) rfl ?_ | refine WC_drawL (id := 6) (ops := o21x6K32) r21x6K32 (by kernel_rfl) rfl ?_ | refine WC_drawL (id := 12) (ops := o21x12K32) r21x12K32 (by kernel_rfl) rfl ?_ | refine WC_drawL (id := 17) (ops := o21x17K32) r21x17K32 (by kernel_rfl) rfl ?_ | refine WC_cond rfl (fun hc => ?_) (fun hc => ?_)))
  rename_i bx
  have hat1 := ho1.at
  have hmo := hok.ms m (List.mem_of_getElem? hm)
  have hsh := msgOk_shape hmo
  obtain ⟨gp, op, ccp, Tp, frp, capp, sp, rfl, hmemp, _, _⟩ := cli_at hat0 hok (id := 1) (by omega)
  obtain ⟨gr, or_, ccr, Tr, frr, capr, sr, rfl, hmemr, _, _⟩ := cli_at hat1 hokx (id := 1) (by omega)
  obtain ⟨gs, os, ccs, Ts, frs, caps, ss_, st_, rfl, hmems, _, _⟩ := srv_at hat0 hok (id := 4) (by omega)
  obtain ⟨gt, ot, cct, Tt, frt, capt, ss', st', rfl, hmemt, _, _⟩ := srv_at hat1 hokx (id := 4) (by omega)
  have hcl := hok.cl
  have hsl := hok.sl
  obtain ⟨gm, om, ccm, Tm, frm, sm, rfl, hmemm, hrowm, hsm⟩ := msg_at hat0 hm
  rcases (show m.kind = 1 ∨ m.kind = 3 ∨ m.kind = 5 ∨ (m.kind ≠ 1 ∧ m.kind ≠ 3 ∧ m.kind ≠ 5) by omega) with hmk | hmk | hmk | hmk
  · skip
    (repeat' (first | refine nI ?_ | (refine nA ?_; intro _) | refine nY ?_ | refine WA_alt ?_ ?_ | refine nR ?_ | refine WC_drawL (id := 5) (ops := o21x5K32) r21x5K32 (by kernel_rfl) rfl ?_ | refine WC_drawL (id := 6) (ops := o21x6K32) r21x6K32 (by kernel_rfl) rfl ?_ | refine WC_drawL (id := 12) (ops := o21x12K32) r21x12K32 (by kernel_rfl) rfl ?_ | refine WC_drawL (id := 17) (ops := o21x17K32) r21x17K32 (by kernel_rfl) rfl ?_ | refine WC_cond rfl (fun hc => ?_) (fun hc => ?_)))
    rename_i bm
    refine WC_loop (fun mz Ez Mz => ∃ k : Nat, k + mz = (w.clients).length ∧ Ez = [(3, .pointer (some ⟨bw, 0, none⟩)), (5, .pointer (some ⟨bx, 0, none⟩)), (6, .pointer (some ⟨bm, 0, none⟩)), (7, B true), (8, I k)] ∧ Mz = (bx, cellsO (worldC x ⟨kc1, ⟨some ⟨gr, or_, none⟩, 3, capr⟩, ⟨some ⟨gt, ot, none⟩, 2, capt⟩, ⟨al1, x.log.length, cl1⟩⟩) 33) :: (bw, cellsO (worldC w ⟨kc0, ⟨some ⟨gp, op, none⟩, 3, capp⟩, ⟨some ⟨gs, os, none⟩, 2, caps⟩, ⟨some ⟨gm, om, none⟩, w.log.length, cl0⟩⟩) 33) :: (bm, cellsO (msgC m sm) 56) :: (wldE ek1 ec1 ca1 es1 sa1 el1 la1 ++ (Y ++ L)) ∧ (True)) (w.clients).length (by exact kQ) (by exact kL) ⟨0, by omega, rfl, rfl, by trivial⟩ ?_
    rintro mz Ez Mz ⟨k, hk, rfl, rfl, hin⟩
    rcases Nat.lt_or_ge k (w.clients).length with hlt | hge
    · skip
      have hvw : w.clients[k]? = some (clientOf w ((k : Int) + 1)) := by
        have := clientOf_get hok (id := (k : Int) + 1) (by omega)
        rwa [show ((k : Int) + 1 - 1).toNat = k by omega] at this
      have hvx : x.clients[k]? = some (clientOf w ((k : Int) + 1)) := by rw [r2 k (by omega)]; exact hvw
      obtain ⟨gp', op', ccp', Tp', frp', capp', sp', hep, hmemp', hrowp, hcp⟩ := cli_get hat0 hok hvw
      obtain ⟨gr', or', ccr', Tr', frr', capr', sr', her, hmemr', hrowr, hcr⟩ := cli_get hat1 hokx hvx
      injection hep with e1 e2 e3
      injection her with e4 e5 e6
      injection e1 with e1
      injection e4 with e4
      injection e1 with m1 m2
      injection e4 with m3 m4
      subst m1 m2 m3 m4
      (repeat' (first | refine nI ?_ | (refine nA ?_; intro _) | (refine nW ?_; first | (refine op_call_id ?_; refine op_ro rfl rfl (by exact c_lbClientT _ sr' sp' (hcr.mono (by exact kS)) (hcp.mono (by exact kS))) ?_)) | refine nY ?_ | refine WA_alt ?_ ?_ | refine nR ?_ | refine WC_drawL (id := 5) (ops := o21x5K32) r21x5K32 (by kernel_rfl) rfl ?_ | refine WC_drawL (id := 6) (ops := o21x6K32) r21x6K32 (by kernel_rfl) rfl ?_ | refine WC_drawL (id := 12) (ops := o21x12K32) r21x12K32 (by kernel_rfl) rfl ?_ | refine WC_drawL (id := 17) (ops := o21x17K32) r21x17K32 (by kernel_rfl) rfl ?_ | refine WC_cond rfl (fun hc => ?_) (fun hc => ?_)))
      exact loopQ_next ⟨mz - 1, _, _, by omega, by exact kQ, by exact kL, k + 1, by omega, rfl, rfl, by trivial⟩
    (repeat' (first | refine nI ?_ | (refine nA ?_; intro _) | refine nY ?_ | refine WA_alt ?_ ?_ | refine nR ?_ | refine WC_drawL (id := 5) (ops := o21x5K32) r21x5K32 (by kernel_rfl) rfl ?_ | refine WC_drawL (id := 6) (ops := o21x6K32) r21x6K32 (by kernel_rfl) rfl ?_ | refine WC_drawL (id := 12) (ops := o21x12K32) r21x12K32 (by kernel_rfl) rfl ?_ | refine WC_drawL (id := 17) (ops := o21x17K32) r21x17K32 (by kernel_rfl) rfl ?_ | refine WC_cond rfl (fun hc => ?_) (fun hc => ?_)))
    clear hk hge hin
    refine WC_loop (fun mz Ez Mz => ∃ k : Nat, k + mz = (w.servs).length ∧ Ez = [(3, .pointer (some ⟨bw, 0, none⟩)), (5, .pointer (some ⟨bx, 0, none⟩)), (6, .pointer (some ⟨bm, 0, none⟩)), (7, B true), (9, I k)] ∧ Mz = (bx, cellsO (worldC x ⟨kc1, ⟨some ⟨gr, or_, none⟩, 3, capr⟩, ⟨some ⟨gt, ot, none⟩, 2, capt⟩, ⟨al1, x.log.length, cl1⟩⟩) 33) :: (bw, cellsO (worldC w ⟨kc0, ⟨some ⟨gp, op, none⟩, 3, capp⟩, ⟨some ⟨gs, os, none⟩, 2, caps⟩, ⟨some ⟨gm, om, none⟩, w.log.length, cl0⟩⟩) 33) :: (bm, cellsO (msgC m sm) 56) :: (wldE ek1 ec1 ca1 es1 sa1 el1 la1 ++ (Y ++ L)) ∧ (True)) (w.servs).length (by exact kQ) (by exact kL) ⟨0, by omega, rfl, rfl, by trivial⟩ ?_
    rintro mz Ez Mz ⟨k, hk, rfl, rfl, hin⟩
    rcases Nat.lt_or_ge k (w.servs).length with hlt | hge
    · skip
      have hvw : w.servs[k]? = some (servOf w ((k : Int) + 4)) := by
        have := servOf_get hok (id := (k : Int) + 4) (by omega)
        rwa [show ((k : Int) + 4 - 4).toNat = k by omega] at this
      have hvx : x.servs[k]? = some (servOf w ((k : Int) + 4)) := by rw [r3 k (by omega)]; exact hvw
      obtain ⟨gp', op', ccp', Tp', frp', capp', sp', sq', hep, hmemp', hrowp, hcp⟩ := srv_get hat0 hok hvw
      obtain ⟨gr', or', ccr', Tr', frr', capr', sr', su', her, hmemr', hrowr, hcr⟩ := srv_get hat1 hokx hvx
      injection hep with e1 e2 e3
      injection her with e4 e5 e6
      injection e1 with e1
      injection e4 with e4
      injection e1 with m1 m2
      injection e4 with m3 m4
      subst m1 m2 m3 m4
      (repeat' (first | refine nI ?_ | (refine nA ?_; intro _) | (refine nW ?_; first | (refine op_call_id ?_; refine op_ro rfl rfl (by exact c_lbServT _ sr' su' sp' sq' (hcr.mono (by exact kS)) (hcp.mono (by exact kS))) ?_)) | refine nY ?_ | refine WA_alt ?_ ?_ | refine nR ?_ | refine WC_drawL (id := 5) (ops := o21x5K32) r21x5K32 (by kernel_rfl) rfl ?_ | refine WC_drawL (id := 6) (ops := o21x6K32) r21x6K32 (by kernel_rfl) rfl ?_ | refine WC_drawL (id := 12) (ops := o21x12K32) r21x12K32 (by kernel_rfl) rfl ?_ | refine WC_drawL (id := 17) (ops := o21x17K32) r21x17K32 (by kernel_rfl) rfl ?_ | refine WC_cond rfl (fun hc => ?_) (fun hc => ?_)))
      exact loopQ_next ⟨mz - 1, _, _, by omega, by exact kQ, by exact kL, k + 1, by omega, rfl, rfl, by trivial⟩
    (repeat' (first | refine nI ?_ | (refine nA ?_; intro _) | refine nY ?_ | refine WA_alt ?_ ?_ | refine nR ?_ | refine WC_drawL (id := 5) (ops := o21x5K32) r21x5K32 (by kernel_rfl) rfl ?_ | refine WC_drawL (id := 6) (ops := o21x6K32) r21x6K32 (by kernel_rfl) rfl ?_ | refine WC_drawL (id := 12) (ops := o21x12K32) r21x12K32 (by kernel_rfl) rfl ?_ | refine WC_drawL (id := 17) (ops := o21x17K32) r21x17K32 (by kernel_rfl) rfl ?_ | refine WC_cond rfl (fun hc => ?_) (fun hc => ?_)))
    refine ro_ret (by exact kR) (by exact kL) ?_; rfl
  · skip
    (repeat' (first | refine nI ?_ | (refine nA ?_; intro _) | refine nY ?_ | refine WA_alt ?_ ?_ | refine nR ?_ | refine WC_drawL (id := 5) (ops := o21x5K32) r21x5K32 (by kernel_rfl) rfl ?_ | refine WC_drawL (id := 6) (ops := o21x6K32) r21x6K32 (by kernel_rfl) rfl ?_ | refine WC_drawL (id := 12) (ops := o21x12K32) r21x12K32 (by kernel_rfl) rfl ?_ | refine WC_drawL (id := 17) (ops := o21x17K32) r21x17K32 (by kernel_rfl) rfl ?_ | refine WC_cond rfl (fun hc => ?_) (fun hc => ?_)))
    rename_i bm
    refine WC_loop (fun mz Ez Mz => ∃ k : Nat, k + mz = (w.clients).length ∧ Ez = [(3, .pointer (some ⟨bw, 0, none⟩)), (5, .pointer (some ⟨bx, 0, none⟩)), (6, .pointer (some ⟨bm, 0, none⟩)), (7, B true), (8, I k)] ∧ Mz = (bx, cellsO (worldC x ⟨kc1, ⟨some ⟨gr, or_, none⟩, 3, capr⟩, ⟨some ⟨gt, ot, none⟩, 2, capt⟩, ⟨al1, x.log.length, cl1⟩⟩) 33) :: (bw, cellsO (worldC w ⟨kc0, ⟨some ⟨gp, op, none⟩, 3, capp⟩, ⟨some ⟨gs, os, none⟩, 2, caps⟩, ⟨some ⟨gm, om, none⟩, w.log.length, cl0⟩⟩) 33) :: (bm, cellsO (msgC m sm) 56) :: (wldE ek1 ec1 ca1 es1 sa1 el1 la1 ++ (Y ++ L)) ∧ (True)) (w.clients).length (by exact kQ) (by exact kL) ⟨0, by omega, rfl, rfl, by trivial⟩ ?_
    rintro mz Ez Mz ⟨k, hk, rfl, rfl, hin⟩
    rcases Nat.lt_or_ge k (w.clients).length with hlt | hge
    · skip
      have hvw : w.clients[k]? = some (clientOf w ((k : Int) + 1)) := by
        have := clientOf_get hok (id := (k : Int) + 1) (by omega)
        rwa [show ((k : Int) + 1 - 1).toNat = k by omega] at this
      have hvx : x.clients[k]? = some (clientOf w ((k : Int) + 1)) := by rw [r2 k (by omega)]; exact hvw
      obtain ⟨gp', op', ccp', Tp', frp', capp', sp', hep, hmemp', hrowp, hcp⟩ := cli_get hat0 hok hvw
      obtain ⟨gr', or', ccr', Tr', frr', capr', sr', her, hmemr', hrowr, hcr⟩ := cli_get hat1 hokx hvx
      injection hep with e1 e2 e3
      injection her with e4 e5 e6
      injection e1 with e1
      injection e4 with e4
      injection e1 with m1 m2
      injection e4 with m3 m4
      subst m1 m2 m3 m4
      (repeat' (first | refine nI ?_ | (refine nA ?_; intro _) | (refine nW ?_; first | (refine op_call_id ?_; refine op_ro rfl rfl (by exact c_lbClientT _ sr' sp' (hcr.mono (by exact kS)) (hcp.mono (by exact kS))) ?_)) | refine nY ?_ | refine WA_alt ?_ ?_ | refine nR ?_ | refine WC_drawL (id := 5) (ops := o21x5K32) r21x5K32 (by kernel_rfl) rfl ?_ | refine WC_drawL (id := 6) (ops := o21x6K32) r21x6K32 (by kernel_rfl) rfl ?_ | refine WC_drawL (id := 12) (ops := o21x12K32) r21x12K32 (by kernel_rfl) rfl ?_ | refine WC_drawL (id := 17) (ops := o21x17K32) r21x17K32 (by kernel_rfl) rfl ?_ | refine WC_cond rfl (fun hc => ?_) (fun hc => ?_)))
      exact loopQ_next ⟨mz - 1, _, _, by omega, by exact kQ, by exact kL, k + 1, by omega, rfl, rfl, by trivial⟩
    (repeat' (first | refine nI ?_ | (refine nA ?_; intro _) | refine nY ?_ | refine WA_alt ?_ ?_ | refine nR ?_ | refine WC_drawL (id := 5) (ops := o21x5K32) r21x5K32 (by kernel_rfl) rfl ?_ | refine WC_drawL (id := 6) (ops := o21x6K32) r21x6K32 (by kernel_rfl) rfl ?_ | refine WC_drawL (id := 12) (ops := o21x12K32) r21x12K32 (by kernel_rfl) rfl ?_ | refine WC_drawL (id := 17) (ops := o21x17K32) r21x17K32 (by kernel_rfl) rfl ?_ | refine WC_cond rfl (fun hc => ?_) (fun hc => ?_)))
    clear hk hge hin
    refine WC_loop (fun mz Ez Mz => ∃ k : Nat, k + mz = (w.servs).length ∧ Ez = [(3, .pointer (some ⟨bw, 0, none⟩)), (5, .pointer (some ⟨bx, 0, none⟩)), (6, .pointer (some ⟨bm, 0, none⟩)), (7, B true), (9, I k)] ∧ Mz = (bx, cellsO (worldC x ⟨kc1, ⟨some ⟨gr, or_, none⟩, 3, capr⟩, ⟨some ⟨gt, ot, none⟩, 2, capt⟩, ⟨al1, x.log.length, cl1⟩⟩) 33) :: (bw, cellsO (worldC w ⟨kc0, ⟨some ⟨gp, op, none⟩, 3, capp⟩, ⟨some ⟨gs, os, none⟩, 2, caps⟩, ⟨some ⟨gm, om, none⟩, w.log.length, cl0⟩⟩) 33) :: (bm, cellsO (msgC m sm) 56) :: (wldE ek1 ec1 ca1 es1 sa1 el1 la1 ++ (Y ++ L)) ∧ (True)) (w.servs).length (by exact kQ) (by exact kL) ⟨0, by omega, rfl, rfl, by trivial⟩ ?_
    rintro mz Ez Mz ⟨k, hk, rfl, rfl, hin⟩
    rcases Nat.lt_or_ge k (w.servs).length with hlt | hge
    · skip
      have hvw : w.servs[k]? = some (servOf w ((k : Int) + 4)) := by
        have := servOf_get hok (id := (k : Int) + 4) (by omega)
        rwa [show ((k : Int) + 4 - 4).toNat = k by omega] at this
      have hvx : x.servs[k]? = some (servOf w ((k : Int) + 4)) := by rw [r3 k (by omega)]; exact hvw
      obtain ⟨gp', op', ccp', Tp', frp', capp', sp', sq', hep, hmemp', hrowp, hcp⟩ := srv_get hat0 hok hvw
      obtain ⟨gr', or', ccr', Tr', frr', capr', sr', su', her, hmemr', hrowr, hcr⟩ := srv_get hat1 hokx hvx
      injection hep with e1 e2 e3
      injection her with e4 e5 e6
      injection e1 with e1
      injection e4 with e4
      injection e1 with m1 m2
      injection e4 with m3 m4
      subst m1 m2 m3 m4
      (repeat' (first | refine nI ?_ | (refine nA ?_; intro _) | (refine nW ?_; first | (refine op_call_id ?_; refine op_ro rfl rfl (by exact c_lbServT _ sr' su' sp' sq' (hcr.mono (by exact kS)) (hcp.mono (by exact kS))) ?_)) | refine nY ?_ | refine WA_alt ?_ ?_ | refine nR ?_ | refine WC_drawL (id := 5) (ops := o21x5K32) r21x5K32 (by kernel_rfl) rfl ?_ | refine WC_drawL (id := 6) (ops := o21x6K32) r21x6K32 (by kernel_rfl) rfl ?_ | refine WC_drawL (id := 12) (ops := o21x12K32) r21x12K32 (by kernel_rfl) rfl ?_ | refine WC_drawL (id := 17) (ops := o21x17K32) r21x17K32 (by kernel_rfl) rfl ?_ | refine WC_cond rfl (fun hc => ?_) (fun hc => ?_)))
      exact loopQ_next ⟨mz - 1, _, _, by omega, by exact kQ, by exact kL, k + 1, by omega, rfl, rfl, by trivial⟩
    (repeat' (first | refine nI ?_ | (refine nA ?_; intro _) | refine nY ?_ | refine WA_alt ?_ ?_ | refine nR ?_ | refine WC_drawL (id := 5) (ops := o21x5K32) r21x5K32 (by kernel_rfl) rfl ?_ | refine WC_drawL (id := 6) (ops := o21x6K32) r21x6K32 (by kernel_rfl) rfl ?_ | refine WC_drawL (id := 12) (ops := o21x12K32) r21x12K32 (by kernel_rfl) rfl ?_ | refine WC_drawL (id := 17) (ops := o21x17K32) r21x17K32 (by kernel_rfl) rfl ?_ | refine WC_cond rfl (fun hc => ?_) (fun hc => ?_)))
    refine ro_ret (by exact kR) (by exact kL) ?_; rfl
  · skip
    (repeat' (first | refine nI ?_ | (refine nA ?_; intro _) | refine nY ?_ | refine WA_alt ?_ ?_ | refine nR ?_ | refine WC_drawL (id := 5) (ops := o21x5K32) r21x5K32 (by kernel_rfl) rfl ?_ | refine WC_drawL (id := 6) (ops := o21x6K32) r21x6K32 (by kernel_rfl) rfl ?_ | refine WC_drawL (id := 12) (ops := o21x12K32) r21x12K32 (by kernel_rfl) rfl ?_ | refine WC_drawL (id := 17) (ops := o21x17K32) r21x17K32 (by kernel_rfl) rfl ?_ | refine WC_cond rfl (fun hc => ?_) (fun hc => ?_)))
    rename_i bm
    refine WC_loop (fun mz Ez Mz => ∃ k : Nat, k + mz = (w.clients).length ∧ Ez = [(3, .pointer (some ⟨bw, 0, none⟩)), (5, .pointer (some ⟨bx, 0, none⟩)), (6, .pointer (some ⟨bm, 0, none⟩)), (7, B false), (8, I k)] ∧ Mz = (bx, cellsO (worldC x ⟨kc1, ⟨some ⟨gr, or_, none⟩, 3, capr⟩, ⟨some ⟨gt, ot, none⟩, 2, capt⟩, ⟨al1, x.log.length, cl1⟩⟩) 33) :: (bw, cellsO (worldC w ⟨kc0, ⟨some ⟨gp, op, none⟩, 3, capp⟩, ⟨some ⟨gs, os, none⟩, 2, caps⟩, ⟨some ⟨gm, om, none⟩, w.log.length, cl0⟩⟩) 33) :: (bm, cellsO (msgC m sm) 56) :: (wldE ek1 ec1 ca1 es1 sa1 el1 la1 ++ (Y ++ L)) ∧ (True)) (w.clients).length (by exact kQ) (by exact kL) ⟨0, by omega, rfl, rfl, by trivial⟩ ?_
    rintro mz Ez Mz ⟨k, hk, rfl, rfl, hin⟩
    rcases Nat.lt_or_ge k (w.clients).length with hlt | hge
    · skip
      have hvw : w.clients[k]? = some (clientOf w ((k : Int) + 1)) := by
        have := clientOf_get hok (id := (k : Int) + 1) (by omega)
        rwa [show ((k : Int) + 1 - 1).toNat = k by omega] at this
      have hvx : x.clients[k]? = some (clientOf w ((k : Int) + 1)) := by rw [r2 k (by omega)]; exact hvw
      obtain ⟨gp', op', ccp', Tp', frp', capp', sp', hep, hmemp', hrowp, hcp⟩ := cli_get hat0 hok hvw
      obtain ⟨gr', or', ccr', Tr', frr', capr', sr', her, hmemr', hrowr, hcr⟩ := cli_get hat1 hokx hvx
      injection hep with e1 e2 e3
      injection her with e4 e5 e6
      injection e1 with e1
      injection e4 with e4
      injection e1 with m1 m2
      injection e4 with m3 m4
      subst m1 m2 m3 m4
      (repeat' (first | refine nI ?_ | (refine nA ?_; intro _) | (refine nW ?_; first | (refine op_call_id ?_; refine op_ro rfl rfl (by exact c_lbClientT _ sr' sp' (hcr.mono (by exact kS)) (hcp.mono (by exact kS))) ?_)) | refine nY ?_ | refine WA_alt ?_ ?_ | refine nR ?_ | refine WC_drawL (id := 5) (ops := o21x5K32) r21x5K32 (by kernel_rfl) rfl ?_ | refine WC_drawL (id := 6) (ops := o21x6K32) r21x6K32 (by kernel_rfl) rfl ?_ | refine WC_drawL (id := 12) (ops := o21x12K32) r21x12K32 (by kernel_rfl) rfl ?_ | refine WC_drawL (id := 17) (ops := o21x17K32) r21x17K32 (by kernel_rfl) rfl ?_ | refine WC_cond rfl (fun hc => ?_) (fun hc => ?_)))
      exact loopQ_next ⟨mz - 1, _, _, by omega, by exact kQ, by exact kL, k + 1, by omega, rfl, rfl, by trivial⟩
    (repeat' (first | refine nI ?_ | (refine nA ?_; intro _) | refine nY ?_ | refine WA_alt ?_ ?_ | refine nR ?_ | refine WC_drawL (id := 5) (ops := o21x5K32) r21x5K32 (by kernel_rfl) rfl ?_ | refine WC_drawL (id := 6) (ops := o21x6K32) r21x6K32 (by kernel_rfl) rfl ?_ | refine WC_drawL (id := 12) (ops := o21x12K32) r21x12K32 (by kernel_rfl) rfl ?_ | refine WC_drawL (id := 17) (ops := o21x17K32) r21x17K32 (by kernel_rfl) rfl ?_ | refine WC_cond rfl (fun hc => ?_) (fun hc => ?_)))
    clear hk hge hin
    refine WC_loop (fun mz Ez Mz => ∃ k : Nat, k + mz = (w.servs).length ∧ Ez = [(3, .pointer (some ⟨bw, 0, none⟩)), (5, .pointer (some ⟨bx, 0, none⟩)), (6, .pointer (some ⟨bm, 0, none⟩)), (7, B false), (9, I k)] ∧ Mz = (bx, cellsO (worldC x ⟨kc1, ⟨some ⟨gr, or_, none⟩, 3, capr⟩, ⟨some ⟨gt, ot, none⟩, 2, capt⟩, ⟨al1, x.log.length, cl1⟩⟩) 33) :: (bw, cellsO (worldC w ⟨kc0, ⟨some ⟨gp, op, none⟩, 3, capp⟩, ⟨some ⟨gs, os, none⟩, 2, caps⟩, ⟨some ⟨gm, om, none⟩, w.log.length, cl0⟩⟩) 33) :: (bm, cellsO (msgC m sm) 56) :: (wldE ek1 ec1 ca1 es1 sa1 el1 la1 ++ (Y ++ L)) ∧ (True)) (w.servs).length (by exact kQ) (by exact kL) ⟨0, by omega, rfl, rfl, by trivial⟩ ?_
    rintro mz Ez Mz ⟨k, hk, rfl, rfl, hin⟩
    rcases Nat.lt_or_ge k (w.servs).length with hlt | hge
    · by_cases hmk : m.serv = (k : Int) + 4
      · have hvw : w.servs[k]? = some (servOf w ((k : Int) + 4)) := by
          have := servOf_get hok (id := (k : Int) + 4) (by omega)
          rwa [show ((k : Int) + 4 - 4).toNat = k by omega] at this
        obtain ⟨gp', op', ccp', Tp', frp', capp', sp', sq', hep, hmemp', hrowp, hcp⟩ := srv_get hat0 hok hvw
        injection hep with e1 e2 e3
        injection e1 with e1
        injection e1 with m1 m2
        subst m1 m2
        have hsid := (servOf_ok hok (id := (k : Int) + 4) (by omega)).2
        (repeat' (first | refine nI ?_ | (refine nA ?_; intro _) | refine nY ?_ | refine WA_alt ?_ ?_ | refine nR ?_ | refine WC_drawL (id := 5) (ops := o21x5K32) r21x5K32 (by kernel_rfl) rfl ?_ | refine WC_drawL (id := 6) (ops := o21x6K32) r21x6K32 (by kernel_rfl) rfl ?_ | refine WC_drawL (id := 12) (ops := o21x12K32) r21x12K32 (by kernel_rfl) rfl ?_ | refine WC_drawL (id := 17) (ops := o21x17K32) r21x17K32 (by kernel_rfl) rfl ?_ | refine WC_cond rfl (fun hc => ?_) (fun hc => ?_)))
        exact loopQ_next ⟨mz - 1, _, _, by omega, by exact kQ, by exact kL, k + 1, by omega, rfl, rfl, by trivial⟩
      have hsid := (servOf_ok hok (id := (k : Int) + 4) (by omega)).2
      have hvw : w.servs[k]? = some (servOf w ((k : Int) + 4)) := by
        have := servOf_get hok (id := (k : Int) + 4) (by omega)
        rwa [show ((k : Int) + 4 - 4).toNat = k by omega] at this
      have hvx : x.servs[k]? = some (servOf w ((k : Int) + 4)) := by rw [r3 k (by omega)]; exact hvw
      obtain ⟨gp', op', ccp', Tp', frp', capp', sp', sq', hep, hmemp', hrowp, hcp⟩ := srv_get hat0 hok hvw
      obtain ⟨gr', or', ccr', Tr', frr', capr', sr', su', her, hmemr', hrowr, hcr⟩ := srv_get hat1 hokx hvx
      injection hep with e1 e2 e3
      injection her with e4 e5 e6
      injection e1 with e1
      injection e4 with e4
      injection e1 with m1 m2
      injection e4 with m3 m4
      subst m1 m2 m3 m4
      (repeat' (first | refine nI ?_ | (refine nA ?_; intro _) | (refine nW ?_; first | (refine op_call_id ?_; refine op_ro rfl rfl (by exact c_lbServT _ sr' su' sp' sq' (hcr.mono (by exact kS)) (hcp.mono (by exact kS))) ?_)) | refine nY ?_ | refine WA_alt ?_ ?_ | refine nR ?_ | refine WC_drawL (id := 5) (ops := o21x5K32) r21x5K32 (by kernel_rfl) rfl ?_ | refine WC_drawL (id := 6) (ops := o21x6K32) r21x6K32 (by kernel_rfl) rfl ?_ | refine WC_drawL (id := 12) (ops := o21x12K32) r21x12K32 (by kernel_rfl) rfl ?_ | refine WC_drawL (id := 17) (ops := o21x17K32) r21x17K32 (by kernel_rfl) rfl ?_ | refine WC_cond rfl (fun hc => ?_) (fun hc => ?_)))
      exact loopQ_next ⟨mz - 1, _, _, by omega, by exact kQ, by exact kL, k + 1, by omega, rfl, rfl, by trivial⟩
    have hkd := r1.resolve_left (by omega)
    (repeat' (first | refine nI ?_ | (refine nA ?_; intro _) | (refine nW ?_; first | (refine op_call_id ?_; refine op_ro rfl rfl (by exact (c_lbKdc x.kdc w.kdc kc1 kc0 (hat1.kc.mono (by exact kS)) (hat0.kc.mono (by exact kS))).eq (congrArg B (decide_eq_true hkd))) ?_)) | refine nY ?_ | refine WA_alt ?_ ?_ | refine nR ?_ | refine WC_drawL (id := 5) (ops := o21x5K32) r21x5K32 (by kernel_rfl) rfl ?_ | refine WC_drawL (id := 6) (ops := o21x6K32) r21x6K32 (by kernel_rfl) rfl ?_ | refine WC_drawL (id := 12) (ops := o21x12K32) r21x12K32 (by kernel_rfl) rfl ?_ | refine WC_drawL (id := 17) (ops := o21x17K32) r21x17K32 (by kernel_rfl) rfl ?_ | refine WC_cond rfl (fun hc => ?_) (fun hc => ?_)))
    refine ro_ret (by exact kR) (by exact kL) ?_; rfl
  · obtain ⟨hm1, hm3, hm5⟩ := hmk
    (repeat' (first | refine nI ?_ | (refine nA ?_; intro _) | refine nY ?_ | refine WA_alt ?_ ?_ | refine nR ?_ | refine WC_drawL (id := 5) (ops := o21x5K32) r21x5K32 (by kernel_rfl) rfl ?_ | refine WC_drawL (id := 6) (ops := o21x6K32) r21x6K32 (by kernel_rfl) rfl ?_ | refine WC_drawL (id := 12) (ops := o21x12K32) r21x12K32 (by kernel_rfl) rfl ?_ | refine WC_drawL (id := 17) (ops := o21x17K32) r21x17K32 (by kernel_rfl) rfl ?_ | refine WC_cond rfl (fun hc => ?_) (fun hc => ?_)))
    rename_i bm
    refine WC_loop (fun mz Ez Mz => ∃ k : Nat, k + mz = (w.clients).length ∧ Ez = [(3, .pointer (some ⟨bw, 0, none⟩)), (5, .pointer (some ⟨bx, 0, none⟩)), (6, .pointer (some ⟨bm, 0, none⟩)), (7, B false), (8, I k)] ∧ Mz = (bx, cellsO (worldC x ⟨kc1, ⟨some ⟨gr, or_, none⟩, 3, capr⟩, ⟨some ⟨gt, ot, none⟩, 2, capt⟩, ⟨al1, x.log.length, cl1⟩⟩) 33) :: (bw, cellsO (worldC w ⟨kc0, ⟨some ⟨gp, op, none⟩, 3, capp⟩, ⟨some ⟨gs, os, none⟩, 2, caps⟩, ⟨some ⟨gm, om, none⟩, w.log.length, cl0⟩⟩) 33) :: (bm, cellsO (msgC m sm) 56) :: (wldE ek1 ec1 ca1 es1 sa1 el1 la1 ++ (Y ++ L)) ∧ (True)) (w.clients).length (by exact kQ) (by exact kL) ⟨0, by omega, rfl, rfl, by trivial⟩ ?_
    rintro mz Ez Mz ⟨k, hk, rfl, rfl, hin⟩
    rcases Nat.lt_or_ge k (w.clients).length with hlt | hge
    · by_cases hme2 : m.client = (k : Int) + 1
      · by_cases hmb : m.client = w.bad
        · skip
          have hvw : w.clients[k]? = some (clientOf w ((k : Int) + 1)) := by
            have := clientOf_get hok (id := (k : Int) + 1) (by omega)
            rwa [show ((k : Int) + 1 - 1).toNat = k by omega] at this
          have hvx : x.clients[k]? = some (clientOf w ((k : Int) + 1)) := by rw [r2 k (by omega)]; exact hvw
          obtain ⟨gp', op', ccp', Tp', frp', capp', sp', hep, hmemp', hrowp, hcp⟩ := cli_get hat0 hok hvw
          obtain ⟨gr', or', ccr', Tr', frr', capr', sr', her, hmemr', hrowr, hcr⟩ := cli_get hat1 hokx hvx
          injection hep with e1 e2 e3
          injection her with e4 e5 e6
          injection e1 with e1
          injection e4 with e4
          injection e1 with m1 m2
          injection e4 with m3 m4
          subst m1 m2 m3 m4
          (repeat' (first | refine nI ?_ | (refine nA ?_; intro _) | (refine nW ?_; first | (refine op_call_id ?_; refine op_ro rfl rfl (by exact c_lbClientT _ sr' sp' (hcr.mono (by exact kS)) (hcp.mono (by exact kS))) ?_)) | refine nY ?_ | refine WA_alt ?_ ?_ | refine nR ?_ | refine WC_drawL (id := 5) (ops := o21x5K32) r21x5K32 (by kernel_rfl) rfl ?_ | refine WC_drawL (id := 6) (ops := o21x6K32) r21x6K32 (by kernel_rfl) rfl ?_ | refine WC_drawL (id := 12) (ops := o21x12K32) r21x12K32 (by kernel_rfl) rfl ?_ | refine WC_drawL (id := 17) (ops := o21x17K32) r21x17K32 (by kernel_rfl) rfl ?_ | refine WC_cond rfl (fun hc => ?_) (fun hc => ?_)))
          exact loopQ_next ⟨mz - 1, _, _, by omega, by exact kQ, by exact kL, k + 1, by omega, rfl, rfl, by trivial⟩
        · (repeat' (first | refine nI ?_ | (refine nA ?_; intro _) | refine nY ?_ | refine WA_alt ?_ ?_ | refine nR ?_ | refine WC_drawL (id := 5) (ops := o21x5K32) r21x5K32 (by kernel_rfl) rfl ?_ | refine WC_drawL (id := 6) (ops := o21x6K32) r21x6K32 (by kernel_rfl) rfl ?_ | refine WC_drawL (id := 12) (ops := o21x12K32) r21x12K32 (by kernel_rfl) rfl ?_ | refine WC_drawL (id := 17) (ops := o21x17K32) r21x17K32 (by kernel_rfl) rfl ?_ | refine WC_cond rfl (fun hc => ?_) (fun hc => ?_)))
          exact loopQ_next ⟨mz - 1, _, _, by omega, by exact kQ, by exact kL, k + 1, by omega, rfl, rfl, by trivial⟩
      have hvw : w.clients[k]? = some (clientOf w ((k : Int) + 1)) := by
        have := clientOf_get hok (id := (k : Int) + 1) (by omega)
        rwa [show ((k : Int) + 1 - 1).toNat = k by omega] at this
      have hvx : x.clients[k]? = some (clientOf w ((k : Int) + 1)) := by rw [r2 k (by omega)]; exact hvw
      obtain ⟨gp', op', ccp', Tp', frp', capp', sp', hep, hmemp', hrowp, hcp⟩ := cli_get hat0 hok hvw
      obtain ⟨gr', or', ccr', Tr', frr', capr', sr', her, hmemr', hrowr, hcr⟩ := cli_get hat1 hokx hvx
      injection hep with e1 e2 e3
      injection her with e4 e5 e6
      injection e1 with e1
      injection e4 with e4
      injection e1 with m1 m2
      injection e4 with m3 m4
      subst m1 m2 m3 m4
      (repeat' (first | refine nI ?_ | (refine nA ?_; intro _) | (refine nW ?_; first | (refine op_call_id ?_; refine op_ro rfl rfl (by exact c_lbClientT _ sr' sp' (hcr.mono (by exact kS)) (hcp.mono (by exact kS))) ?_)) | refine nY ?_ | refine WA_alt ?_ ?_ | refine nR ?_ | refine WC_drawL (id := 5) (ops := o21x5K32) r21x5K32 (by kernel_rfl) rfl ?_ | refine WC_drawL (id := 6) (ops := o21x6K32) r21x6K32 (by kernel_rfl) rfl ?_ | refine WC_drawL (id := 12) (ops := o21x12K32) r21x12K32 (by kernel_rfl) rfl ?_ | refine WC_drawL (id := 17) (ops := o21x17K32) r21x17K32 (by kernel_rfl) rfl ?_ | refine WC_cond rfl (fun hc => ?_) (fun hc => ?_)))
      exact loopQ_next ⟨mz - 1, _, _, by omega, by exact kQ, by exact kL, k + 1, by omega, rfl, rfl, by trivial⟩
    (repeat' (first | refine nI ?_ | (refine nA ?_; intro _) | refine nY ?_ | refine WA_alt ?_ ?_ | refine nR ?_ | refine WC_drawL (id := 5) (ops := o21x5K32) r21x5K32 (by kernel_rfl) rfl ?_ | refine WC_drawL (id := 6) (ops := o21x6K32) r21x6K32 (by kernel_rfl) rfl ?_ | refine WC_drawL (id := 12) (ops := o21x12K32) r21x12K32 (by kernel_rfl) rfl ?_ | refine WC_drawL (id := 17) (ops := o21x17K32) r21x17K32 (by kernel_rfl) rfl ?_ | refine WC_cond rfl (fun hc => ?_) (fun hc => ?_)))
    clear hk hge hin
    refine WC_loop (fun mz Ez Mz => ∃ k : Nat, k + mz = (w.servs).length ∧ Ez = [(3, .pointer (some ⟨bw, 0, none⟩)), (5, .pointer (some ⟨bx, 0, none⟩)), (6, .pointer (some ⟨bm, 0, none⟩)), (7, B false), (9, I k)] ∧ Mz = (bx, cellsO (worldC x ⟨kc1, ⟨some ⟨gr, or_, none⟩, 3, capr⟩, ⟨some ⟨gt, ot, none⟩, 2, capt⟩, ⟨al1, x.log.length, cl1⟩⟩) 33) :: (bw, cellsO (worldC w ⟨kc0, ⟨some ⟨gp, op, none⟩, 3, capp⟩, ⟨some ⟨gs, os, none⟩, 2, caps⟩, ⟨some ⟨gm, om, none⟩, w.log.length, cl0⟩⟩) 33) :: (bm, cellsO (msgC m sm) 56) :: (wldE ek1 ec1 ca1 es1 sa1 el1 la1 ++ (Y ++ L)) ∧ (True)) (w.servs).length (by exact kQ) (by exact kL) ⟨0, by omega, rfl, rfl, by trivial⟩ ?_
    rintro mz Ez Mz ⟨k, hk, rfl, rfl, hin⟩
    rcases Nat.lt_or_ge k (w.servs).length with hlt | hge
    · skip
      have hvw : w.servs[k]? = some (servOf w ((k : Int) + 4)) := by
        have := servOf_get hok (id := (k : Int) + 4) (by omega)
        rwa [show ((k : Int) + 4 - 4).toNat = k by omega] at this
      have hvx : x.servs[k]? = some (servOf w ((k : Int) + 4)) := by rw [r3 k (by omega)]; exact hvw
      obtain ⟨gp', op', ccp', Tp', frp', capp', sp', sq', hep, hmemp', hrowp, hcp⟩ := srv_get hat0 hok hvw
      obtain ⟨gr', or', ccr', Tr', frr', capr', sr', su', her, hmemr', hrowr, hcr⟩ := srv_get hat1 hokx hvx
      injection hep with e1 e2 e3
      injection her with e4 e5 e6
      injection e1 with e1
      injection e4 with e4
      injection e1 with m1 m2
      injection e4 with m3 m4
      subst m1 m2 m3 m4
      (repeat' (first | refine nI ?_ | (refine nA ?_; intro _) | (refine nW ?_; first | (refine op_call_id ?_; refine op_ro rfl rfl (by exact c_lbServT _ sr' su' sp' sq' (hcr.mono (by exact kS)) (hcp.mono (by exact kS))) ?_)) | refine nY ?_ | refine WA_alt ?_ ?_ | refine nR ?_ | refine WC_drawL (id := 5) (ops := o21x5K32) r21x5K32 (by kernel_rfl) rfl ?_ | refine WC_drawL (id := 6) (ops := o21x6K32) r21x6K32 (by kernel_rfl) rfl ?_ | refine WC_drawL (id := 12) (ops := o21x12K32) r21x12K32 (by kernel_rfl) rfl ?_ | refine WC_drawL (id := 17) (ops := o21x17K32) r21x17K32 (by kernel_rfl) rfl ?_ | refine WC_cond rfl (fun hc => ?_) (fun hc => ?_)))
      exact loopQ_next ⟨mz - 1, _, _, by omega, by exact kQ, by exact kL, k + 1, by omega, rfl, rfl, by trivial⟩
    have hkd := r1.resolve_left (by omega)
    (repeat' (first | refine nI ?_ | (refine nA ?_; intro _) | (refine nW ?_; first | (refine op_call_id ?_; refine op_ro rfl rfl (by exact (c_lbKdc x.kdc w.kdc kc1 kc0 (hat1.kc.mono (by exact kS)) (hat0.kc.mono (by exact kS))).eq (congrArg B (decide_eq_true hkd))) ?_)) | refine nY ?_ | refine WA_alt ?_ ?_ | refine nR ?_ | refine WC_drawL (id := 5) (ops := o21x5K32) r21x5K32 (by kernel_rfl) rfl ?_ | refine WC_drawL (id := 6) (ops := o21x6K32) r21x6K32 (by kernel_rfl) rfl ?_ | refine WC_drawL (id := 12) (ops := o21x12K32) r21x12K32 (by kernel_rfl) rfl ?_ | refine WC_drawL (id := 17) (ops := o21x17K32) r21x17K32 (by kernel_rfl) rfl ?_ | refine WC_cond rfl (fun hc => ?_) (fun hc => ?_)))
    refine ro_ret (by exact kR) (by exact kL) ?_; rfl
end Go.Proofs.YtkdlkclanlkebaaGreat
/- The law FnWorldBring: for all that comes in the call returns true, and what came in reads as before. No condition. (The frame by the kit's program, the walk by ours.) -/
namespace Go.Proofs.YtkdlkclanlkebaaGreat.fnWorldBring
open Go.ChangeShapes Go.WideShapes Go.ChangeAt Go.RowKit
open Go.ChangeMaps (open_string shut_string)
set_option linter.unusedVariables false

theorem own : ownKnob Tryz.prog.godebug = none := by kernel_rfl
theorem laidOut : laidOutB Tryz.prog = true := by kernel_rfl

def IsRow (k : IntKind) (w : Go.World) (a : Option Addr) (len cap : Nat) (zs : List Int) : Prop :=
  (a = none ∧ len = 0 ∧ cap = 0 ∧ zs = []) ∨
  ∃ x, a = some x ∧ len ≤ cap ∧ cap ≤ maxLen ∧ zs.length = cap ∧ (∀ i, i < zs.length → w.cell? (x.add i) = some (.int k (zs.getD i 0))) ∧ ∀ n ∈ zs, (Lit.int k n).wf = true

theorem walk (a0 : Option Addr) (len0 cap0 : Nat) (z0 : List Int) (w : Go.World) (w0 : IsRow .u8 w a0 len0 cap0 z0) :
    Calls Tryz.prog 21 #[.slice a0 len0 cap0] w fun e w' => e = .returned (.bool true) ∧ Below w.heap.size w w' := by
  exact walk_of (by
    by_cases hb : 1048576 < len0
    · exact c_FnWorldBringBig a0 len0 cap0 hb
    · exact c_FnWorldBring1 a0 len0 cap0 (z0.take len0) (bytes_at w0) (by omega))

set_option maxRecDepth 100000 in
theorem lifted (os : Os) (started : os.Started) (H : Type) (enc : TypeId × Value → H) :
    ReturnsInHanded {} Tryz.checked os 21 .any (Rows.fnWorldBringSpec.pre6 enc Tryz.prog Tryz.f21 Rows.fnWorldBringRow.domain false) (Rows.fnWorldBringSpec.post enc Tryz.prog Tryz.f21 false true false false) := by
  refine returnsInHanded_of_change (C := Tryz.checked) own started (by kernel_rfl) Tryz.func21
    (ChangeSpec.witness6 (enc := enc) (C := Tryz.checked) false ⟨#[], #[.slice none 0 0], []⟩ 8 (by kernel_rfl) (by kernel_rfl) (by kernel_rfl) (by kernel_rfl)) ?_
  intro W base args ds gs before hval0 hW hcnd _
  have hval : ∀ (j : Nat) t v, Tryz.f21.params[j]? = some t → args[j]? = some v → Value.okWide Tryz.prog W .any base t v := hval0
  have hW' := hW
  obtain ⟨p, q, hA0, hV, rfl, hfz, hnd⟩ := hW
  have hA : DataW.TrodAll enc Tryz.prog W 0 (fun _ => true) true Tryz.f21.params.toList args.toList ds p := hA0
  rw [Tryz.params21] at hA hval
  obtain ⟨v0, vs0, d0, ds0, p0, q0, hargs, rfl, rfl, h0, r0⟩ := trodAll_cons hA
  obtain ⟨rfl, rfl, rfl⟩ := trodAll_nil r0
  obtain rfl : args = #[v0] := by cases args; simp_all
  obtain ⟨rfl, rfl⟩ := trodVars_none hV
  obtain ⟨a0, len0, cap0, rfl⟩ := okWide_slice Tryz.underlying22 (hval 0 22 v0 rfl rfl)
  have k0 := h0
  have lt0 : ∀ x ∈ p0, x.block < W.heap.size := by obtain ⟨m, hm⟩ := k0; exact DataW.trod_lt m _ _ _ hm
  obtain ⟨z0, w0⟩ : ∃ zs, IsRow .u8 W a0 len0 cap0 zs := by
    obtain ⟨fuel, hf⟩ := h0
    rcases open_ints Tryz.underlying22 Tryz.underlying5 (by kernel_rfl) hf with ⟨hcs, _⟩ | ⟨x, l, c, zs, hcs, _, hl, hm, hz, _, hcell, hwz⟩
    · simp [Value.cells] at hcs
      obtain ⟨rfl, rfl, rfl⟩ := hcs
      exact ⟨[], .inl ⟨rfl, rfl, rfl, rfl⟩⟩
    · simp [Value.cells] at hcs
      obtain ⟨rfl, rfl, rfl⟩ := hcs
      exact ⟨zs, .inr ⟨_, rfl, hl, hm, by simpa using hz, hcell, hwz⟩⟩
  clear hA0 hval0
  refine (walk a0 len0 cap0 z0 W w0).mono fun e W' ⟨he, bel⟩ => ?_
  subst he
  exact ⟨_, rfl, _, _, _, [], _, [], hW', trodAll_mk1 (shut_bool Tryz.underlying4 _), (trodAll_cons_mk (Below.trod laidOut (by kernel_rfl) (of_decide_eq_true (by kernel_rfl)) k0 bel lt0) trodAll_mk0), rfl, bel.frame _, fun h => by cases h⟩

theorem closed : joinedFacts Tryz.prog 21 Tryz.f21 Rows.fnWorldBringSpec Rows.fnWorldBringRow = true := by
  unfold joinedFacts
  iterate 31 (refine and_t ?_ ?_)
  · kernel_rfl
  · kernel_rfl
  · kernel_rfl
  · kernel_rfl
  · kernel_rfl
  · kernel_rfl
  · kernel_rfl
  · kernel_rfl
  · kernel_rfl
  · kernel_rfl
  · kernel_rfl
  · kernel_rfl
  · kernel_rfl
  · kernel_rfl
  · kernel_rfl
  · kernel_rfl
  · kernel_rfl
  · kernel_rfl
  · kernel_rfl
  · kernel_rfl
  · kernel_rfl
  · kernel_rfl
  · kernel_rfl
  · kernel_rfl
  · kernel_rfl
  · exact may_enter
  · rw [lifts_final]; kernel_rfl
  · rw [make_is]; kernel_rfl
  · kernel_rfl
  · kernel_rfl
  · kernel_rfl
  · kernel_rfl
theorem over : Rows.fnWorldBringRow.holds Tryz.pinned (OpenSpec.ofChange Rows.fnWorldBringSpec) :=
  OpenClaim.holds_of_wide 21 Tryz.f21 rfl rfl rfl rfl rfl rfl rfl ⟨rfl, rfl, rfl, rfl, rfl⟩ rfl rfl rfl rfl rfl (by kernel_rfl) Tryz.func21 closed
    (of_decide_eq_true (by kernel_rfl)) (by unfold Func.isWrapper; first | (rw [if_pos (by decide +kernel)]; kernel_rfl) | (rw [if_neg (by decide +kernel)]; exact ⟨rfl, rfl⟩))
    (fun os started H enc _ => lifted os started H enc)

theorem proved : Rows.FnWorldBringSaid := over
end Go.Proofs.YtkdlkclanlkebaaGreat.fnWorldBring
