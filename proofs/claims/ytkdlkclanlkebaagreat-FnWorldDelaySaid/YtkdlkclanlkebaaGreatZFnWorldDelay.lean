/- The law: what comes too late is not taken. -/
import Derived.Test.YtkdlkclanlkebaaGreatRows
import Derived.WalkKit
import Derived.ProofKit
import Derived.OpenShut
import Derived.ShutString
import Derived.ChangeOld
import Derived.Below
import Derived.Test.YtkdlkclanlkebaaGreatA11
import Derived.Test.YtkdlkclanlkebaaGreatA12
import Derived.Test.YtkdlkclanlkebaaGreatA14
set_option linter.unusedVariables false
set_option linter.unusedSectionVars false
set_option linter.unusedSimpArgs false
namespace Go.Proofs.YtkdlkclanlkebaaGreat
open Go Go.Proofs Go.Proofs.YtkdlkclanlkebaaGreat.VE
attribute [local irreducible] Val Op1 WO WR WA WC seqQ blockQ loopQ retQ
noncomputable def o8x18K18 : Array Oper := cops (cl (cl (cl (cr (cl (cl (cr (cl (cr (cr (cr (cr (cr (cr (cr (cr (cr (codeOf Tryz.f8))))))))))))))))))
noncomputable def o8x23K18 : Array Oper := cops (cl (cl (cl (cr (cl (cl (cr (cl (cr (cr (cr (cr (cr (cr (cr (cr (cr (cr (codeOf Tryz.f8)))))))))))))))))))
noncomputable def r8x18K18 : Run := (.st 0 0 (.st 1 1 (.st 2 0 (.st 3 0 (.st 4 0 (.st 5 1 (.st 6 0 (.st 7 0 (.st 8 0 (.st 9 1 (.st 10 0 (.st 11 0 (.st 12 0 (.st 13 1 (.st 14 0 (.st 15 0 (.st 16 1 (.st 17 0 (.st 18 0 (.st 19 0 (.st 20 0 (.st 21 1 (.st 22 0 (.st 23 0 (.st 24 0 (.st 25 1 (.st 26 0 (.st 27 0 (.st 28 1 (.st 29 0 (.st 30 1 (.st 31 0 (.st 32 0 .done)))))))))))))))))))))))))))))))))
noncomputable def r8x23K18 : Run := (.st 0 0 (.st 1 1 (.st 2 0 (.st 3 0 (.st 4 0 (.st 5 1 (.st 6 0 (.st 7 1 (.st 8 0 (.st 9 0 (.st 10 0 (.st 11 1 (.st 12 3 (.st 13 0 .done))))))))))))))
set_option maxHeartbeats 8000000
def tickN (w : World) : Nat → World
  | 0 => w
  | n + 1 => tick (tickN w n)
theorem tickN_facts {w : World} (h : WOk w) : ∀ n : Nat, WOk (tickN w n) ∧ (tickN w n).log = w.log ∧ (tickN w n).servs = w.servs
  | 0 => ⟨h, rfl, rfl⟩
  | n + 1 => ⟨tick_ok (tickN_facts h n).1, (tickN_facts h n).2.1, (tickN_facts h n).2.2⟩
theorem c_FnWorldDelayBig {L : List Ent} (a : Option Addr) (n c : Nat) (hn : 1048576 < n) : RO Tryz.prog 8 [.slice a n c] L (B true) := by
  refine Tri.of Tryz.func8 rfl rfl Tryz.ntmps8 rfl rfl ?_
  (repeat' (first | refine nI ?_ | (refine nA ?_; intro _) | refine nY ?_ | refine WA_alt ?_ ?_ | refine nR ?_ | refine WC_drawL (id := 18) (ops := o8x18K18) r8x18K18 (by kernel_rfl) rfl ?_ | refine WC_drawL (id := 23) (ops := o8x23K18) r8x23K18 (by kernel_rfl) rfl ?_ | refine WC_cond rfl (fun hc => ?_) (fun hc => ?_)))
  refine ro_ret (by exact kR) (by exact kL) ?_; rfl
theorem c_FnWorldDelay1 {L : List Ent} (a : Option Addr) (n c : Nat) (bs : List Int) (h : BytesIn L a n c bs) (hlen : n ≤ 1048576) : RO Tryz.prog 8 [.slice a n c] L (B true) := by
  have hat := h.at_ hlen
  have hby := h.byte
  have hn := hat.1
  dsimp only at hn
  subst hn
  refine Tri.of Tryz.func8 rfl rfl Tryz.ntmps8 rfl rfl ?_
  (repeat' (first | refine nI ?_ | (refine nA ?_; intro _) | (refine nW ?_; first | (refine op_call_id ?_; refine op_call rfl (c_drawWorldPlay ⟨a, bs.length, c⟩ bs (hat.mono (by exact kS)) hby) rfl ?_; rintro _ _ ⟨bad, ⟨a2, n2, c2⟩, evs, ee, rfl, ⟨hse, hms⟩, rfl⟩)) | refine nY ?_ | refine WA_alt ?_ ?_ | refine nR ?_ | refine WC_drawL (id := 18) (ops := o8x18K18) r8x18K18 (by kernel_rfl) rfl ?_ | refine WC_drawL (id := 23) (ops := o8x23K18) r8x23K18 (by kernel_rfl) rfl ?_ | refine WC_cond rfl (fun hc => ?_) (fun hc => ?_)))
  by_cases hgo : within bad 0 3 = true ∧ evs.length ≤ 70
  rotate_left
  · (repeat' (first | refine nI ?_ | (refine nA ?_; intro _) | (refine nW ?_; first | (refine op_call_id ?_; refine op_ro rfl rfl (by first | exact c_worldPlay0 bad ⟨a2, n2, c2⟩ evs (hse.mono (by exact kS)) (not_go hgo) | exact c_sWorldPlay0 bad ⟨a2, n2, c2⟩ evs (hse.mono (by exact kS)) (not_go hgo) | exact c_lbWorldT World.zero WSl.nil WSl.nil [] [] [] [] [] [] (zeroAt _) (zeroAt _)) ?_) | refine op_val rfl (by first | exact val_neqB_f rfl rfl rfl | exact val_eqlB_t rfl rfl rfl) ?_) | (refine WR_id ?_; refine WR_pure rfl rfl rfl (by first | exact val_neqB_f rfl rfl rfl | exact val_eqlB_t rfl rfl rfl) ?_) | refine nY ?_ | refine WA_alt ?_ ?_ | refine nR ?_ | refine WC_drawL (id := 18) (ops := o8x18K18) r8x18K18 (by kernel_rfl) rfl ?_ | refine WC_drawL (id := 23) (ops := o8x23K18) r8x23K18 (by kernel_rfl) rfl ?_ | refine WC_cond rfl (fun hc => ?_) (fun hc => ?_)))
    refine ro_ret (by exact kR) (by exact kL) ?_; rfl
  obtain ⟨hb, h70⟩ := hgo
  have hn2 := hse.1
  dsimp only at hn2
  subst hn2
  obtain ⟨w, hw⟩ : ∃ w, play (worldNew bad) (evs.map Prod.fst) = w := ⟨_, rfl⟩
  have hplayed := played hb hw
  (repeat' (first | refine nI ?_ | (refine nA ?_; intro _) | (refine nW ?_; first | (refine op_call_id ?_; refine op_ro rfl rfl (by exact c_lbWorldT w q1 q2 ps1 ps2 ss1 ss2 ms1 ms2 (hown1.at.mono (by exact kS)) (hown2.at.mono (by exact kS))) ?_) | (refine op_call_id ?_; refine op_call rfl (c_worldPlayW (sev := ⟨a2, evs.length, c2⟩) (evs := evs) hw (hse.mono (by exact kS)) (fun p hp => (hms p hp).mono (by exact kS)) hb h70) rfl ?_; rintro _ _ ⟨q1, ps1, ss1, ms1, ek1, ec1, ca1, es1, sa1, el1, la1, rfl, hown1, rfl⟩) | (refine op_call_id ?_; refine op_call rfl (c_sWorldPlayW (sev := ⟨a2, evs.length, c2⟩) (evs := evs) hw (hse.mono (by exact kS)) (fun p hp => (hms p hp).mono (by exact kS)) hb h70) rfl ?_; rintro _ _ ⟨q2, ps2, ss2, ms2, ek2, ec2, ca2, es2, sa2, el2, la2, rfl, hown2, rfl⟩) | refine op_val rfl (by first | exact val_neqB_f rfl rfl rfl | exact val_eqlB_t rfl rfl rfl) ?_) | (refine WR_id ?_; refine WR_pure rfl rfl rfl (by first | exact val_neqB_f rfl rfl rfl | exact val_eqlB_t rfl rfl rfl) ?_) | refine nY ?_ | refine WA_alt ?_ ?_ | refine nR ?_ | refine WC_drawL (id := 18) (ops := o8x18K18) r8x18K18 (by kernel_rfl) rfl ?_ | refine WC_drawL (id := 23) (ops := o8x23K18) r8x23K18 (by kernel_rfl) rfl ?_ | refine WC_cond rfl (fun hc => ?_) (fun hc => ?_)))
  rename_i b5 b7 b9
  have hinv := hplayed.inv
  have hok := hinv.ok
  have htk := hplayed.took.up h70
  have hwn := hok.now
  obtain ⟨kc1, cs1, sv1, ⟨al1, nl1, cl1⟩⟩ := q1
  have hat1 := hown1.at
  have hnl1 := log_len hat1
  subst hnl1
  have hll := hok.ll
  have hl4 : (List.range 4).length = 4 := List.length_range
  refine WC_loop (fun mz Ez Mz => ∃ (k : Nat) (z : World) (q : WSl) (ps : List (Client × CSl)) (ss : List (Serv × (Sl × Sl))) (ms : List (Msg × Sl)) (X : List Ent), k + mz = (List.range 4).length ∧ Ez = [(5, .pointer (some ⟨b5, 0, none⟩)), (9, .pointer (some ⟨b9, 0, none⟩)), (10, I k)] ∧ Mz = (b9, cellsO (worldC z q) 33) :: (b5, cellsO (worldC w ⟨kc1, cs1, sv1, ⟨al1, w.log.length, cl1⟩⟩) 33) :: (X ++ (wldE ek1 ec1 ca1 es1 sa1 el1 la1 ++ L)) ∧ (z = tickN w k ∧ WldAt (X ++ (wldE ek1 ec1 ca1 es1 sa1 el1 la1 ++ L)) z q ps ss ms)) (List.range 4).length (by exact kQ) (by exact kL) ⟨0, w, ⟨kc1, cs1, sv1, ⟨al1, w.log.length, cl1⟩⟩, ps1, ss1, ms1, [], by omega, rfl, rfl, by exact ⟨rfl, hat1.mono (fun e he => List.mem_append_right [] (List.mem_append_left _ he))⟩⟩ ?_
  rintro mz Ez Mz ⟨k, z, q, ps, ss, ms, X, hk, rfl, rfl, hin⟩
  rcases Nat.lt_or_ge k (List.range 4).length with hlt | hge
  · obtain ⟨hz, hatz⟩ := hin
    obtain ⟨hokz, hlz, hsz⟩ := tickN_facts hok k
    rw [← hz] at hokz hlz hsz
    have hst : step z ⟨6, 0, 0, Msg.zero⟩ = tickN w (k + 1) := by rw [step_tick, hz]; rfl
    (repeat' (first | refine nI ?_ | (refine nA ?_; intro _) | (refine nW ?_; first | (refine op_call_id ?_; refine op_call rfl (c_worldDo hst q ps ss ms (hatz.mono (by exact kS)) hokz ((htk.same hsz).up (by omega)) Sl.nil SliceAt.nil) rfl ?_; rintro _ _ ⟨q9, ps9, ss9, ms9, ek9, ec9, ca9, es9, sa9, el9, la9, rfl, ho9, rfl⟩)) | refine nY ?_ | refine WA_alt ?_ ?_ | refine nR ?_ | refine WC_drawL (id := 18) (ops := o8x18K18) r8x18K18 (by kernel_rfl) rfl ?_ | refine WC_drawL (id := 23) (ops := o8x23K18) r8x23K18 (by kernel_rfl) rfl ?_ | refine WC_cond rfl (fun hc => ?_) (fun hc => ?_)))
    exact loopQ_next ⟨mz - 1, _, _, by omega, by exact kQ, by exact kL, k + 1, tickN w (k + 1), q9, ps9, ss9, ms9, wldE ek9 ec9 ca9 es9 sa9 el9 la9, by omega, rfl, rfl, by exact ⟨rfl, ho9.at.mono (fun e he => List.mem_append_left _ he)⟩⟩
  obtain ⟨hz, hatz⟩ := hin
  obtain ⟨hokz, hlz, hsz⟩ := tickN_facts hok k
  rw [← hz] at hokz hlz hsz
  have hzn := hokz.now
  by_cases hnow : z.now = w.now + 4
  rotate_left
  · (repeat' (first | refine nI ?_ | (refine nA ?_; intro _) | refine nY ?_ | refine WA_alt ?_ ?_ | refine nR ?_ | refine WC_drawL (id := 18) (ops := o8x18K18) r8x18K18 (by kernel_rfl) rfl ?_ | refine WC_drawL (id := 23) (ops := o8x23K18) r8x23K18 (by kernel_rfl) rfl ?_ | refine WC_cond rfl (fun hc => ?_) (fun hc => ?_)))
    refine ro_ret (by exact kR) (by exact kL) ?_; rfl
  (repeat' (first | refine nI ?_ | (refine nA ?_; intro _) | refine nY ?_ | refine WA_alt ?_ ?_ | refine nR ?_ | refine WC_drawL (id := 18) (ops := o8x18K18) r8x18K18 (by kernel_rfl) rfl ?_ | refine WC_drawL (id := 23) (ops := o8x23K18) r8x23K18 (by kernel_rfl) rfl ?_ | refine WC_cond rfl (fun hc => ?_) (fun hc => ?_)))
  clear hk hge
  refine WC_loop (fun mzj Ezj Mzj => ∃ (kj : Nat) (x : World) (q : WSl) (ps : List (Client × CSl)) (ss : List (Serv × (Sl × Sl))) (ms : List (Msg × Sl)) (X : List Ent), kj + mzj = (w.log).length ∧ Ezj = [(5, .pointer (some ⟨b5, 0, none⟩)), (9, .pointer (some ⟨b9, 0, none⟩)), (11, I kj)] ∧ Mzj = (b9, cellsO (worldC x q) 33) :: (b5, cellsO (worldC w ⟨kc1, cs1, sv1, ⟨al1, w.log.length, cl1⟩⟩) 33) :: (X ++ (wldE ek1 ec1 ca1 es1 sa1 el1 la1 ++ L)) ∧ (Took z x ∧ WOk x ∧ TookLe (70 + kj) x ∧ WldAt (X ++ (wldE ek1 ec1 ca1 es1 sa1 el1 la1 ++ L)) x q ps ss ms)) (w.log).length (by exact kQ) (by exact kL) ⟨0, z, q, ps, ss, ms, X, by omega, rfl, rfl, by exact ⟨Took.refl, hokz, (htk.same hsz).up (by omega), hatz⟩⟩ ?_
  rintro mzj Ezj Mzj ⟨kj, x, q, ps, ss, ms, X, hkj, rfl, rfl, hinj⟩
  rcases Nat.lt_or_ge kj (w.log).length with hltj | hgej
  · obtain ⟨htx, hokx, htkx, hatx⟩ := hinj
    obtain ⟨m, hm⟩ : ∃ m, w.log[kj]? = some m := ⟨_, List.getElem?_eq_getElem hltj⟩
    have hmz : z.log[kj]? = some m := by rw [hlz]; exact hm
    obtain ⟨g, o, cc, T, fr, sm, rfl, hmem, hrow, hsm⟩ := msg_at hat1 hm
    by_cases hk5 : m.kind = 5
    rotate_left
    · (repeat' (first | refine nI ?_ | (refine nA ?_; intro _) | refine nY ?_ | refine WA_alt ?_ ?_ | refine nR ?_ | refine WC_drawL (id := 18) (ops := o8x18K18) r8x18K18 (by kernel_rfl) rfl ?_ | refine WC_drawL (id := 23) (ops := o8x23K18) r8x23K18 (by kernel_rfl) rfl ?_ | refine WC_cond rfl (fun hc => ?_) (fun hc => ?_)))
      exact loopQ_next ⟨mzj - 1, _, _, by omega, by exact kQ, by exact kL, kj + 1, x, q, ps, ss, ms, X, by omega, rfl, rfl, by exact ⟨htx, hokx, htkx.up (by omega), hatx⟩⟩
    obtain ⟨s0, s1, hs, _, _⟩ := seals2 (hok.ms m (List.mem_of_getElem? hm)) (.inr (.inr (.inr hk5)))
    have hsm' := hsm
    simp only [MsgAt, hs] at hsm'
    obtain ⟨bs, os, cs2, Ts, frs, cx, rfl, hmem2, ht0, ht1⟩ := read2 hsm'
    obtain ⟨hs0, hs1⟩ := sealAt0 hs
    by_cases hk3 : s1.kind = 3
    rotate_left
    · (repeat' (first | refine nI ?_ | (refine nA ?_; intro _) | refine nY ?_ | refine WA_alt ?_ ?_ | refine nR ?_ | refine WC_drawL (id := 18) (ops := o8x18K18) r8x18K18 (by kernel_rfl) rfl ?_ | refine WC_drawL (id := 23) (ops := o8x23K18) r8x23K18 (by kernel_rfl) rfl ?_ | refine WC_cond rfl (fun hc => ?_) (fun hc => ?_)))
      exact loopQ_next ⟨mzj - 1, _, _, by omega, by exact kQ, by exact kL, kj + 1, x, q, ps, ss, ms, X, by omega, rfl, rfl, by exact ⟨htx, hokx, htkx.up (by omega), hatx⟩⟩
    by_cases hb1 : s1.b ≤ w.now
    rotate_left
    · (repeat' (first | refine nI ?_ | (refine nA ?_; intro _) | refine nY ?_ | refine WA_alt ?_ ?_ | refine nR ?_ | refine WC_drawL (id := 18) (ops := o8x18K18) r8x18K18 (by kernel_rfl) rfl ?_ | refine WC_drawL (id := 23) (ops := o8x23K18) r8x23K18 (by kernel_rfl) rfl ?_ | refine WC_cond rfl (fun hc => ?_) (fun hc => ?_)))
      exact loopQ_next ⟨mzj - 1, _, _, by omega, by exact kQ, by exact kL, kj + 1, x, q, ps, ss, ms, X, by omega, rfl, rfl, by exact ⟨htx, hokx, htkx.up (by omega), hatx⟩⟩
    obtain ⟨y, hy⟩ : ∃ y, bring x kj = y := ⟨_, rfl⟩
    have hst2 : step x ⟨4, kj, 0, Msg.zero⟩ = y := by rw [step_bring]; exact hy
    have hlate := bring_late hokx htx hmz hk5 (.inr (.inl (by rw [hs1]; omega)))
    rw [hy] at hlate
    have hoky : WOk y := hst2 ▸ step_ok hokx
    have htky : TookLe (70 + kj + 1) y := hst2 ▸ took_step htkx
    (repeat' (first | refine nI ?_ | (refine nA ?_; intro _) | (refine nW ?_; first | (refine op_call_id ?_; refine op_call rfl (c_worldDo hst2 q ps ss ms (hatx.mono (by exact kS)) hokx (htkx.up (by omega)) Sl.nil SliceAt.nil) rfl ?_; rintro _ _ ⟨q9, ps9, ss9, ms9, ek9, ec9, ca9, es9, sa9, el9, la9, rfl, ho9, rfl⟩)) | refine nY ?_ | refine WA_alt ?_ ?_ | refine nR ?_ | refine WC_drawL (id := 18) (ops := o8x18K18) r8x18K18 (by kernel_rfl) rfl ?_ | refine WC_drawL (id := 23) (ops := o8x23K18) r8x23K18 (by kernel_rfl) rfl ?_ | refine WC_cond rfl (fun hc => ?_) (fun hc => ?_)))
    exact loopQ_next ⟨mzj - 1, _, _, by omega, by exact kQ, by exact kL, kj + 1, y, q9, ps9, ss9, ms9, wldE ek9 ec9 ca9 es9 sa9 el9 la9, by omega, rfl, rfl, by exact ⟨hlate.1, hoky, htky, ho9.at.mono (fun e he => List.mem_append_left _ he)⟩⟩
  obtain ⟨htx, hokx, htkx, hatx⟩ := hinj
  (repeat' (first | refine nI ?_ | (refine nA ?_; intro _) | refine nY ?_ | refine WA_alt ?_ ?_ | refine nR ?_ | refine WC_drawL (id := 18) (ops := o8x18K18) r8x18K18 (by kernel_rfl) rfl ?_ | refine WC_drawL (id := 23) (ops := o8x23K18) r8x23K18 (by kernel_rfl) rfl ?_ | refine WC_cond rfl (fun hc => ?_) (fun hc => ?_)))
  clear hkj hgej
  obtain ⟨kc2, cs2, sv2, ls2⟩ := q
  have hs2 := hok.sl
  have hs1n : sv1.n = 2 := by
    have h1 := hat1.sr.1
    have h2 : ss1.length = 2 := by rw [← List.length_map (f := Prod.fst), hat1.se]; exact hok.sl
    exact h1.trans h2
  refine WC_loop (fun mzl Ezl Mzl => ∃ kl : Nat, kl + mzl = (w.servs).length ∧ Ezl = [(5, .pointer (some ⟨b5, 0, none⟩)), (9, .pointer (some ⟨b9, 0, none⟩)), (12, I kl)] ∧ Mzl = (b9, cellsO (worldC x ⟨kc2, cs2, sv2, ls2⟩) 33) :: (b5, cellsO (worldC w ⟨kc1, cs1, sv1, ⟨al1, w.log.length, cl1⟩⟩) 33) :: (X ++ (wldE ek1 ec1 ca1 es1 sa1 el1 la1 ++ L)) ∧ (True)) (w.servs).length (by exact kQ) (by exact kL) ⟨0, by omega, rfl, rfl, by trivial⟩ ?_
  rintro mzl Ezl Mzl ⟨kl, hkl, rfl, rfl, hinl⟩
  rcases Nat.lt_or_ge kl (w.servs).length with hltl | hgel
  · have hid : 4 ≤ (kl : Int) + 4 ∧ (kl : Int) + 4 ≤ 5 := by omega
    have hkl : ((kl : Int) + 4 - 4).toNat = kl := by omega
    have hvx := servOf_get hokx hid
    have hvw := servOf_get hok hid
    rw [hkl] at hvx hvw
    have htt : (servOf x ((kl : Int) + 4)).took = (servOf w ((kl : Int) + 4)).took := by
      rw [(htx.took _ hid).1]; simp only [servOf, hsz]
    obtain ⟨g, o, cc, T, fr, cap, sc, st, rfl, hmem, hrow, hsst⟩ := srv_get hatx hokx hvx
    obtain ⟨g1, o1, cc1, T1, fr1, cap1, sc1, st1, rfl, hmem1, hrow1, hsst1⟩ := srv_get hat1 hok hvw
    (repeat' (first | refine nI ?_ | (refine nA ?_; intro _) | (refine nW ?_; first | (refine op_call_id ?_; refine op_ro rfl rfl (by exact (c_laws.lbCalls st st1 _ _ (hsst.t.mono (by exact kS)) (hsst1.t.mono (by exact kS))).eq (congrArg B (decide_eq_true htt))) ?_)) | refine nY ?_ | refine WA_alt ?_ ?_ | refine nR ?_ | refine WC_drawL (id := 18) (ops := o8x18K18) r8x18K18 (by kernel_rfl) rfl ?_ | refine WC_drawL (id := 23) (ops := o8x23K18) r8x23K18 (by kernel_rfl) rfl ?_ | refine WC_cond rfl (fun hc => ?_) (fun hc => ?_)))
    exact loopQ_next ⟨mzl - 1, _, _, by omega, by exact kQ, by exact kL, kl + 1, by omega, rfl, rfl, by trivial⟩
  (repeat' (first | refine nI ?_ | (refine nA ?_; intro _) | refine nY ?_ | refine WA_alt ?_ ?_ | refine nR ?_ | refine WC_drawL (id := 18) (ops := o8x18K18) r8x18K18 (by kernel_rfl) rfl ?_ | refine WC_drawL (id := 23) (ops := o8x23K18) r8x23K18 (by kernel_rfl) rfl ?_ | refine WC_cond rfl (fun hc => ?_) (fun hc => ?_)))
  refine ro_ret (by exact kR) (by exact kL) ?_; rfl
end Go.Proofs.YtkdlkclanlkebaaGreat
/- The law FnWorldDelay: for all that comes in the call returns true, and what came in reads as before. No condition. (The frame by the kit's program, the walk by ours.) -/
namespace Go.Proofs.YtkdlkclanlkebaaGreat.fnWorldDelay
open Go.ChangeShapes Go.WideShapes Go.ChangeAt Go.RowKit
open Go.ChangeMaps (open_string shut_string)
set_option linter.unusedVariables false

theorem own : ownKnob Tryz.prog.godebug = none := by kernel_rfl
theorem laidOut : laidOutB Tryz.prog = true := by kernel_rfl

def IsRow (k : IntKind) (w : Go.World) (a : Option Addr) (len cap : Nat) (zs : List Int) : Prop :=
  (a = none ∧ len = 0 ∧ cap = 0 ∧ zs = []) ∨
  ∃ x, a = some x ∧ len ≤ cap ∧ cap ≤ maxLen ∧ zs.length = cap ∧ (∀ i, i < zs.length → w.cell? (x.add i) = some (.int k (zs.getD i 0))) ∧ ∀ n ∈ zs, (Lit.int k n).wf = true

theorem walk (a0 : Option Addr) (len0 cap0 : Nat) (z0 : List Int) (w : Go.World) (w0 : IsRow .u8 w a0 len0 cap0 z0) :
    Calls Tryz.prog 8 #[.slice a0 len0 cap0] w fun e w' => e = .returned (.bool true) ∧ Below w.heap.size w w' := by
  exact walk_of (by
    by_cases hb : 1048576 < len0
    · exact c_FnWorldDelayBig a0 len0 cap0 hb
    · exact c_FnWorldDelay1 a0 len0 cap0 (z0.take len0) (bytes_at w0) (by omega))

set_option maxRecDepth 100000 in
theorem lifted (os : Os) (started : os.Started) (H : Type) (enc : TypeId × Value → H) :
    ReturnsInHanded {} Tryz.checked os 8 .any (Rows.fnWorldDelaySpec.pre6 enc Tryz.prog Tryz.f8 Rows.fnWorldDelayRow.domain false) (Rows.fnWorldDelaySpec.post enc Tryz.prog Tryz.f8 false true false false) := by
  refine returnsInHanded_of_change (C := Tryz.checked) own started (by kernel_rfl) Tryz.func8
    (ChangeSpec.witness6 (enc := enc) (C := Tryz.checked) false ⟨#[], #[.slice none 0 0], []⟩ 8 (by kernel_rfl) (by kernel_rfl) (by kernel_rfl) (by kernel_rfl)) ?_
  intro W base args ds gs before hval0 hW hcnd _
  have hval : ∀ (j : Nat) t v, Tryz.f8.params[j]? = some t → args[j]? = some v → Value.okWide Tryz.prog W .any base t v := hval0
  have hW' := hW
  obtain ⟨p, q, hA0, hV, rfl, hfz, hnd⟩ := hW
  have hA : DataW.TrodAll enc Tryz.prog W 0 (fun _ => true) true Tryz.f8.params.toList args.toList ds p := hA0
  rw [Tryz.params8] at hA hval
  obtain ⟨v0, vs0, d0, ds0, p0, q0, hargs, rfl, rfl, h0, r0⟩ := trodAll_cons hA
  obtain ⟨rfl, rfl, rfl⟩ := trodAll_nil r0
  obtain rfl : args = #[v0] := by cases args; simp_all
  obtain ⟨rfl, rfl⟩ := trodVars_none hV
  obtain ⟨a0, len0, cap0, rfl⟩ := okWide_slice Tryz.underlying22 (hval 0 22 v0 rfl rfl)
  have k0 := h0
  have lt0 : ∀ x ∈ p0, x.block < W.heap.size := by obtain ⟨m, hm⟩ := k0; exact DataW.trod_lt m _ _ _ hm
  obtain ⟨z0, w0⟩ : ∃ zs, IsRow .u8 W a0 len0 cap0 zs := by
    obtain ⟨fuel, hf⟩ := h0
    rcases open_ints Tryz.underlying22 Tryz.underlying5 (by kernel_rfl) hf with ⟨hcs, _⟩ | ⟨x, l, c, zs, hcs, _, hl, hm, hz, _, hcell, hwz⟩
    · simp [Value.cells] at hcs
      obtain ⟨rfl, rfl, rfl⟩ := hcs
      exact ⟨[], .inl ⟨rfl, rfl, rfl, rfl⟩⟩
    · simp [Value.cells] at hcs
      obtain ⟨rfl, rfl, rfl⟩ := hcs
      exact ⟨zs, .inr ⟨_, rfl, hl, hm, by simpa using hz, hcell, hwz⟩⟩
  clear hA0 hval0
  refine (walk a0 len0 cap0 z0 W w0).mono fun e W' ⟨he, bel⟩ => ?_
  subst he
  exact ⟨_, rfl, _, _, _, [], _, [], hW', trodAll_mk1 (shut_bool Tryz.underlying4 _), (trodAll_cons_mk (Below.trod laidOut (by kernel_rfl) (of_decide_eq_true (by kernel_rfl)) k0 bel lt0) trodAll_mk0), rfl, bel.frame _, fun h => by cases h⟩

theorem closed : joinedFacts Tryz.prog 8 Tryz.f8 Rows.fnWorldDelaySpec Rows.fnWorldDelayRow = true := by
  unfold joinedFacts
  iterate 31 (refine and_t ?_ ?_)
  · kernel_rfl
  · kernel_rfl
  · kernel_rfl
  · kernel_rfl
  · kernel_rfl
  · kernel_rfl
  · kernel_rfl
  · kernel_rfl
  · kernel_rfl
  · kernel_rfl
  · kernel_rfl
  · kernel_rfl
  · kernel_rfl
  · kernel_rfl
  · kernel_rfl
  · kernel_rfl
  · kernel_rfl
  · kernel_rfl
  · kernel_rfl
  · kernel_rfl
  · kernel_rfl
  · kernel_rfl
  · kernel_rfl
  · kernel_rfl
  · kernel_rfl
  · exact may_enter
  · rw [lifts_final]; kernel_rfl
  · rw [make_is]; kernel_rfl
  · kernel_rfl
  · kernel_rfl
  · kernel_rfl
  · kernel_rfl
theorem over : Rows.fnWorldDelayRow.holds Tryz.pinned (OpenSpec.ofChange Rows.fnWorldDelaySpec) :=
  OpenClaim.holds_of_wide 8 Tryz.f8 rfl rfl rfl rfl rfl rfl rfl ⟨rfl, rfl, rfl, rfl, rfl⟩ rfl rfl rfl rfl rfl (by kernel_rfl) Tryz.func8 closed
    (of_decide_eq_true (by kernel_rfl)) (by unfold Func.isWrapper; first | (rw [if_pos (by decide +kernel)]; kernel_rfl) | (rw [if_neg (by decide +kernel)]; exact ⟨rfl, rfl⟩))
    (fun os started H enc _ => lifted os started H enc)

theorem proved : Rows.FnWorldDelaySaid := over
end Go.Proofs.YtkdlkclanlkebaaGreat.fnWorldDelay
