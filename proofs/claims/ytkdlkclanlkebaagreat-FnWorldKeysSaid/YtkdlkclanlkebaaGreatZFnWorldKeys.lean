/- The law: who hears all comes to what seals tell. -/
import Derived.Test.YtkdlkclanlkebaaGreatRows
import Derived.WalkKit
import Derived.ProofKit
import Derived.OpenShut
import Derived.ShutString
import Derived.ChangeOld
import Derived.Below
import Derived.Test.YtkdlkclanlkebaaGreatA13
import Derived.Test.YtkdlkclanlkebaaGreatA15
import Derived.Test.YtkdlkclanlkebaaGreatA14
set_option linter.unusedVariables false
set_option linter.unusedSectionVars false
set_option linter.unusedSimpArgs false
namespace Go.Proofs.YtkdlkclanlkebaaGreat
open Go Go.Proofs Go.Proofs.YtkdlkclanlkebaaGreat.VE
attribute [local irreducible] Val Op1 WO WR WA WC seqQ blockQ loopQ retQ
noncomputable def o47x3K33 : Array Oper := cops (cl (cr (cr (codeOf Tryz.f47))))
noncomputable def r47x3K33 : Run := (.st 0 1 (.st 2 1 (.st 1 2 (.st 3 3 (.st 4 3 (.st 5 0 .done))))))
set_option maxHeartbeats 8000000
theorem c_worldKeysF {L : List Ent} (w : World) (q : WSl) (ps : List (Client × CSl)) (ss : List (Serv × (Sl × Sl))) (ms : List (Msg × Sl)) (hat : WldAt L w q ps ss ms) (hn : NOk w) (hk : worldOk w = false) : RO Tryz.prog 43 [worldV w q] L (.slice none 0 0) := by
  refine Tri.of Tryz.func43 rfl rfl Tryz.ntmps43 rfl rfl ?_
  (repeat' (first | refine nI ?_ | (refine nA ?_; intro _) | (refine nW ?_; first | (refine op_call_id ?_; refine op_ro rfl rfl (by exact (c_worldOkN w q ps ss ms (hat.mono (by exact kS)) hn).eq (congrArg B hk)) ?_)) | refine nY ?_ | refine nR ?_ | refine WC_cond rfl (fun hc => ?_) (fun hc => ?_)))
  refine ro_ret (by exact kR) (by exact kL) ?_; rfl
theorem c_sWorldKeysF {L : List Ent} (w : World) (q : WSl) (ps : List (Client × CSl)) (ss : List (Serv × (Sl × Sl))) (ms : List (Msg × Sl)) (hat : WldAt L w q ps ss ms) (hn : NOk w) (hk : worldOk w = false) : Tri Tryz.prog 47 [worldV w q] L (fun v L' => ∃ b, v = .slice (some ⟨b, 0, none⟩) 0 0 ∧ L' = L) := by
  refine Tri.of Tryz.func47 rfl rfl Tryz.ntmps47 rfl rfl ?_
  (repeat' (first | refine nI ?_ | (refine nA ?_; intro _) | (refine nW ?_; first | (refine op_call_id ?_; refine op_ro rfl rfl (by exact (c_sWorldOkN w q ps ss ms (hat.mono (by exact kS)) hn).eq (congrArg B hk)) ?_)) | refine nY ?_ | refine WA_alt ?_ ?_ | refine nR ?_ | refine WC_drawL (id := 3) (ops := o47x3K33) r47x3K33 (by kernel_rfl) rfl ?_ | refine WC_cond rfl (fun hc => ?_) (fun hc => ?_)))
  refine ret_ret (by exact kR) ?_; exact ⟨L, by exact kP, _, rfl, rfl⟩
theorem c_sWorldKeys {L : List Ent} (w : World) (q : WSl) (ps : List (Client × CSl)) (ss : List (Serv × (Sl × Sl))) (ms : List (Msg × Sl)) (hat : WldAt L w q ps ss ms) (hok : WOk w) :
    Tri Tryz.prog 47 [worldV w q] L (fun v L' => ∃ s es, v = s.v ∧ Row encInt 3 s (worldKeys w) es ∧ L' = es ++ L) := by
  have hsl : (w.log.flatMap Msg.seals).length ≤ 1000 := by
    have h1 := seals_len w.log hok.ms
    have h2 := hok.ll
    omega
  refine Tri.of Tryz.func47 rfl rfl Tryz.ntmps47 rfl rfl ?_
  (repeat' (first | refine nI ?_ | (refine nA ?_; intro _) | (refine nW ?_; first | (refine op_call_id ?_; refine op_ro rfl rfl (by exact (c_sWorldOkN w q ps ss ms (hat.mono (by exact kS)) hok.n).eq (congrArg B (worldOk_t hok))) ?_) | (refine op_call_id ?_; refine op_call rfl (c_l21Bad w q) rfl ?_; rintro _ _ ⟨⟨ao, no, co⟩, eo, rfl, hro, rfl⟩) | (refine op_call_id ?_; refine op_call rfl (c_l21Seals w q ms (hat.mr.mono (by exact kS)) hat.me (fun p hp => (hat.ma p hp).mono (by exact kS)) hsl) rfl ?_; rintro _ _ ⟨⟨al, nl, cl⟩, es2, rfl, hrs, rfl⟩) | (refine op_call_id ?_; refine op_call rfl (c_sKnowKeys ⟨ao, no, co⟩ ⟨al, nl, cl⟩ (own w) (worldSeals w) (hro.atL (by exact kS)) (hrs.atL (by exact kS))) rfl ?_; rintro _ _ ⟨sk, ek, rfl, hrk, rfl⟩)) | refine nY ?_ | refine WA_alt ?_ ?_ | refine nR ?_ | refine WC_drawL (id := 3) (ops := o47x3K33) r47x3K33 (by kernel_rfl) rfl ?_ | refine WC_cond rfl (fun hc => ?_) (fun hc => ?_)))
  refine ret_ret (by exact kR) ?_; exact ⟨ek ++ L, by exact kP, sk, ek, rfl, hrk, rfl⟩
theorem c_FnWorldKeysBig {L : List Ent} (a : Option Addr) (n c : Nat) (hn : 1048576 < n) : RO Tryz.prog 17 [.slice a n c] L (B true) := by
  refine Tri.of Tryz.func17 rfl rfl Tryz.ntmps17 rfl rfl ?_
  (repeat' (first | refine nI ?_ | (refine nA ?_; intro _) | refine nY ?_ | refine nR ?_ | refine WC_cond rfl (fun hc => ?_) (fun hc => ?_)))
  refine ro_ret (by exact kR) (by exact kL) ?_; rfl
theorem c_FnWorldKeys1 {L : List Ent} (a : Option Addr) (n c : Nat) (bs : List Int) (h : BytesIn L a n c bs) (hlen : n ≤ 1048576) : RO Tryz.prog 17 [.slice a n c] L (B true) := by
  have hat := h.at_ hlen
  have hby := h.byte
  have hn := hat.1
  dsimp only at hn
  subst hn
  refine Tri.of Tryz.func17 rfl rfl Tryz.ntmps17 rfl rfl ?_
  (repeat' (first | refine nI ?_ | (refine nA ?_; intro _) | (refine nW ?_; first | (refine op_call_id ?_; refine op_call rfl (c_drawWorldDo ⟨a, bs.length, c⟩ bs (hat.mono (by exact kS)) hby) rfl ?_; rintro _ _ ⟨w, e, ⟨kc0, cs0, sv0, ⟨al0, nl0, cl0⟩⟩, ps0, ss0, ms0, se, Y, rfl, hdr, hme, rfl⟩)) | refine nY ?_ | refine nR ?_ | refine WC_cond rfl (fun hc => ?_) (fun hc => ?_)))
  rename_i bw be
  have hnl0 := log_len hdr.at_
  subst hnl0
  have hat0 := hdr.at_
  cases hwk : worldOk w with
  | false =>
    (repeat' (first | refine nI ?_ | (refine nA ?_; intro _) | (refine nW ?_; first | (refine op_call_id ?_; refine op_ro rfl rfl (by first | exact c_worldKeysF w _ ps0 ss0 ms0 (hat0.mono (by exact kS)) hdr.n hwk | exact (c_laws.lbInts ⟨none, 0, 0⟩ ⟨_, 0, 0⟩ [] [] SliceAt.nil SliceAt.nil).eq (congrArg B (decide_eq_true rfl)) | exact (c_sWorldOkN w _ ps0 ss0 ms0 (hat0.mono (by exact kS)) hdr.n).eq (congrArg B hwk)) ?_) | (refine op_call_id ?_; refine op_call rfl (c_sWorldKeysF w _ ps0 ss0 ms0 (hat0.mono (by exact kS)) hdr.n hwk) rfl ?_; rintro _ _ ⟨bz, rfl, rfl⟩)) | refine nY ?_ | refine nR ?_ | refine WC_cond rfl (fun hc => ?_) (fun hc => ?_)))
    refine ro_ret (by exact kR) (by exact kL) ?_; rfl
  | true =>
  have hok : WOk w := worldOk_iff.1 hwk
  have htk := hdr.took
  have hbd := hok.bad
  obtain ⟨x, hx⟩ : ∃ x, step w e = x := ⟨_, rfl⟩
  have hokx : WOk x := hx ▸ step_ok hok
  have hgrow : ∀ k ∈ worldKeys w, k ∈ worldKeys x := fun k hk => by rw [← hx]; exact keys_grow hok hk
  have hforge : e.kind = 5 → worldKeys x = worldKeys w := fun hk => by rw [← hx]; exact keys_forge hok hk
  have hll := hok.ll
  have hsl : (w.log.flatMap Msg.seals).length ≤ 1000 := by
    have h1 := seals_len w.log hok.ms
    omega
  have hkk : knowKeys (own w) (worldSeals w) = worldKeys w := rfl
  by_cases hb0 : w.bad = 0
  · have hown0 : own w = [] := by unfold own; exact if_pos hb0
    (repeat' (first | refine nI ?_ | (refine nA ?_; intro _) | (refine nW ?_; first | (refine op_call_id ?_; refine op_ro rfl rfl (by first | exact (c_laws.lbInts ⟨ak, _, ck⟩ ⟨a4, n4, c4⟩ (worldKeys w) (worldKeys w) (hrk.atL (by exact kS)) (hr4.atL (by exact kS))).eq (congrArg B (decide_eq_true rfl)) | exact (c_sWorldOkN w _ ps0 ss0 ms0 (hat0.mono (by exact kS)) hdr.n).eq (congrArg B hwk)) ?_) | (refine op_call_id ?_; refine op_call rfl (c_worldKeys w _ ps0 ss0 ms0 (hat0.mono (by exact kS)) hok) rfl ?_; rintro _ _ ⟨ak, ck, ek, rfl, hrk, rfl⟩) | (refine op_call_id ?_; refine op_call rfl (c_sWorldKeys w _ ps0 ss0 ms0 (hat0.mono (by exact kS)) hok) rfl ?_; rintro _ _ ⟨⟨a4, n4, c4⟩, e4, rfl, hr4, rfl⟩) | (refine op_call_id ?_; refine op_call rfl (c_worldDoU hx _ ps0 ss0 ms0 (hat0.mono (by exact kS)) hok (htk.up (by omega)) se (hme.mono (by exact kS))) rfl ?_; rintro _ _ ⟨kc1, cs1, sv1, al1, cl1, ps1, ss1, ms1, ek1, ec1, ca1, es1, sa1, el1, la1, rfl, ho1, rfl⟩) | (refine op_call_id ?_; refine op_call rfl (c_worldKeys x _ ps1 ss1 ms1 (ho1.at.mono (by exact kS)) hokx) rfl ?_; rintro _ _ ⟨ax, cx, ex, rfl, hrx, rfl⟩)) | refine nY ?_ | refine nR ?_ | refine WC_cond rfl (fun hc => ?_) (fun hc => ?_)))
    rename_i bf bx
    obtain ⟨hdk, hck, hbk, hatk⟩ := hrk.at
    dsimp only at hatk hck
    simp only [big] at hbk
    clear hdk
    refine WC_loop (fun mz Ez Mz => ∃ k : Nat, k + mz = (worldKeys w).length ∧ Ez = [(3, .pointer (some ⟨bw, 0, none⟩)), (4, .pointer (some ⟨be, 0, none⟩)), (5, .slice ak (worldKeys w).length ck), (6, .slice (some ⟨bf, 0, none⟩) 0 0), (8, .slice ax (worldKeys x).length cx), (9, I k)] ∧ Mz = (bw, cellsO (worldC w ⟨kc0, cs0, sv0, ⟨al0, w.log.length, cl0⟩⟩) 33) :: (be, cellsO (eventC e se) 58) :: (ex ++ (ek ++ (Y ++ L))) ∧ (True)) (worldKeys w).length (by exact kQ) (by exact kL) ⟨0, by omega, rfl, rfl, by trivial⟩ ?_
    rintro mz Ez Mz ⟨k, hk, rfl, rfl, hin⟩
    rcases Nat.lt_or_ge k (worldKeys w).length with hlt | hge
    · obtain ⟨y, hy⟩ : ∃ y, (worldKeys w)[k]? = some y := ⟨(worldKeys w)[k], by simp [hlt]⟩; obtain ⟨b', o, cs, T, fr, rfl, hm, hrow⟩ := hatk (by omega); have hrow' := hrow k y hy; have htk := take_next hy
      have hin2 := hgrow y (List.mem_of_getElem? hy)
      (repeat' (first | refine nI ?_ | (refine nA ?_; intro _) | (refine nW ?_; first | (refine op_call_id ?_; refine op_ro rfl rfl (by exact (c_lbHas ⟨_, _, _⟩ (worldKeys x) y (hrx.atL (by exact kS))).eq (congrArg B (decide_eq_true hin2))) ?_)) | refine nY ?_ | refine nR ?_ | refine WC_cond rfl (fun hc => ?_) (fun hc => ?_)))
      exact loopQ_next ⟨mz - 1, _, _, by omega, by exact kQ, by exact kL, k + 1, by omega, rfl, rfl, by trivial⟩
    by_cases hk5 : e.kind = 5
    · have hsame := hforge hk5
      (repeat' (first | refine nI ?_ | (refine nA ?_; intro _) | (refine nW ?_; first | (refine op_call_id ?_; refine op_ro rfl rfl (by first | exact (c_laws.lbInts ⟨ak, _, ck⟩ ⟨af, _, cf⟩ (worldKeys w) (knowKeys (own w) (worldSeals w)) (hrk.atL (by exact kS)) (hrf.atL (by exact kS))).eq (congrArg B (decide_eq_true hkk.symm)) | exact (c_laws.lbInts ⟨ax, _, cx⟩ ⟨ak, _, ck⟩ (worldKeys x) (worldKeys w) (hrx.atL (by exact kS)) (hrk.atL (by exact kS))).eq (congrArg B (decide_eq_true hsame))) ?_) | (refine op_call_id ?_; refine op_call rfl (c_worldSeals w _ ps0 ss0 ms0 (hat0.mono (by exact kS)) hok) rfl ?_; rintro _ _ ⟨az, cz, ez, rfl, hrz, rfl⟩) | (refine op_call_id ?_; refine op_call rfl (c_knowKeys ⟨some ⟨bf, 0, none⟩, 0, 0⟩ ⟨az, _, cz⟩ (own w) (worldSeals w) (by rw [hown0]; exact SliceAt.nil) (hrz.atL (by exact kS))) rfl ?_; rintro _ _ ⟨af, cf, ef, rfl, hrf, rfl⟩)) | refine nY ?_ | refine nR ?_ | refine WC_cond rfl (fun hc => ?_) (fun hc => ?_)))
      refine ro_ret (by exact kR) (by exact kL) ?_; rfl
    · (repeat' (first | refine nI ?_ | (refine nA ?_; intro _) | (refine nW ?_; first | (refine op_call_id ?_; refine op_ro rfl rfl (by exact (c_laws.lbInts ⟨ak, _, ck⟩ ⟨af, _, cf⟩ (worldKeys w) (knowKeys (own w) (worldSeals w)) (hrk.atL (by exact kS)) (hrf.atL (by exact kS))).eq (congrArg B (decide_eq_true hkk.symm))) ?_) | (refine op_call_id ?_; refine op_call rfl (c_worldSeals w _ ps0 ss0 ms0 (hat0.mono (by exact kS)) hok) rfl ?_; rintro _ _ ⟨az, cz, ez, rfl, hrz, rfl⟩) | (refine op_call_id ?_; refine op_call rfl (c_knowKeys ⟨some ⟨bf, 0, none⟩, 0, 0⟩ ⟨az, _, cz⟩ (own w) (worldSeals w) (by rw [hown0]; exact SliceAt.nil) (hrz.atL (by exact kS))) rfl ?_; rintro _ _ ⟨af, cf, ef, rfl, hrf, rfl⟩)) | refine nY ?_ | refine nR ?_ | refine WC_cond rfl (fun hc => ?_) (fun hc => ?_)))
      refine ro_ret (by exact kR) (by exact kL) ?_; rfl
  have hown1 : own w = [w.bad] := by unfold own; exact if_neg hb0
  (repeat' (first | refine nI ?_ | (refine nA ?_; intro _) | (refine nW ?_; first | (refine op_call_id ?_; refine op_ro rfl rfl (by first | exact (c_laws.lbInts ⟨ak, _, ck⟩ ⟨a4, n4, c4⟩ (worldKeys w) (worldKeys w) (hrk.atL (by exact kS)) (hr4.atL (by exact kS))).eq (congrArg B (decide_eq_true rfl)) | exact (c_sWorldOkN w _ ps0 ss0 ms0 (hat0.mono (by exact kS)) hdr.n).eq (congrArg B hwk)) ?_) | (refine op_call_id ?_; refine op_call rfl (c_worldKeys w _ ps0 ss0 ms0 (hat0.mono (by exact kS)) hok) rfl ?_; rintro _ _ ⟨ak, ck, ek, rfl, hrk, rfl⟩) | (refine op_call_id ?_; refine op_call rfl (c_sWorldKeys w _ ps0 ss0 ms0 (hat0.mono (by exact kS)) hok) rfl ?_; rintro _ _ ⟨⟨a4, n4, c4⟩, e4, rfl, hr4, rfl⟩) | (refine go_append ?_; refine op_appendRow (sl := ⟨_, _, _⟩) (sx := ⟨_, _, _⟩) rfl rfl rfl rfl rfl rfl rfl rfl rfl (Row.nil) (by exact kE) (SliceAt.one (E := encInt) (x := w.bad) (by exact kM) rfl) (by exact kN) ?_; intro sl' es' hrow' hst') | (refine op_call_id ?_; refine op_call rfl (c_worldDoU hx _ ps0 ss0 ms0 (hat0.mono (by exact kS)) hok (htk.up (by omega)) se (hme.mono (by exact kS))) rfl ?_; rintro _ _ ⟨kc1, cs1, sv1, al1, cl1, ps1, ss1, ms1, ek1, ec1, ca1, es1, sa1, el1, la1, rfl, ho1, rfl⟩) | (refine op_call_id ?_; refine op_call rfl (c_worldKeys x _ ps1 ss1 ms1 (ho1.at.mono (by exact kS)) hokx) rfl ?_; rintro _ _ ⟨ax, cx, ex, rfl, hrx, rfl⟩)) | refine nY ?_ | refine nR ?_ | refine WC_cond rfl (fun hc => ?_) (fun hc => ?_)))
  rename_i bx
  obtain ⟨a9, n9, c9⟩ := sl'
  have hr9 : Row encInt 3 ⟨a9, n9, c9⟩ (own w) es' := by rw [hown1]; exact hrow'
  obtain ⟨hdk, hck, hbk, hatk⟩ := hrk.at
  dsimp only at hatk hck
  simp only [big] at hbk
  clear hdk
  refine WC_loop (fun mz Ez Mz => ∃ k : Nat, k + mz = (worldKeys w).length ∧ Ez = [(3, .pointer (some ⟨bw, 0, none⟩)), (4, .pointer (some ⟨be, 0, none⟩)), (5, .slice ak (worldKeys w).length ck), (6, .slice a9 n9 c9), (8, .slice ax (worldKeys x).length cx), (9, I k)] ∧ Mz = (bw, cellsO (worldC w ⟨kc0, cs0, sv0, ⟨al0, w.log.length, cl0⟩⟩) 33) :: (be, cellsO (eventC e se) 58) :: (ex ++ (es' ++ (ek ++ (Y ++ L)))) ∧ (True)) (worldKeys w).length (by exact kQ) (by exact kL) ⟨0, by omega, rfl, rfl, by trivial⟩ ?_
  rintro mz Ez Mz ⟨k, hk, rfl, rfl, hin⟩
  rcases Nat.lt_or_ge k (worldKeys w).length with hlt | hge
  · obtain ⟨y, hy⟩ : ∃ y, (worldKeys w)[k]? = some y := ⟨(worldKeys w)[k], by simp [hlt]⟩; obtain ⟨b', o, cs, T, fr, rfl, hm, hrow⟩ := hatk (by omega); have hrow' := hrow k y hy; have htk := take_next hy
    have hin2 := hgrow y (List.mem_of_getElem? hy)
    (repeat' (first | refine nI ?_ | (refine nA ?_; intro _) | (refine nW ?_; first | (refine op_call_id ?_; refine op_ro rfl rfl (by exact (c_lbHas ⟨_, _, _⟩ (worldKeys x) y (hrx.atL (by exact kS))).eq (congrArg B (decide_eq_true hin2))) ?_)) | refine nY ?_ | refine nR ?_ | refine WC_cond rfl (fun hc => ?_) (fun hc => ?_)))
    exact loopQ_next ⟨mz - 1, _, _, by omega, by exact kQ, by exact kL, k + 1, by omega, rfl, rfl, by trivial⟩
  by_cases hk5 : e.kind = 5
  · have hsame := hforge hk5
    (repeat' (first | refine nI ?_ | (refine nA ?_; intro _) | (refine nW ?_; first | (refine op_call_id ?_; refine op_ro rfl rfl (by first | exact (c_laws.lbInts ⟨ak, _, ck⟩ ⟨af, _, cf⟩ (worldKeys w) (knowKeys (own w) (worldSeals w)) (hrk.atL (by exact kS)) (hrf.atL (by exact kS))).eq (congrArg B (decide_eq_true hkk.symm)) | exact (c_laws.lbInts ⟨ax, _, cx⟩ ⟨ak, _, ck⟩ (worldKeys x) (worldKeys w) (hrx.atL (by exact kS)) (hrk.atL (by exact kS))).eq (congrArg B (decide_eq_true hsame))) ?_) | (refine op_call_id ?_; refine op_call rfl (c_worldSeals w _ ps0 ss0 ms0 (hat0.mono (by exact kS)) hok) rfl ?_; rintro _ _ ⟨az, cz, ez, rfl, hrz, rfl⟩) | (refine op_call_id ?_; refine op_call rfl (c_knowKeys ⟨a9, n9, c9⟩ ⟨az, _, cz⟩ (own w) (worldSeals w) (hr9.atL (by exact kS)) (hrz.atL (by exact kS))) rfl ?_; rintro _ _ ⟨af, cf, ef, rfl, hrf, rfl⟩)) | refine nY ?_ | refine nR ?_ | refine WC_cond rfl (fun hc => ?_) (fun hc => ?_)))
    refine ro_ret (by exact kR) (by exact kL) ?_; rfl
  · (repeat' (first | refine nI ?_ | (refine nA ?_; intro _) | (refine nW ?_; first | (refine op_call_id ?_; refine op_ro rfl rfl (by exact (c_laws.lbInts ⟨ak, _, ck⟩ ⟨af, _, cf⟩ (worldKeys w) (knowKeys (own w) (worldSeals w)) (hrk.atL (by exact kS)) (hrf.atL (by exact kS))).eq (congrArg B (decide_eq_true hkk.symm))) ?_) | (refine op_call_id ?_; refine op_call rfl (c_worldSeals w _ ps0 ss0 ms0 (hat0.mono (by exact kS)) hok) rfl ?_; rintro _ _ ⟨az, cz, ez, rfl, hrz, rfl⟩) | (refine op_call_id ?_; refine op_call rfl (c_knowKeys ⟨a9, n9, c9⟩ ⟨az, _, cz⟩ (own w) (worldSeals w) (hr9.atL (by exact kS)) (hrz.atL (by exact kS))) rfl ?_; rintro _ _ ⟨af, cf, ef, rfl, hrf, rfl⟩)) | refine nY ?_ | refine nR ?_ | refine WC_cond rfl (fun hc => ?_) (fun hc => ?_)))
    refine ro_ret (by exact kR) (by exact kL) ?_; rfl
end Go.Proofs.YtkdlkclanlkebaaGreat
/- The law FnWorldKeys: for all that comes in the call returns true, and what came in reads as before. No condition. (The frame by the kit's program, the walk by ours.) -/
namespace Go.Proofs.YtkdlkclanlkebaaGreat.fnWorldKeys
open Go.ChangeShapes Go.WideShapes Go.ChangeAt Go.RowKit
open Go.ChangeMaps (open_string shut_string)
set_option linter.unusedVariables false

theorem own : ownKnob Tryz.prog.godebug = none := by kernel_rfl
theorem laidOut : laidOutB Tryz.prog = true := by kernel_rfl

def IsRow (k : IntKind) (w : Go.World) (a : Option Addr) (len cap : Nat) (zs : List Int) : Prop :=
  (a = none ∧ len = 0 ∧ cap = 0 ∧ zs = []) ∨
  ∃ x, a = some x ∧ len ≤ cap ∧ cap ≤ maxLen ∧ zs.length = cap ∧ (∀ i, i < zs.length → w.cell? (x.add i) = some (.int k (zs.getD i 0))) ∧ ∀ n ∈ zs, (Lit.int k n).wf = true

theorem walk (a0 : Option Addr) (len0 cap0 : Nat) (z0 : List Int) (w : Go.World) (w0 : IsRow .u8 w a0 len0 cap0 z0) :
    Calls Tryz.prog 17 #[.slice a0 len0 cap0] w fun e w' => e = .returned (.bool true) ∧ Below w.heap.size w w' := by
  exact walk_of (by
    by_cases hb : 1048576 < len0
    · exact c_FnWorldKeysBig a0 len0 cap0 hb
    · exact c_FnWorldKeys1 a0 len0 cap0 (z0.take len0) (bytes_at w0) (by omega))

set_option maxRecDepth 100000 in
theorem lifted (os : Os) (started : os.Started) (H : Type) (enc : TypeId × Value → H) :
    ReturnsInHanded {} Tryz.checked os 17 .any (Rows.fnWorldKeysSpec.pre6 enc Tryz.prog Tryz.f17 Rows.fnWorldKeysRow.domain false) (Rows.fnWorldKeysSpec.post enc Tryz.prog Tryz.f17 false true false false) := by
  refine returnsInHanded_of_change (C := Tryz.checked) own started (by kernel_rfl) Tryz.func17
    (ChangeSpec.witness6 (enc := enc) (C := Tryz.checked) false ⟨#[], #[.slice none 0 0], []⟩ 8 (by kernel_rfl) (by kernel_rfl) (by kernel_rfl) (by kernel_rfl)) ?_
  intro W base args ds gs before hval0 hW hcnd _
  have hval : ∀ (j : Nat) t v, Tryz.f17.params[j]? = some t → args[j]? = some v → Value.okWide Tryz.prog W .any base t v := hval0
  have hW' := hW
  obtain ⟨p, q, hA0, hV, rfl, hfz, hnd⟩ := hW
  have hA : DataW.TrodAll enc Tryz.prog W 0 (fun _ => true) true Tryz.f17.params.toList args.toList ds p := hA0
  rw [Tryz.params17] at hA hval
  obtain ⟨v0, vs0, d0, ds0, p0, q0, hargs, rfl, rfl, h0, r0⟩ := trodAll_cons hA
  obtain ⟨rfl, rfl, rfl⟩ := trodAll_nil r0
  obtain rfl : args = #[v0] := by cases args; simp_all
  obtain ⟨rfl, rfl⟩ := trodVars_none hV
  obtain ⟨a0, len0, cap0, rfl⟩ := okWide_slice Tryz.underlying22 (hval 0 22 v0 rfl rfl)
  have k0 := h0
  have lt0 : ∀ x ∈ p0, x.block < W.heap.size := by obtain ⟨m, hm⟩ := k0; exact DataW.trod_lt m _ _ _ hm
  obtain ⟨z0, w0⟩ : ∃ zs, IsRow .u8 W a0 len0 cap0 zs := by
    obtain ⟨fuel, hf⟩ := h0
    rcases open_ints Tryz.underlying22 Tryz.underlying5 (by kernel_rfl) hf with ⟨hcs, _⟩ | ⟨x, l, c, zs, hcs, _, hl, hm, hz, _, hcell, hwz⟩
    · simp [Value.cells] at hcs
      obtain ⟨rfl, rfl, rfl⟩ := hcs
      exact ⟨[], .inl ⟨rfl, rfl, rfl, rfl⟩⟩
    · simp [Value.cells] at hcs
      obtain ⟨rfl, rfl, rfl⟩ := hcs
      exact ⟨zs, .inr ⟨_, rfl, hl, hm, by simpa using hz, hcell, hwz⟩⟩
  clear hA0 hval0
  refine (walk a0 len0 cap0 z0 W w0).mono fun e W' ⟨he, bel⟩ => ?_
  subst he
  exact ⟨_, rfl, _, _, _, [], _, [], hW', trodAll_mk1 (shut_bool Tryz.underlying4 _), (trodAll_cons_mk (Below.trod laidOut (by kernel_rfl) (of_decide_eq_true (by kernel_rfl)) k0 bel lt0) trodAll_mk0), rfl, bel.frame _, fun h => by cases h⟩

theorem closed : joinedFacts Tryz.prog 17 Tryz.f17 Rows.fnWorldKeysSpec Rows.fnWorldKeysRow = true := by
  unfold joinedFacts
  iterate 31 (refine and_t ?_ ?_)
  · kernel_rfl
  · kernel_rfl
  · kernel_rfl
  · kernel_rfl
  · kernel_rfl
  · kernel_rfl
  · kernel_rfl
  · kernel_rfl
  · kernel_rfl
  · kernel_rfl
  · kernel_rfl
  · kernel_rfl
  · kernel_rfl
  · kernel_rfl
  · kernel_rfl
  · kernel_rfl
  · kernel_rfl
  · kernel_rfl
  · kernel_rfl
  · kernel_rfl
  · kernel_rfl
  · kernel_rfl
  · kernel_rfl
  · kernel_rfl
  · kernel_rfl
  · exact may_enter
  · rw [lifts_final]; kernel_rfl
  · rw [make_is]; kernel_rfl
  · kernel_rfl
  · kernel_rfl
  · kernel_rfl
  · kernel_rfl
theorem over : Rows.fnWorldKeysRow.holds Tryz.pinned (OpenSpec.ofChange Rows.fnWorldKeysSpec) :=
  OpenClaim.holds_of_wide 17 Tryz.f17 rfl rfl rfl rfl rfl rfl rfl ⟨rfl, rfl, rfl, rfl, rfl⟩ rfl rfl rfl rfl rfl (by kernel_rfl) Tryz.func17 closed
    (of_decide_eq_true (by kernel_rfl)) (by unfold Func.isWrapper; first | (rw [if_pos (by decide +kernel)]; kernel_rfl) | (rw [if_neg (by decide +kernel)]; exact ⟨rfl, rfl⟩))
    (fun os started H enc _ => lifted os started H enc)

theorem proved : Rows.FnWorldKeysSaid := over
end Go.Proofs.YtkdlkclanlkebaaGreat.fnWorldKeys
