/- The laws' words about worlds: nobody is taken for another one; who is met was called. -/
import Derived.Test.YtkdlkclanlkebaaGreatA11
import Derived.Test.YtkdlkclanlkebaaGreatA12
set_option linter.unusedVariables false
set_option linter.unusedSectionVars false
set_option linter.unusedSimpArgs false
namespace Go.Proofs.YtkdlkclanlkebaaGreat
open Go Go.Proofs Go.Proofs.YtkdlkclanlkebaaGreat.VE
attribute [local irreducible] Val Op1 WO WR WA WC seqQ blockQ loopQ retQ
noncomputable def o35x8N1 : Array Oper := cops (cl (cl (cl (cr (cl (cl (cr (cr (cl (cl (cr (cl (cl (cr (cl (cr (codeOf Tryz.f35)))))))))))))))))
noncomputable def o35x9N1 : Array Oper := cops (cl (cr (cl (cl (cr (cl (cl (cr (cr (cl (cl (cr (cl (cl (cr (cl (cr (codeOf Tryz.f35))))))))))))))))))
noncomputable def o36x10N1 : Array Oper := cops (cl (cl (cr (cl (cl (cr (cl (cl (cr (cr (cl (cl (cr (cl (cl (cr (cl (cr (codeOf Tryz.f36)))))))))))))))))))
noncomputable def o36x11N1 : Array Oper := cops (cl (cr (cr (cl (cl (cr (cl (cl (cr (cr (cl (cl (cr (cl (cl (cr (cl (cr (codeOf Tryz.f36)))))))))))))))))))
noncomputable def o36x12N1 : Array Oper := cops (cl (cr (cr (cr (cl (cl (cr (cl (cl (cr (cr (cl (cl (cr (cl (cl (cr (cl (cr (codeOf Tryz.f36))))))))))))))))))))
noncomputable def o36x8N1 : Array Oper := cops (cl (cl (cl (cl (cr (cl (cl (cr (cr (cl (cl (cr (cl (cl (cr (cl (cr (codeOf Tryz.f36))))))))))))))))))
noncomputable def r35x8N1 : Run := (.st 0 0 (.st 1 1 (.st 2 0 (.st 3 0 (.st 4 0 (.st 5 0 (.st 6 1 (.st 7 0 (.st 8 0 (.st 9 0 (.st 10 1 (.st 11 0 .done))))))))))))
noncomputable def r35x9N1 : Run := (.st 0 0 (.st 1 0 (.st 2 0 (.st 3 0 (.st 4 0 (.st 5 0 (.st 6 0 (.st 7 1 (.st 8 0 (.st 9 0 (.st 10 0 (.st 11 0 (.st 12 1 (.st 13 0 (.st 14 0 (.st 15 0 (.st 16 0 (.st 17 1 (.st 18 0 (.st 19 3 (.st 20 0 .done)))))))))))))))))))))
noncomputable def r36x10N1 : Run := (.st 0 0 (.st 1 0 (.st 2 0 (.st 3 0 (.st 4 1 (.st 5 0 (.st 6 1 (.st 7 0 .done))))))))
noncomputable def r36x11N1 : Run := (.st 0 0 (.st 1 1 (.st 2 0 (.st 3 0 (.st 4 0 (.st 5 0 (.st 6 1 (.st 7 0 (.st 8 0 (.st 9 0 (.st 10 1 (.st 11 0 .done))))))))))))
noncomputable def r36x12N1 : Run := (.st 0 0 (.st 1 0 (.st 2 1 (.st 3 0 (.st 4 0 (.st 5 0 (.st 6 1 (.st 7 0 (.st 8 0 (.st 9 0 (.st 10 0 (.st 11 1 (.st 12 0 (.st 13 0 (.st 14 0 (.st 15 0 (.st 16 1 (.st 17 0 (.st 18 0 (.st 19 0 (.st 20 0 (.st 21 1 (.st 22 0 (.st 23 3 (.st 24 0 .done)))))))))))))))))))))))))
noncomputable def r36x8N1 : Run := (.st 0 0 (.st 1 0 (.st 2 0 (.st 3 0 (.st 4 0 (.st 5 0 (.st 6 1 (.st 7 3 .done))))))))
set_option maxHeartbeats 8000000
theorem took_new {xs : List Call} (h : xs.Nodup) {k : Nat} {x : Call} (hx : xs[k]? = some x) : x ∉ xs.take k := fun hm => by
  have hsplit : xs = xs.take k ++ x :: xs.drop (k + 1) := by
    obtain ⟨hlt, he⟩ := List.getElem?_eq_some_iff.1 hx
    rw [← he, List.getElem_cons_drop, List.take_append_drop]
  rw [hsplit, List.nodup_append] at h
  exact h.2.2 x hm x List.mem_cons_self rfl
section
variable {L : List Ent} (w : World) (kc : Sl) (ac av al : Option Addr) (nc nv nl cc cv cl : Nat) (ps : List (Client × CSl)) (ss : List (Serv × (Sl × Sl))) (ms : List (Msg × Sl)) (hat : WldAt L w ⟨kc, ⟨ac, nc, cc⟩, ⟨av, nv, cv⟩, ⟨al, nl, cl⟩⟩ ps ss ms) (hinv : Inv w)
include hat hinv
theorem c_lbAuthentic0 : RO Tryz.prog 36 [worldV w ⟨kc, ⟨ac, nc, cc⟩, ⟨av, nv, cv⟩, ⟨al, nl, cl⟩⟩] L (B true) := by
  have hok := hinv.ok
  obtain ⟨hnc, hnv, hnl⟩ := parts_at hat
  subst hnc hnv hnl
  obtain ⟨hkc, hpe, hpr, hpa, hsE, hsr, hsa, hme, hmr, hma⟩ := hat
  obtain ⟨hnP, hc1, hb1, hat1⟩ := hpr
  obtain ⟨hnS, hc2, hb2, hat2⟩ := hsr
  dsimp only at hat1 hat2 hc1 hc2
  simp only [big] at hb1 hb2
  clear hnP hnS
  have hpl3 : ps.length = 3 := by rw [← List.length_map (f := Prod.fst), hpe]; exact hok.cl
  have hsl2 : ss.length = 2 := by rw [← List.length_map (f := Prod.fst), hsE]; exact hok.sl
  obtain ⟨bP, oP, csP, TP, frP, rfl, hmP, hrP⟩ := hat1 (by omega)
  obtain ⟨bS, oS, csS, TS, frS, rfl, hmS, hrS⟩ := hat2 (by omega)
  refine Tri.of Tryz.func36 rfl rfl Tryz.ntmps36 rfl rfl ?_
  (repeat' (first | refine nI ?_ | (refine nA ?_; intro _) | refine nY ?_ | refine WA_alt ?_ ?_ | refine nR ?_ | refine WC_drawL (id := 8) (ops := o36x8N1) r36x8N1 (by kernel_rfl) rfl ?_ | refine WC_drawL (id := 10) (ops := o36x10N1) r36x10N1 (by kernel_rfl) rfl ?_ | refine WC_drawL (id := 11) (ops := o36x11N1) r36x11N1 (by kernel_rfl) rfl ?_ | refine WC_drawL (id := 12) (ops := o36x12N1) r36x12N1 (by kernel_rfl) rfl ?_ | refine WC_cond rfl (fun hc => ?_) (fun hc => ?_)))
  rename_i bx
  refine WC_loop (fun mz Ez Mz => ∃ k : Nat, k + mz = (ss).length ∧ Ez = [(1, .pointer (some ⟨bx, 0, none⟩)), (3, I k)] ∧ Mz = (bx, cellsO (worldC w ⟨kc, ⟨some ⟨bP, oP, none⟩, ps.length, cc⟩, ⟨some ⟨bS, oS, none⟩, ss.length, cv⟩, ⟨al, ms.length, cl⟩⟩) 33) :: L ∧ (True)) (ss).length (by exact kQ) (by exact kL) ⟨0, by omega, rfl, rfl, by trivial⟩ ?_
  rintro mz Ez Mz ⟨k, hk, rfl, rfl, hin⟩
  rcases Nat.lt_or_ge k (ss).length with hlt | hge
  · obtain ⟨⟨v, sc, ⟨at0, nt0, ct0⟩⟩, hy1⟩ : ∃ y, ss[k]? = some y := ⟨_, List.getElem?_eq_getElem hlt⟩
    have hrow1 := hrS k _ hy1
    have hv : v ∈ w.servs := by rw [← hsE]; exact List.mem_map_of_mem (List.mem_of_getElem? hy1)
    have hvat := (hsa _ (List.mem_of_getElem? hy1)).t
    obtain ⟨hn0, hcb, hb0, ha0⟩ := hvat
    have hvat : SliceAt L encCall ⟨at0, nt0, ct0⟩ v.took := (hsa _ (List.mem_of_getElem? hy1)).t
    dsimp only at hn0 ha0 hcb
    subst hn0
    simp only [big] at hb0
    (repeat' (first | refine nI ?_ | (refine nA ?_; intro _) | refine nY ?_ | refine WA_alt ?_ ?_ | refine nR ?_ | refine WC_drawL (id := 8) (ops := o36x8N1) r36x8N1 (by kernel_rfl) rfl ?_ | refine WC_drawL (id := 10) (ops := o36x10N1) r36x10N1 (by kernel_rfl) rfl ?_ | refine WC_drawL (id := 11) (ops := o36x11N1) r36x11N1 (by kernel_rfl) rfl ?_ | refine WC_drawL (id := 12) (ops := o36x12N1) r36x12N1 (by kernel_rfl) rfl ?_ | refine WC_cond rfl (fun hc => ?_) (fun hc => ?_)))
    refine WC_loop (fun mzj Ezj Mzj => ∃ kj : Nat, kj + mzj = (v.took).length ∧ Ezj = [(1, .pointer (some ⟨bx, 0, none⟩)), (3, I k), (4, .slice at0 v.took.length ct0), (5, I kj)] ∧ Mzj = (bx, cellsO (worldC w ⟨kc, ⟨some ⟨bP, oP, none⟩, ps.length, cc⟩, ⟨some ⟨bS, oS, none⟩, ss.length, cv⟩, ⟨al, ms.length, cl⟩⟩) 33) :: L ∧ (True)) (v.took).length (by exact kQ) (by exact kL) ⟨0, by omega, rfl, rfl, by trivial⟩ ?_
    rintro mzj Ezj Mzj ⟨kj, hkj, rfl, rfl, hinj⟩
    rcases Nat.lt_or_ge kj (v.took).length with hltj | hgej
    · obtain ⟨x, hx⟩ : ∃ x, v.took[kj]? = some x := ⟨_, List.getElem?_eq_getElem hltj⟩
      obtain ⟨bx', ox, cx, Tx, fx, rfl, hmx, hrx⟩ := ha0 (by omega)
      have hrx' := hrx kj x hx
      have hxm := List.mem_of_getElem? hx
      have hcut := hvat.take (k := kj) (by omega)
      have hnew := took_new (hinv.vs v hv).once hx
      have htk := tookOk_cases ((serv_ok hok hv).took x hxm)
      by_cases hpb : x.peer = w.bad
      · (repeat' (first | refine nI ?_ | (refine nA ?_; intro _) | (refine nW ?_; first | (refine op_call_id ?_; refine op_ro rfl rfl (by exact (c_laws.lbCalled ⟨_, _, _⟩ (v.took.take kj) x (hcut.mono (by exact kS))).eq (congrArg B (decide_eq_false hnew))) ?_)) | refine nY ?_ | refine WA_alt ?_ ?_ | refine nR ?_ | refine WC_drawL (id := 8) (ops := o36x8N1) r36x8N1 (by kernel_rfl) rfl ?_ | refine WC_drawL (id := 10) (ops := o36x10N1) r36x10N1 (by kernel_rfl) rfl ?_ | refine WC_drawL (id := 11) (ops := o36x11N1) r36x11N1 (by kernel_rfl) rfl ?_ | refine WC_drawL (id := 12) (ops := o36x12N1) r36x12N1 (by kernel_rfl) rfl ?_ | refine WC_cond rfl (fun hc => ?_) (fun hc => ?_)))
        exact loopQ_next ⟨mzj - 1, _, _, by omega, by exact kQ, by exact kL, kj + 1, by omega, rfl, rfl, by trivial⟩
      obtain ⟨⟨u, ⟨sw, scr, ⟨as0, ns0, cs0⟩, sme⟩⟩, hpu⟩ : ∃ y, ps[(x.peer - 1).toNat]? = some y := ⟨_, List.getElem?_eq_getElem (by omega)⟩
      have hpu' := hrP _ _ hpu
      have hsent := (hpa _ (List.mem_of_getElem? hpu)).s
      have hcu : w.clients[(x.peer - 1).toNat]? = some u := by rw [← hpe, List.getElem?_map, hpu]; rfl
      have hco : clientOf w x.peer = u := getD_some hcu
      have hau := inv_authentic hinv hv hxm hpb
      rw [hco] at hau
      (repeat' (first | refine nI ?_ | (refine nA ?_; intro _) | (refine nW ?_; first | (refine op_call_id ?_; refine op_ro rfl rfl (by first | exact (c_laws.lbCalled ⟨_, _, _⟩ (v.took.take kj) x (hcut.mono (by exact kS))).eq (congrArg B (decide_eq_false hnew)) | exact (c_laws.lbCalled ⟨as0, ns0, cs0⟩ u.sent ⟨v.id, x.key, x.time, x.num⟩ (hsent.mono (by exact kS))).eq (congrArg B (decide_eq_true hau))) ?_)) | refine nY ?_ | refine WA_alt ?_ ?_ | refine nR ?_ | refine WC_drawL (id := 8) (ops := o36x8N1) r36x8N1 (by kernel_rfl) rfl ?_ | refine WC_drawL (id := 10) (ops := o36x10N1) r36x10N1 (by kernel_rfl) rfl ?_ | refine WC_drawL (id := 11) (ops := o36x11N1) r36x11N1 (by kernel_rfl) rfl ?_ | refine WC_drawL (id := 12) (ops := o36x12N1) r36x12N1 (by kernel_rfl) rfl ?_ | refine WC_cond rfl (fun hc => ?_) (fun hc => ?_)))
      exact loopQ_next ⟨mzj - 1, _, _, by omega, by exact kQ, by exact kL, kj + 1, by omega, rfl, rfl, by trivial⟩
    (repeat' (first | refine nI ?_ | (refine nA ?_; intro _) | refine nY ?_ | refine WA_alt ?_ ?_ | refine nR ?_ | refine WC_drawL (id := 8) (ops := o36x8N1) r36x8N1 (by kernel_rfl) rfl ?_ | refine WC_drawL (id := 10) (ops := o36x10N1) r36x10N1 (by kernel_rfl) rfl ?_ | refine WC_drawL (id := 11) (ops := o36x11N1) r36x11N1 (by kernel_rfl) rfl ?_ | refine WC_drawL (id := 12) (ops := o36x12N1) r36x12N1 (by kernel_rfl) rfl ?_ | refine WC_cond rfl (fun hc => ?_) (fun hc => ?_)))
    exact loopQ_next ⟨mz - 1, _, _, by omega, by exact kQ, by exact kL, k + 1, by omega, rfl, rfl, by trivial⟩
  (repeat' (first | refine nI ?_ | (refine nA ?_; intro _) | refine nY ?_ | refine WA_alt ?_ ?_ | refine nR ?_ | refine WC_drawL (id := 8) (ops := o36x8N1) r36x8N1 (by kernel_rfl) rfl ?_ | refine WC_drawL (id := 10) (ops := o36x10N1) r36x10N1 (by kernel_rfl) rfl ?_ | refine WC_drawL (id := 11) (ops := o36x11N1) r36x11N1 (by kernel_rfl) rfl ?_ | refine WC_drawL (id := 12) (ops := o36x12N1) r36x12N1 (by kernel_rfl) rfl ?_ | refine WC_cond rfl (fun hc => ?_) (fun hc => ?_)))
  refine ro_ret (by exact kR) (by exact kL) ?_; rfl
theorem c_lbMutual0 : RO Tryz.prog 35 [worldV w ⟨kc, ⟨ac, nc, cc⟩, ⟨av, nv, cv⟩, ⟨al, nl, cl⟩⟩] L (B true) := by
  have hok := hinv.ok
  obtain ⟨hnc, hnv, hnl⟩ := parts_at hat
  subst hnc hnv hnl
  obtain ⟨hkc, hpe, hpr, hpa, hsE, hsr, hsa, hme, hmr, hma⟩ := hat
  obtain ⟨hnP, hc1, hb1, hat1⟩ := hpr
  obtain ⟨hnS, hc2, hb2, hat2⟩ := hsr
  dsimp only at hat1 hat2 hc1 hc2
  simp only [big] at hb1 hb2
  clear hnP hnS
  have hpl3 : ps.length = 3 := by rw [← List.length_map (f := Prod.fst), hpe]; exact hok.cl
  have hsl2 : ss.length = 2 := by rw [← List.length_map (f := Prod.fst), hsE]; exact hok.sl
  obtain ⟨bP, oP, csP, TP, frP, rfl, hmP, hrP⟩ := hat1 (by omega)
  obtain ⟨bS, oS, csS, TS, frS, rfl, hmS, hrS⟩ := hat2 (by omega)
  refine Tri.of Tryz.func35 rfl rfl Tryz.ntmps35 rfl rfl ?_
  (repeat' (first | refine nI ?_ | (refine nA ?_; intro _) | refine nY ?_ | refine WA_alt ?_ ?_ | refine nR ?_ | refine WC_drawL (id := 8) (ops := o35x8N1) r35x8N1 (by kernel_rfl) rfl ?_ | refine WC_drawL (id := 9) (ops := o35x9N1) r35x9N1 (by kernel_rfl) rfl ?_ | refine WC_cond rfl (fun hc => ?_) (fun hc => ?_)))
  rename_i bx
  refine WC_loop (fun mz Ez Mz => ∃ k : Nat, k + mz = (ps).length ∧ Ez = [(1, .pointer (some ⟨bx, 0, none⟩)), (3, I k)] ∧ Mz = (bx, cellsO (worldC w ⟨kc, ⟨some ⟨bP, oP, none⟩, ps.length, cc⟩, ⟨some ⟨bS, oS, none⟩, ss.length, cv⟩, ⟨al, ms.length, cl⟩⟩) 33) :: L ∧ (True)) (ps).length (by exact kQ) (by exact kL) ⟨0, by omega, rfl, rfl, by trivial⟩ ?_
  rintro mz Ez Mz ⟨k, hk, rfl, rfl, hin⟩
  rcases Nat.lt_or_ge k (ps).length with hlt | hge
  · obtain ⟨⟨u, ⟨sw, scr, sse, ⟨at0, nt0, ct0⟩⟩⟩, hy1⟩ : ∃ y, ps[k]? = some y := ⟨_, List.getElem?_eq_getElem hlt⟩
    have hrow1 := hrP k _ hy1
    have hu : u ∈ w.clients := by rw [← hpe]; exact List.mem_map_of_mem (List.mem_of_getElem? hy1)
    have huk : w.clients[k]? = some u := by rw [← hpe, List.getElem?_map, hy1]; rfl
    have hid := (hok.cs k u huk).2
    obtain ⟨hn0, hcb, hb0, ha0⟩ := (hpa _ (List.mem_of_getElem? hy1)).m
    dsimp only at hn0 ha0
    subst hn0
    simp only [big] at hb0
    (repeat' (first | refine nI ?_ | (refine nA ?_; intro _) | refine nY ?_ | refine WA_alt ?_ ?_ | refine nR ?_ | refine WC_drawL (id := 8) (ops := o35x8N1) r35x8N1 (by kernel_rfl) rfl ?_ | refine WC_drawL (id := 9) (ops := o35x9N1) r35x9N1 (by kernel_rfl) rfl ?_ | refine WC_cond rfl (fun hc => ?_) (fun hc => ?_)))
    refine WC_loop (fun mzj Ezj Mzj => ∃ kj : Nat, kj + mzj = (u.met).length ∧ Ezj = [(1, .pointer (some ⟨bx, 0, none⟩)), (3, I k), (4, .slice at0 u.met.length ct0), (5, I kj)] ∧ Mzj = (bx, cellsO (worldC w ⟨kc, ⟨some ⟨bP, oP, none⟩, ps.length, cc⟩, ⟨some ⟨bS, oS, none⟩, ss.length, cv⟩, ⟨al, ms.length, cl⟩⟩) 33) :: L ∧ (True)) (u.met).length (by exact kQ) (by exact kL) ⟨0, by omega, rfl, rfl, by trivial⟩ ?_
    rintro mzj Ezj Mzj ⟨kj, hkj, rfl, rfl, hinj⟩
    rcases Nat.lt_or_ge kj (u.met).length with hltj | hgej
    · obtain ⟨x, hx⟩ : ∃ x, u.met[kj]? = some x := ⟨_, List.getElem?_eq_getElem hltj⟩
      obtain ⟨bx', ox, cx, Tx, fx, rfl, hmx, hrx⟩ := ha0 (by omega)
      have hrx' := hrx kj x hx
      obtain ⟨hpr, hmt⟩ := inv_mutual hinv hu (List.mem_of_getElem? hx)
      obtain ⟨⟨v, sc, ⟨as0, ns0, cs0⟩⟩, hpv⟩ : ∃ y, ss[(x.peer - 4).toNat]? = some y := ⟨_, List.getElem?_eq_getElem (by omega)⟩
      have hpv' := hrS _ _ hpv
      have hvt := (hsa _ (List.mem_of_getElem? hpv)).t
      have hvk : w.servs[(x.peer - 4).toNat]? = some v := by rw [← hsE, List.getElem?_map, hpv]; rfl
      have hso : servOf w x.peer = v := getD_some hvk
      rw [hso, hid] at hmt
      (repeat' (first | refine nI ?_ | (refine nA ?_; intro _) | (refine nW ?_; first | (refine op_call_id ?_; refine op_ro rfl rfl (by exact (c_laws.lbCalled ⟨as0, ns0, cs0⟩ v.took ⟨(k : Int) + 1, x.key, x.time, x.num⟩ (hvt.mono (by exact kS))).eq (congrArg B (decide_eq_true hmt))) ?_)) | refine nY ?_ | refine WA_alt ?_ ?_ | refine nR ?_ | refine WC_drawL (id := 8) (ops := o35x8N1) r35x8N1 (by kernel_rfl) rfl ?_ | refine WC_drawL (id := 9) (ops := o35x9N1) r35x9N1 (by kernel_rfl) rfl ?_ | refine WC_cond rfl (fun hc => ?_) (fun hc => ?_)))
      exact loopQ_next ⟨mzj - 1, _, _, by omega, by exact kQ, by exact kL, kj + 1, by omega, rfl, rfl, by trivial⟩
    (repeat' (first | refine nI ?_ | (refine nA ?_; intro _) | refine nY ?_ | refine WA_alt ?_ ?_ | refine nR ?_ | refine WC_drawL (id := 8) (ops := o35x8N1) r35x8N1 (by kernel_rfl) rfl ?_ | refine WC_drawL (id := 9) (ops := o35x9N1) r35x9N1 (by kernel_rfl) rfl ?_ | refine WC_cond rfl (fun hc => ?_) (fun hc => ?_)))
    exact loopQ_next ⟨mz - 1, _, _, by omega, by exact kQ, by exact kL, k + 1, by omega, rfl, rfl, by trivial⟩
  (repeat' (first | refine nI ?_ | (refine nA ?_; intro _) | refine nY ?_ | refine WA_alt ?_ ?_ | refine nR ?_ | refine WC_drawL (id := 8) (ops := o35x8N1) r35x8N1 (by kernel_rfl) rfl ?_ | refine WC_drawL (id := 9) (ops := o35x9N1) r35x9N1 (by kernel_rfl) rfl ?_ | refine WC_cond rfl (fun hc => ?_) (fun hc => ?_)))
  refine ro_ret (by exact kR) (by exact kL) ?_; rfl
end
theorem c_lbAuthentic {L : List Ent} (w : World) (q : WSl) (ps : List (Client × CSl)) (ss : List (Serv × (Sl × Sl))) (ms : List (Msg × Sl)) (hat : WldAt L w q ps ss ms) (hinv : Inv w) : RO Tryz.prog 36 [worldV w q] L (B true) := by
  obtain ⟨kc, ⟨ac, nc, cc⟩, ⟨av, nv, cv⟩, ⟨al, nl, cl⟩⟩ := q
  exact c_lbAuthentic0 w kc ac av al nc nv nl cc cv cl ps ss ms hat hinv
theorem c_lbMutual {L : List Ent} (w : World) (q : WSl) (ps : List (Client × CSl)) (ss : List (Serv × (Sl × Sl))) (ms : List (Msg × Sl)) (hat : WldAt L w q ps ss ms) (hinv : Inv w) : RO Tryz.prog 35 [worldV w q] L (B true) := by
  obtain ⟨kc, ⟨ac, nc, cc⟩, ⟨av, nv, cv⟩, ⟨al, nl, cl⟩⟩ := q
  exact c_lbMutual0 w kc ac av al nc nv nl cc cv cl ps ss ms hat hinv
end Go.Proofs.YtkdlkclanlkebaaGreat
/- Worlds that are ok: the keys to which who hears all comes. -/
set_option linter.unusedVariables false
set_option linter.unusedSectionVars false
set_option linter.unusedSimpArgs false
namespace Go.Proofs.YtkdlkclanlkebaaGreat
open Go Go.Proofs Go.Proofs.YtkdlkclanlkebaaGreat.VE
attribute [local irreducible] Val Op1 WO WR WA WC seqQ blockQ loopQ retQ
noncomputable def o49x4N5 : Array Oper := cops (cl (cl (cl (cr (cr (cl (cl (cr (cl (cr (cr (codeOf Tryz.f49))))))))))))
noncomputable def o50x5N5 : Array Oper := cops (cl (cl (cl (cr (cl (cl (cr (cl (cr (cr (codeOf Tryz.f50)))))))))))
noncomputable def r49x4N5 : Run := (.st 0 0 (.st 1 0 (.st 2 0 (.st 3 1 (.st 4 0 (.st 5 0 .done))))))
noncomputable def r50x5N5 : Run := (.st 0 0 (.st 1 0 (.st 3 0 (.st 4 0 (.st 5 1 (.st 6 0 (.st 2 2 (.st 7 0 .done))))))))
set_option maxHeartbeats 8000000
theorem c_knowKeys {L : List Ent} (sk ss : Sl) (keys : List Int) (seals : List Seal) (hk : SliceAt L encInt sk keys) (hs : SliceAt L encSeal ss seals) :
    Tri Tryz.prog 49 [sk.v, ss.v] L (fun v L' => ∃ a c es, v = Sl.v ⟨a, (knowKeys keys seals).length, c⟩ ∧ Row encInt 3 ⟨a, (knowKeys keys seals).length, c⟩ (knowKeys keys seals) es ∧ L' = es ++ L) := by
  have hstep : ∀ k, k < 61 → ((List.range (k + 1)).map (fun k : Nat => (k : Int))).filter (comes keys seals) = ((List.range k).map (fun k : Nat => (k : Int))).filter (comes keys seals) ++ (if comes keys seals (k : Int) = true then [(k : Int)] else []) := fun k _ => by
    rw [List.range_succ, List.map_append, List.filter_append]
    simp only [List.map_cons, List.map_nil, List.filter_cons, List.filter_nil]
  have hl61 : (List.range 61).length = 61 := List.length_range
  refine Tri.of Tryz.func49 rfl rfl Tryz.ntmps49 rfl rfl ?_
  (repeat' (first | refine nI ?_ | (refine nA ?_; intro _) | (refine nW ?_; first | (refine op_makeSlice (l := 0) (c := 60) (e := 3) rfl rfl rfl rfl rfl rfl rfl rfl rfl rfl ?_; intro _) | (refine op_call_id ?_; refine op_call rfl (c_ringOf0 sk ss keys seals (hk.mono (by exact kS)) (hs.mono (by exact kS))) rfl ?_; rintro _ _ ⟨br, f, rfl, hf, hf0, rfl⟩)) | refine nY ?_ | refine WA_alt ?_ ?_ | refine nR ?_ | refine WC_drawL (id := 4) (ops := o49x4N5) r49x4N5 (by kernel_rfl) rfl ?_ | refine WC_cond rfl (fun hc => ?_) (fun hc => ?_)))
  rename_i b8
  refine WC_loop (fun mz Ez Mz => ∃ (k : Nat) (a2 : Option Addr) (n2 c2 : Nat) (eo : List Ent), k + mz = (List.range 61).length ∧ Ez = [(5, .slice a2 n2 c2), (11, .pointer (some ⟨br, 0, none⟩)), (12, I k)] ∧ Mz = (br, cellsO (ringC f) 135) :: (eo ++ L) ∧ (Row encInt 3 ⟨a2, n2, c2⟩ (((List.range k).map (fun k : Nat => (k : Int))).filter (comes keys seals)) eo)) (List.range 61).length (by exact kQ) (by exact kL) ⟨0, some ⟨b8, 0, none⟩, 0, 60, [(b8, cellsO (zerosOf [I 0] 60) 3)], by omega, rfl, rfl, by exact Row.made (E := encInt) rfl (by omega)⟩ ?_
  rintro mz Ez Mz ⟨k, a2, n2, c2, eo, hk, rfl, rfl, hin⟩
  rcases Nat.lt_or_ge k (List.range 61).length with hlt | hge
  · have hk' : (0 : Int) ≤ (k : Int) ∧ (k : Int) ≤ 60 := by omega
    have hg := ring_get f hk'
    have hlen := List.length_filter_le (comes keys seals) ((List.range k).map (fun k : Nat => (k : Int)))
    rw [List.length_map, List.length_range] at hlen
    have hfk : f ((k : Int)).toNat = comes keys seals (k : Int) := by
      rcases Nat.eq_zero_or_pos k with h0 | h0
      · subst h0
        have hc0 : comes keys seals ((0 : Nat) : Int) = false := (hf 0).symm.trans rfl
        rw [hc0]; exact hf0
      · rw [← hf (k : Int), within_iff.2 (show (1 : Int) ≤ (k : Int) ∧ (k : Int) ≤ 60 by omega)]; rfl
    rw [hfk] at hg
    cases hck : comes keys seals (k : Int) with
    | false =>
      rw [hck] at hg
      have hst := hstep k (by omega)
      rw [hck] at hst
      (repeat' (first | refine nI ?_ | (refine nA ?_; intro _) | (refine nW ?_; first | (refine op_load_id ?_; refine op_val rfl (by exact val_load1 rfl rfl rfl (by exact kM) hg) ?_)) | (refine WR_id ?_; refine WR_load rfl rfl rfl (by exact val_load1 rfl rfl rfl (by exact kM) hg) (by exact kS) ?_) | refine nY ?_ | refine WA_alt ?_ ?_ | refine nR ?_ | refine WC_drawL (id := 4) (ops := o49x4N5) r49x4N5 (by kernel_rfl) rfl ?_ | refine WC_cond rfl (fun hc => ?_) (fun hc => ?_)))
      exact loopQ_next ⟨mz - 1, _, _, by omega, by exact kQ, by exact kL, k + 1, a2, n2, c2, eo, by omega, rfl, rfl, by (rw [hst]; simpa using hin)⟩
    | true =>
      rw [hck] at hg
      have hst := hstep k (by omega)
      rw [hck, if_pos rfl] at hst
      (repeat' (first | refine nI ?_ | (refine nA ?_; intro _) | (refine nW ?_; first | (refine op_load_id ?_; refine op_val rfl (by exact val_load1 rfl rfl rfl (by exact kM) hg) ?_) | (refine go_append ?_; refine op_appendRow (sl := ⟨_, _, _⟩) (sx := ⟨_, _, _⟩) rfl rfl rfl rfl rfl rfl rfl rfl rfl (hin) (by exact kE) (SliceAt.one (x := (k : Int)) (by exact kM) rfl) (by (simp only [List.length_cons, List.length_nil, lim]; omega)) ?_; intro sl' es' hrow' hst')) | (refine WR_id ?_; refine WR_load rfl rfl rfl (by exact val_load1 rfl rfl rfl (by exact kM) hg) (by exact kS) ?_) | refine nY ?_ | refine WA_alt ?_ ?_ | refine nR ?_ | refine WC_drawL (id := 4) (ops := o49x4N5) r49x4N5 (by kernel_rfl) rfl ?_ | refine WC_cond rfl (fun hc => ?_) (fun hc => ?_)))
      obtain ⟨a9, n9, c9⟩ := sl'
      exact loopQ_next ⟨mz - 1, _, _, by omega, by exact kQ, by exact kL, k + 1, a9, n9, c9, es', by omega, rfl, rfl, by (rw [hst]; exact hrow')⟩
  · have hk61 : k = 61 := by omega
    subst hk61
    have hin2 : Row encInt 3 ⟨a2, n2, c2⟩ (knowKeys keys seals) eo := hin
    have hn2 := hin2.n
    dsimp only at hn2
    subst hn2
    have hcap := hin2.1.le_cap
    dsimp only at hcap
    obtain ⟨f1, hf1, hq1⟩ := hin2.clip
    (repeat' (first | refine nI ?_ | (refine nA ?_; intro _) | refine nY ?_ | refine WA_alt ?_ ?_ | refine nR ?_ | refine WC_drawL (id := 4) (ops := o49x4N5) r49x4N5 (by kernel_rfl) rfl ?_ | refine WC_cond rfl (fun hc => ?_) (fun hc => ?_)))
    refine ret_ret (by exact kR) ?_; exact ⟨f1 ++ L, SubP.trans (M := eo ++ L) (by exact kP) (hf1 L), a2, _, f1, rfl, hq1, rfl⟩
theorem c_worldKeys {L : List Ent} (w : World) (q : WSl) (ps : List (Client × CSl)) (ss : List (Serv × (Sl × Sl))) (ms : List (Msg × Sl)) (hat : WldAt L w q ps ss ms) (hok : WOk w) :
    Tri Tryz.prog 43 [worldV w q] L (fun v L' => ∃ a c es, v = Sl.v ⟨a, (worldKeys w).length, c⟩ ∧ Row encInt 3 ⟨a, (worldKeys w).length, c⟩ (worldKeys w) es ∧ L' = es ++ L) := by
  have hsl : (w.log.flatMap Msg.seals).length ≤ 1000 := by
    have h1 := seals_len w.log hok.ms
    have h2 := hok.ll
    omega
  refine Tri.of Tryz.func43 rfl rfl Tryz.ntmps43 rfl rfl ?_
  (repeat' (first | refine nI ?_ | (refine nA ?_; intro _) | (refine nW ?_; first | (refine op_call_id ?_; refine op_ro rfl rfl (by exact c_worldOkT w q ps ss ms (hat.mono (by exact kS)) hok) ?_) | (refine op_call_id ?_; refine op_call rfl (c_own _ w q (by exact kM)) rfl ?_; rintro _ _ ⟨⟨ao, no, co⟩, eo, rfl, hro, rfl⟩) | (refine op_call_id ?_; refine op_call rfl (c_seals _ w q ms (by exact kM) (hat.mr.mono (by exact kS)) hat.me (fun p hp => (hat.ma p hp).mono (by exact kS)) hsl) rfl ?_; rintro _ _ ⟨⟨az, nz, cz⟩, ez, rfl, hrz, rfl⟩) | (refine op_call_id ?_; refine op_call rfl (c_knowKeys ⟨ao, no, co⟩ ⟨az, nz, cz⟩ (own w) (worldSeals w) (hro.atL (by exact kS)) (hrz.atL (by exact kS))) rfl ?_; rintro _ _ ⟨ak, ck, ek, rfl, hrk, rfl⟩)) | refine nY ?_ | refine nR ?_ | refine WC_cond rfl (fun hc => ?_) (fun hc => ?_)))
  refine ret_ret (by exact kR) ?_; exact ⟨ek ++ L, by exact kP, ak, ck, ek, rfl, hrk, rfl⟩
theorem c_lbSecret0 {L : List Ent} (w : World) (kc : Sl) (ac av al : Option Addr) (nc nv nl cc cv cl : Nat) (ps : List (Client × CSl)) (ss : List (Serv × (Sl × Sl))) (ms : List (Msg × Sl)) (hat : WldAt L w ⟨kc, ⟨ac, nc, cc⟩, ⟨av, nv, cv⟩, ⟨al, nl, cl⟩⟩ ps ss ms) (hinv : Inv w) : RO Tryz.prog 50 [worldV w ⟨kc, ⟨ac, nc, cc⟩, ⟨av, nv, cv⟩, ⟨al, nl, cl⟩⟩] L (B true) := by
  have hok := hinv.ok
  obtain ⟨hnc, hnv, hnl⟩ := parts_at hat
  subst hnc hnv hnl
  have hat0 := hat
  obtain ⟨hkc, hpe, hpr, hpa, hsE, hsr, hsa, hme, hmr, hma⟩ := hat
  obtain ⟨hnP, hc1, hb1, hat1⟩ := hpr
  dsimp only at hat1 hc1
  simp only [big] at hb1
  clear hnP
  have hpl3 : ps.length = 3 := by rw [← List.length_map (f := Prod.fst), hpe]; exact hok.cl
  obtain ⟨bP, oP, csP, TP, frP, rfl, hmP, hrP⟩ := hat1 (by omega)
  have hl6 : (List.range 6).length = 6 := List.length_range
  refine Tri.of Tryz.func50 rfl rfl Tryz.ntmps50 rfl rfl ?_
  (repeat' (first | refine nI ?_ | (refine nA ?_; intro _) | (refine nW ?_; first | (refine op_call_id ?_; refine op_call rfl (c_worldKeys w _ ps ss ms (hat0.mono (by exact kS)) hok) rfl ?_; rintro _ _ ⟨ak, ck, ek, rfl, hrk, rfl⟩)) | refine nY ?_ | refine WA_alt ?_ ?_ | refine nR ?_ | refine WC_drawL (id := 5) (ops := o50x5N5) r50x5N5 (by kernel_rfl) rfl ?_ | refine WC_cond rfl (fun hc => ?_) (fun hc => ?_)))
  rename_i bx
  refine WC_loop (fun mz Ez Mz => ∃ k : Nat, k + mz = (List.range 6).length ∧ Ez = [(1, .pointer (some ⟨bx, 0, none⟩)), (3, .slice ak (worldKeys w).length ck), (4, I ((k : Int) + 1))] ∧ Mz = (bx, cellsO (worldC w ⟨kc, ⟨some ⟨bP, oP, none⟩, ps.length, cc⟩, ⟨av, ss.length, cv⟩, ⟨al, ms.length, cl⟩⟩) 33) :: (ek ++ L) ∧ (True)) (List.range 6).length (by exact kQ) (by exact kL) ⟨0, by omega, rfl, rfl, by trivial⟩ ?_
  rintro mz Ez Mz ⟨k, hk, rfl, rfl, hin⟩
  rcases Nat.lt_or_ge k (List.range 6).length with hlt | hge
  · have hsec := inv_secret hinv (k := (k : Int) + 1) (by omega) (by omega)
    by_cases hkb : (k : Int) + 1 = w.bad
    · (repeat' (first | refine nI ?_ | (refine nA ?_; intro _) | (refine nW ?_; first | (refine op_call_id ?_; refine op_ro rfl rfl (by exact (c_lbHas ⟨_, _, _⟩ (worldKeys w) ((k : Int) + 1) (hrk.atL (by exact kS))).eq (congrArg B (decide_eq_true (hsec.2 hkb)))) ?_) | refine op_val rfl (by exact val_neqB_f rfl rfl rfl) ?_) | (refine WR_id ?_; refine WR_pure rfl rfl rfl (by exact val_neqB_f rfl rfl rfl) ?_) | refine nY ?_ | refine WA_alt ?_ ?_ | refine nR ?_ | refine WC_drawL (id := 5) (ops := o50x5N5) r50x5N5 (by kernel_rfl) rfl ?_ | refine WC_cond rfl (fun hc => ?_) (fun hc => ?_)))
      exact loopQ_next ⟨mz - 1, _, _, by omega, by exact kQ, by exact kL, k + 1, by omega, rfl, rfl, by trivial⟩
    · (repeat' (first | refine nI ?_ | (refine nA ?_; intro _) | (refine nW ?_; first | (refine op_call_id ?_; refine op_ro rfl rfl (by exact (c_lbHas ⟨_, _, _⟩ (worldKeys w) ((k : Int) + 1) (hrk.atL (by exact kS))).eq (congrArg B (decide_eq_false (fun h => hkb (hsec.1 h))))) ?_) | refine op_val rfl (by exact val_neqB_f rfl rfl rfl) ?_) | (refine WR_id ?_; refine WR_pure rfl rfl rfl (by exact val_neqB_f rfl rfl rfl) ?_) | refine nY ?_ | refine WA_alt ?_ ?_ | refine nR ?_ | refine WC_drawL (id := 5) (ops := o50x5N5) r50x5N5 (by kernel_rfl) rfl ?_ | refine WC_cond rfl (fun hc => ?_) (fun hc => ?_)))
      exact loopQ_next ⟨mz - 1, _, _, by omega, by exact kQ, by exact kL, k + 1, by omega, rfl, rfl, by trivial⟩
  (repeat' (first | refine nI ?_ | (refine nA ?_; intro _) | refine nY ?_ | refine WA_alt ?_ ?_ | refine nR ?_ | refine WC_drawL (id := 5) (ops := o50x5N5) r50x5N5 (by kernel_rfl) rfl ?_ | refine WC_cond rfl (fun hc => ?_) (fun hc => ?_)))
  clear hk hge hin
  refine WC_loop (fun mz Ez Mz => ∃ k : Nat, k + mz = (ps).length ∧ Ez = [(1, .pointer (some ⟨bx, 0, none⟩)), (3, .slice ak (worldKeys w).length ck), (5, I k)] ∧ Mz = (bx, cellsO (worldC w ⟨kc, ⟨some ⟨bP, oP, none⟩, ps.length, cc⟩, ⟨av, ss.length, cv⟩, ⟨al, ms.length, cl⟩⟩) 33) :: (ek ++ L) ∧ (True)) (ps).length (by exact kQ) (by exact kL) ⟨0, by omega, rfl, rfl, by trivial⟩ ?_
  rintro mz Ez Mz ⟨k, hk, rfl, rfl, hin⟩
  rcases Nat.lt_or_ge k (ps).length with hlt | hge
  · obtain ⟨⟨u, ⟨sw, ⟨a2, n2, c2⟩, ⟨a3, n3, c3⟩, sme⟩⟩, hy1⟩ : ∃ y, ps[k]? = some y := ⟨_, List.getElem?_eq_getElem hlt⟩
    have hrow1 := hrP k _ hy1
    have hu : u ∈ w.clients := by rw [← hpe]; exact List.mem_map_of_mem (List.mem_of_getElem? hy1)
    have huk : w.clients[k]? = some u := by rw [← hpe, List.getElem?_map, hy1]; rfl
    have hid := (hok.cs k u huk).2
    by_cases hbk : (k : Int) + 1 = w.bad
    · (repeat' (first | refine nI ?_ | (refine nA ?_; intro _) | refine nY ?_ | refine WA_alt ?_ ?_ | refine nR ?_ | refine WC_drawL (id := 5) (ops := o50x5N5) r50x5N5 (by kernel_rfl) rfl ?_ | refine WC_cond rfl (fun hc => ?_) (fun hc => ?_)))
      exact loopQ_next ⟨mz - 1, _, _, by omega, by exact kQ, by exact kL, k + 1, by omega, rfl, rfl, by trivial⟩
    have hune : u.id ≠ w.bad := by rw [hid]; exact hbk
    obtain ⟨hn2, hcc2, hbb2, ha2⟩ := (hpa _ (List.mem_of_getElem? hy1)).c
    obtain ⟨hn3, hcc3, hbb3, ha3⟩ := (hpa _ (List.mem_of_getElem? hy1)).s
    dsimp only at hn2 hn3 ha2 ha3
    subst hn2 hn3
    simp only [big] at hbb2 hbb3
    (repeat' (first | refine nI ?_ | (refine nA ?_; intro _) | refine nY ?_ | refine WA_alt ?_ ?_ | refine nR ?_ | refine WC_drawL (id := 5) (ops := o50x5N5) r50x5N5 (by kernel_rfl) rfl ?_ | refine WC_cond rfl (fun hc => ?_) (fun hc => ?_)))
    refine WC_loop (fun mzj Ezj Mzj => ∃ kj : Nat, kj + mzj = (u.creds).length ∧ Ezj = [(1, .pointer (some ⟨bx, 0, none⟩)), (3, .slice ak (worldKeys w).length ck), (5, I k), (6, I kj)] ∧ Mzj = (bx, cellsO (worldC w ⟨kc, ⟨some ⟨bP, oP, none⟩, ps.length, cc⟩, ⟨av, ss.length, cv⟩, ⟨al, ms.length, cl⟩⟩) 33) :: (ek ++ L) ∧ (True)) (u.creds).length (by exact kQ) (by exact kL) ⟨0, by omega, rfl, rfl, by trivial⟩ ?_
    rintro mzj Ezj Mzj ⟨kj, hkj, rfl, rfl, hinj⟩
    rcases Nat.lt_or_ge kj (u.creds).length with hltj | hgej
    · obtain ⟨x, hx⟩ : ∃ x, u.creds[kj]? = some x := ⟨_, List.getElem?_eq_getElem hltj⟩
      obtain ⟨bc, oc, cc', Tc, fc, rfl, hmc, hrc⟩ := ha2 (by omega)
      have hrc' := hrc kj x hx
      have hno := inv_cred_key hinv hu hune (List.mem_of_getElem? hx)
      (repeat' (first | refine nI ?_ | (refine nA ?_; intro _) | (refine nW ?_; first | (refine op_call_id ?_; refine op_ro rfl rfl (by exact (c_lbHas ⟨_, _, _⟩ (worldKeys w) x.key (hrk.atL (by exact kS))).eq (congrArg B (decide_eq_false hno))) ?_)) | refine nY ?_ | refine WA_alt ?_ ?_ | refine nR ?_ | refine WC_drawL (id := 5) (ops := o50x5N5) r50x5N5 (by kernel_rfl) rfl ?_ | refine WC_cond rfl (fun hc => ?_) (fun hc => ?_)))
      exact loopQ_next ⟨mzj - 1, _, _, by omega, by exact kQ, by exact kL, kj + 1, by omega, rfl, rfl, by trivial⟩
    (repeat' (first | refine nI ?_ | (refine nA ?_; intro _) | refine nY ?_ | refine WA_alt ?_ ?_ | refine nR ?_ | refine WC_drawL (id := 5) (ops := o50x5N5) r50x5N5 (by kernel_rfl) rfl ?_ | refine WC_cond rfl (fun hc => ?_) (fun hc => ?_)))
    clear hkj hgej hinj
    refine WC_loop (fun mzj Ezj Mzj => ∃ kj : Nat, kj + mzj = (u.sent).length ∧ Ezj = [(1, .pointer (some ⟨bx, 0, none⟩)), (3, .slice ak (worldKeys w).length ck), (5, I k), (7, I kj)] ∧ Mzj = (bx, cellsO (worldC w ⟨kc, ⟨some ⟨bP, oP, none⟩, ps.length, cc⟩, ⟨av, ss.length, cv⟩, ⟨al, ms.length, cl⟩⟩) 33) :: (ek ++ L) ∧ (True)) (u.sent).length (by exact kQ) (by exact kL) ⟨0, by omega, rfl, rfl, by trivial⟩ ?_
    rintro mzj Ezj Mzj ⟨kj, hkj, rfl, rfl, hinj⟩
    rcases Nat.lt_or_ge kj (u.sent).length with hltj | hgej
    · obtain ⟨x, hx⟩ : ∃ x, u.sent[kj]? = some x := ⟨_, List.getElem?_eq_getElem hltj⟩
      obtain ⟨bc, oc, cc', Tc, fc, rfl, hmc, hrc⟩ := ha3 (by omega)
      have hrc' := hrc kj x hx
      have hno := inv_sent_key hinv hu hune (List.mem_of_getElem? hx)
      (repeat' (first | refine nI ?_ | (refine nA ?_; intro _) | (refine nW ?_; first | (refine op_call_id ?_; refine op_ro rfl rfl (by exact (c_lbHas ⟨_, _, _⟩ (worldKeys w) x.key (hrk.atL (by exact kS))).eq (congrArg B (decide_eq_false hno))) ?_)) | refine nY ?_ | refine WA_alt ?_ ?_ | refine nR ?_ | refine WC_drawL (id := 5) (ops := o50x5N5) r50x5N5 (by kernel_rfl) rfl ?_ | refine WC_cond rfl (fun hc => ?_) (fun hc => ?_)))
      exact loopQ_next ⟨mzj - 1, _, _, by omega, by exact kQ, by exact kL, kj + 1, by omega, rfl, rfl, by trivial⟩
    (repeat' (first | refine nI ?_ | (refine nA ?_; intro _) | refine nY ?_ | refine WA_alt ?_ ?_ | refine nR ?_ | refine WC_drawL (id := 5) (ops := o50x5N5) r50x5N5 (by kernel_rfl) rfl ?_ | refine WC_cond rfl (fun hc => ?_) (fun hc => ?_)))
    exact loopQ_next ⟨mz - 1, _, _, by omega, by exact kQ, by exact kL, k + 1, by omega, rfl, rfl, by trivial⟩
  (repeat' (first | refine nI ?_ | (refine nA ?_; intro _) | refine nY ?_ | refine WA_alt ?_ ?_ | refine nR ?_ | refine WC_drawL (id := 5) (ops := o50x5N5) r50x5N5 (by kernel_rfl) rfl ?_ | refine WC_cond rfl (fun hc => ?_) (fun hc => ?_)))
  refine ro_ret (by exact kR) (by exact kL) ?_; rfl
theorem c_lbSecret {L : List Ent} (w : World) (q : WSl) (ps : List (Client × CSl)) (ss : List (Serv × (Sl × Sl))) (ms : List (Msg × Sl)) (hat : WldAt L w q ps ss ms) (hinv : Inv w) : RO Tryz.prog 50 [worldV w q] L (B true) := by
  obtain ⟨kc, ⟨ac, nc, cc⟩, ⟨av, nv, cv⟩, ⟨al, nl, cl⟩⟩ := q
  exact c_lbSecret0 w kc ac av al nc nv nl cc cv cl ps ss ms hat hinv
end Go.Proofs.YtkdlkclanlkebaaGreat
