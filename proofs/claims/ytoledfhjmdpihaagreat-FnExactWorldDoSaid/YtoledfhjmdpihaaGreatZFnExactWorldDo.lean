/- WorldDo answers as the reference, writes into no argument and keeps nothing of one. -/
import Derived.Test.YtoledfhjmdpihaaGreatRows
import Derived.WalkKit
import Derived.ProofKit
import Derived.OpenShut
import Derived.ShutString
import Derived.ChangeOld
import Derived.Below
import Derived.Test.YtoledfhjmdpihaaGreatA28
import Derived.Test.YtoledfhjmdpihaaGreatA14
set_option linter.unusedVariables false
set_option linter.unusedSectionVars false
set_option linter.unusedSimpArgs false
namespace Go.Proofs.YtoledfhjmdpihaaGreat
open Go Go.Proofs Go.Proofs.YtoledfhjmdpihaaGreat.VE
attribute [local irreducible] Val Op1 WO WR WA WC seqQ blockQ loopQ retQ
noncomputable def o3x14K61 : Array Oper := cops (cl (cl (cr (cr (cr (cr (cr (cr (cr (cr (cr (cr (cr (codeOf Tryz.f3))))))))))))))
noncomputable def o3x16K61 : Array Oper := cops (cl (cl (cr (cr (cr (cr (cr (cr (cr (cr (cr (cr (cr (cr (codeOf Tryz.f3)))))))))))))))
noncomputable def o3x31K61 : Array Oper := cops (cl (cr (cr (cr (cr (cr (cr (cr (cr (cr (cr (cr (cr (cr (cr (cr (cr (cr (cr (cr (cr (cr (cr (cr (codeOf Tryz.f3)))))))))))))))))))))))))
noncomputable def o3x8K61 : Array Oper := cops (cl (cr (cr (cr (cr (cr (cr (codeOf Tryz.f3))))))))
noncomputable def r3x14K61 : Run := (.st 0 1 (.st 1 1 (.st 2 2 (.st 3 3 (.st 4 0 .done)))))
noncomputable def r3x16K61 : Run := (.st 0 1 (.st 1 1 (.st 2 2 (.st 3 3 (.st 4 0 .done)))))
noncomputable def r3x31K61 : Run := (.st 0 1 (.st 2 1 (.alt (.st 1 2 (.alt (.st 3 3 (.alt (.st 4 3 (.st 5 3 (.st 6 3 .done))) (.st 5 3 (.st 4 3 (.st 6 3 .done))))) (.st 5 2 (.st 3 3 (.st 4 3 (.st 6 3 .done)))))) (.st 5 2 (.st 1 2 (.st 3 3 (.st 4 3 (.st 6 3 .done))))))))
noncomputable def r3x8K61 : Run := (.st 0 1 (.st 2 1 (.alt (.st 1 2 (.alt (.st 3 3 (.alt (.st 4 3 (.st 5 3 (.st 6 3 .done))) (.st 5 3 (.st 4 3 (.st 6 3 .done))))) (.st 5 2 (.st 3 3 (.st 4 3 (.st 6 3 .done)))))) (.st 5 2 (.st 1 2 (.st 3 3 (.st 4 3 (.st 6 3 .done))))))))
set_option maxHeartbeats 8000000
theorem c_FnExactWorldDo1 {L : List Ent} (w : World) (q : WSl) (ps : List (Client × CSl)) (ss : List (Serv × (Sl × Sl))) (ms : List (Msg × Sl)) (h : WldIn L w q ps ss ms) (e : Event) (s : Sl) (he : MsgIn L (e.msg, s)) : RO Tryz.prog 3 [worldV w q, eventV e s] L (B true) := by
  obtain ⟨r, hr, hrc⟩ := c_szWorld w q ps ss ms h
  by_cases hr0 : r < 0
  · refine Tri.of Tryz.func3 rfl rfl Tryz.ntmps3 rfl rfl ?_
    (repeat' (first | refine nI ?_ | (refine nA ?_; intro _) | (refine nW ?_; first | (refine op_call_id ?_; refine op_ro rfl rfl (by exact hr (by exact kS)) ?_)) | refine nY ?_ | refine WA_alt ?_ ?_ | refine nR ?_ | refine WC_drawL (id := 8) (ops := o3x8K61) r3x8K61 (by kernel_rfl) rfl ?_ | refine WC_drawL (id := 14) (ops := o3x14K61) r3x14K61 (by kernel_rfl) rfl ?_ | refine WC_drawL (id := 16) (ops := o3x16K61) r3x16K61 (by kernel_rfl) rfl ?_ | refine WC_drawL (id := 31) (ops := o3x31K61) r3x31K61 (by kernel_rfl) rfl ?_ | refine WC_cond rfl (fun hc => ?_) (fun hc => ?_)))
    refine ro_ret (by exact kR) (by exact kL) ?_; rfl
  rcases hrc with hrc | ⟨hrb, hat, hl⟩
  · exact absurd hrc hr0
  obtain ⟨r2, e2⟩ : ∃ r2, szL r [s.n] = r2 := ⟨_, rfl⟩
  have hst : s.n ≤ 9223372036854775807 := MsgIn.top he
  by_cases hr2 : r2 < 0
  · refine Tri.of Tryz.func3 rfl rfl Tryz.ntmps3 rfl rfl ?_
    (repeat' (first | refine nI ?_ | (refine nA ?_; intro _) | (refine nW ?_; first | (refine op_call_id ?_; refine op_ro rfl rfl (by first | exact hr (by exact kS) | exact (c_szEvent e s hst r hrb).eq (congrArg I e2)) ?_)) | refine nY ?_ | refine WA_alt ?_ ?_ | refine nR ?_ | refine WC_drawL (id := 8) (ops := o3x8K61) r3x8K61 (by kernel_rfl) rfl ?_ | refine WC_drawL (id := 14) (ops := o3x14K61) r3x14K61 (by kernel_rfl) rfl ?_ | refine WC_drawL (id := 16) (ops := o3x16K61) r3x16K61 (by kernel_rfl) rfl ?_ | refine WC_drawL (id := 31) (ops := o3x31K61) r3x31K61 (by kernel_rfl) rfl ?_ | refine WC_cond rfl (fun hc => ?_) (fun hc => ?_)))
    refine ro_ret (by exact kR) (by exact kL) ?_; rfl
  have hf := fits hrb e2 hr2
  have hsn : s.n ≤ 1048576 := hf.2 _ (by simp)
  have hme : MsgAt L e.msg s := MsgIn.at_ he hsn
  have hle : e.msg.seals.length ≤ 1048576 := by have := SlIn.len he; dsimp only at this; omega
  obtain ⟨x, hx⟩ : ∃ x, doF w e = x := ⟨_, rfl⟩
  have dI : ∀ {M : List Ent} (q : WSl) (hat : WAt M w q) (se : Sl) (hm : MsgAt M e.msg se), Tri Tryz.prog 11 [worldV w q, eventV e se] M (WNew M x) := fun q hat se hm => hx ▸ c_doI w q hat hl e se hm
  have dS : ∀ {M : List Ent} (q : WSl) (hat : WAt M w q) (se : Sl) (hm : MsgAt M e.msg se), Tri Tryz.prog 8 [worldV w q, eventV e se] M (WNew M x) := fun q hat se hm => hx ▸ c_doS w q hat hl e se hm
  clear hx
  have hle2 : e.msg.seals.length ≤ 2000000 := by omega
  refine Tri.of Tryz.func3 rfl rfl Tryz.ntmps3 rfl rfl ?_
  (repeat' (first | refine nI ?_ | (refine nA ?_; intro _) | (refine nW ?_; first | (refine op_call_id ?_; refine op_ro rfl rfl (by first | exact hr (by exact kS) | exact (c_szEvent e s hst r hrb).eq (congrArg I e2)) ?_)) | refine nY ?_ | refine WA_alt ?_ ?_ | refine nR ?_ | refine WC_drawL (id := 14) (ops := o3x14K61) r3x14K61 (by kernel_rfl) rfl ?_ | refine WC_drawL (id := 16) (ops := o3x16K61) r3x16K61 (by kernel_rfl) rfl ?_ | refine WC_drawL (id := 31) (ops := o3x31K61) r3x31K61 (by kernel_rfl) rfl ?_ | refine WC_cond rfl (fun hc => ?_) (fun hc => ?_)))
  rename_i b2 b3
  refine WC_cut (X := { p : Nat × WSl × List Ent // WOwn x p.2.1 p.2.2 }) (fun p => [(2, .pointer (some ⟨b2, 0, none⟩)), (3, .pointer (some ⟨b3, 0, none⟩)), (6, .pointer (some ⟨p.1.1, 0, none⟩))]) (fun p => (p.1.1, cellsO (worldC x p.1.2.1) 43) :: (p.1.2.2 ++ ((b3, cellsO (eventC e s) 33) :: (b2, cellsO (worldC w q) 29) :: L))) ?_ ?_
  · (repeat' (first | refine nI ?_ | (refine nA ?_; intro _) | (refine nW ?_; first | (refine op_call_id ?_; refine op_call rfl (c_toWorld w q (hat.mono (by exact kS)) hl) rfl ?_; rintro _ _ ⟨qa, EA, rfl, hA, rfl⟩) | (refine op_call_id ?_; refine op_call rfl (c_toEvent e s (hme.mono (by exact kS)) hle) rfl ?_; rintro _ _ ⟨sb, EB, rfl, hB, rfl⟩) | (refine op_call_id ?_; refine op_call rfl (dS qa (hA.at.mono (by exact kS)) sb (Row.atL hB (by exact kS))) rfl ?_; rintro _ _ ⟨q0, E0, rfl, h0, rfl⟩)) | refine nY ?_ | refine WA_alt ?_ ?_ | refine nR ?_ | refine WC_draw (id := 8) (ops := o3x8K61) ([(b2, cellsO (worldC w q) 29), (b3, cellsO (eventC e s) 33)]) r3x8K61 (by kernel_rfl) rfl ?_ | refine WC_drawL (id := 14) (ops := o3x14K61) r3x14K61 (by kernel_rfl) rfl ?_ | refine WC_drawL (id := 16) (ops := o3x16K61) r3x16K61 (by kernel_rfl) rfl ?_ | refine WC_drawL (id := 31) (ops := o3x31K61) r3x31K61 (by kernel_rfl) rfl ?_ | refine WC_cond rfl (fun hc => ?_) (fun hc => ?_)))
    all_goals exact ⟨rfl, ⟨(_, _, _), h0⟩, by exact kQ, by exact kL⟩
  rintro ⟨⟨b6, q0, E0⟩, h0⟩
  dsimp only at h0 ⊢
  (repeat' (first | refine nI ?_ | (refine nA ?_; intro _) | (refine nW ?_; first | (refine op_call_id ?_; refine op_call rfl (c_toWorld w q (hat.mono (by exact kS)) hl) rfl ?_; rintro _ _ ⟨q1, E1, rfl, h1, rfl⟩) | (refine op_call_id ?_; refine op_call rfl (c_toEvent e s (hme.mono (by exact kS)) hle) rfl ?_; rintro _ _ ⟨s2, E2, rfl, h2, rfl⟩) | (refine op_call_id ?_; refine op_call rfl (dI q1 (h1.at.mono (by exact kS)) s2 (Row.atL h2 (by exact kS))) rfl ?_; rintro _ _ ⟨q3, E3, rfl, h3, rfl⟩)) | refine nY ?_ | refine WA_alt ?_ ?_ | refine WC_regionN [12] rfl ?_ | refine WC_block ?_ | refine WC_drawL (id := 8) (ops := o3x8K61) r3x8K61 (by kernel_rfl) rfl ?_ | refine WC_drawL (id := 14) (ops := o3x14K61) r3x14K61 (by kernel_rfl) rfl ?_ | refine WC_drawL (id := 16) (ops := o3x16K61) r3x16K61 (by kernel_rfl) rfl ?_ | refine WC_drawL (id := 31) (ops := o3x31K61) r3x31K61 (by kernel_rfl) rfl ?_ | refine WC_cond rfl (fun hc => ?_) (fun hc => ?_)))
  rename_i b7 b8 b9
  (repeat' (first | refine nI ?_ | (refine nA ?_; intro _) | (refine nW ?_; first | (refine op_call_id ?_; refine op_ro rfl rfl (by exact c_eqWorldW x q3 q0 (h3.at.mono (by exact kS)) (h0.at.mono (by exact kS))) ?_)) | refine nY ?_ | refine WA_alt ?_ ?_ | refine nR ?_ | refine WC_drawL (id := 8) (ops := o3x8K61) r3x8K61 (by kernel_rfl) rfl ?_ | refine WC_drawL (id := 16) (ops := o3x16K61) r3x16K61 (by kernel_rfl) rfl ?_ | refine WC_drawL (id := 31) (ops := o3x31K61) r3x31K61 (by kernel_rfl) rfl ?_ | refine WC_cond rfl (fun hc => ?_) (fun hc => ?_)))
  refine WC_cut (X := Unit) (fun _ => [(2, .pointer (some ⟨b2, 0, none⟩)), (3, .pointer (some ⟨b3, 0, none⟩)), (6, .pointer (some ⟨b6, 0, none⟩)), (7, .pointer (some ⟨b7, 0, none⟩)), (8, .pointer (some ⟨b8, 0, none⟩)), (9, .pointer (some ⟨b9, 0, none⟩)), (44, B false)]) (fun _ => (b9, cellsO (worldC x q3) 43) :: (E3 ++ ((b8, cellsO (eventC e s2) 49) :: (E2 ++ ((b7, cellsO (worldC w q1) 43) :: (E1 ++ ((b6, cellsO (worldC x q0) 43) :: (E0 ++ ((b3, cellsO (eventC e s) 33) :: (b2, cellsO (worldC w q) 29) :: L))))))))) ?_ ?_
  · (repeat' (first | refine nI ?_ | (refine nA ?_; intro _) | (refine nW ?_; first | (refine op_call_id ?_; refine op_ro rfl rfl (by exact c_eqWorldW w q1 q4 (h1.at.mono (by exact kS)) (h4.at.mono (by exact kS))) ?_) | (refine op_call_id ?_; refine op_call rfl (c_toWorld w q (hat.mono (by exact kS)) hl) rfl ?_; rintro _ _ ⟨q4, E4, rfl, h4, rfl⟩)) | refine nY ?_ | refine WA_alt ?_ ?_ | refine nR ?_ | refine WC_drawL (id := 8) (ops := o3x8K61) r3x8K61 (by kernel_rfl) rfl ?_ | refine WC_draw (id := 14) (ops := o3x14K61) ([(b7, cellsO (worldC w q1) 43), (b2, cellsO (worldC w q) 29)]) r3x14K61 (by kernel_rfl) rfl ?_ | refine WC_drawL (id := 16) (ops := o3x16K61) r3x16K61 (by kernel_rfl) rfl ?_ | refine WC_drawL (id := 31) (ops := o3x31K61) r3x31K61 (by kernel_rfl) rfl ?_ | refine WC_cond rfl (fun hc => ?_) (fun hc => ?_)))
    all_goals exact ⟨rfl, (), by exact kQ, by exact kL⟩
  rintro _
  (repeat' (first | refine nI ?_ | (refine nA ?_; intro _) | refine nY ?_ | refine WA_alt ?_ ?_ | refine nR ?_ | refine WC_drawL (id := 8) (ops := o3x8K61) r3x8K61 (by kernel_rfl) rfl ?_ | refine WC_drawL (id := 14) (ops := o3x14K61) r3x14K61 (by kernel_rfl) rfl ?_ | refine WC_drawL (id := 31) (ops := o3x31K61) r3x31K61 (by kernel_rfl) rfl ?_ | refine WC_cond rfl (fun hc => ?_) (fun hc => ?_)))
  refine WC_cut (X := Unit) (fun _ => [(2, .pointer (some ⟨b2, 0, none⟩)), (3, .pointer (some ⟨b3, 0, none⟩)), (6, .pointer (some ⟨b6, 0, none⟩)), (7, .pointer (some ⟨b7, 0, none⟩)), (8, .pointer (some ⟨b8, 0, none⟩)), (9, .pointer (some ⟨b9, 0, none⟩)), (49, B false)]) (fun _ => (b9, cellsO (worldC x q3) 43) :: (E3 ++ ((b8, cellsO (eventC e s2) 49) :: (E2 ++ ((b7, cellsO (worldC w q1) 43) :: (E1 ++ ((b6, cellsO (worldC x q0) 43) :: (E0 ++ ((b3, cellsO (eventC e s) 33) :: (b2, cellsO (worldC w q) 29) :: L))))))))) ?_ ?_
  · (repeat' (first | refine nI ?_ | (refine nA ?_; intro _) | (refine nW ?_; first | (refine op_call_id ?_; refine op_ro rfl rfl (by exact c_eqEvent e s2 s5 (Row.atL h2 (by exact kS)) (Row.atL h5 (by exact kS))) ?_) | (refine op_call_id ?_; refine op_call rfl (c_toEvent e s (hme.mono (by exact kS)) hle) rfl ?_; rintro _ _ ⟨s5, E5, rfl, h5, rfl⟩)) | refine nY ?_ | refine WA_alt ?_ ?_ | refine nR ?_ | refine WC_drawL (id := 8) (ops := o3x8K61) r3x8K61 (by kernel_rfl) rfl ?_ | refine WC_drawL (id := 14) (ops := o3x14K61) r3x14K61 (by kernel_rfl) rfl ?_ | refine WC_draw (id := 16) (ops := o3x16K61) ([(b8, cellsO (eventC e s2) 49), (b3, cellsO (eventC e s) 33)]) r3x16K61 (by kernel_rfl) rfl ?_ | refine WC_drawL (id := 31) (ops := o3x31K61) r3x31K61 (by kernel_rfl) rfl ?_ | refine WC_cond rfl (fun hc => ?_) (fun hc => ?_)))
    all_goals exact ⟨rfl, (), by exact kQ, by exact kL⟩
  rintro _
  (repeat' (first | refine nI ?_ | (refine nA ?_; intro _) | (refine nW ?_; first | (refine op_call_id ?_; refine op_ro rfl rfl (by exact c_eqWorldW x q3 q0 (h3.at.mono (by exact kS)) (h0.at.mono (by exact kS))) ?_) | (refine op_call_id ?_; refine op_call rfl (c_markWorld w q1 E1 (by exact kE) h1 1 (by omega)) rfl ?_; rintro _ _ ⟨w1, F1, k1, rfl, g1, hv1, hh1, hb1, rfl⟩) | (refine op_call_id ?_; refine op_call rfl (c_markEvent e s2 E2 (by exact kE) h2 k1 (by omega) hle2) rfl ?_; rintro _ _ ⟨xs2, F2, k2, rfl, hl2, g2, hk2, rfl⟩)) | refine nY ?_ | refine WA_alt ?_ ?_ | refine WC_regionN [24] rfl ?_ | refine WC_block ?_ | refine WC_drawL (id := 8) (ops := o3x8K61) r3x8K61 (by kernel_rfl) rfl ?_ | refine WC_drawL (id := 14) (ops := o3x14K61) r3x14K61 (by kernel_rfl) rfl ?_ | refine WC_drawL (id := 16) (ops := o3x16K61) r3x16K61 (by kernel_rfl) rfl ?_ | refine WC_drawL (id := 31) (ops := o3x31K61) r3x31K61 (by kernel_rfl) rfl ?_ | refine WC_cond rfl (fun hc => ?_) (fun hc => ?_)))
  (repeat' (first | refine nI ?_ | (refine nA ?_; intro _) | (refine nW ?_; first | (refine op_call_id ?_; refine op_call rfl (c_markWorld x q3 E3 (by exact kE) h3 1 (by omega)) rfl ?_; rintro _ _ ⟨x3, F3, m1, rfl, g3, hv3, hh3, hb3, rfl⟩)) | refine nY ?_ | refine WA_alt ?_ ?_ | refine WC_regionN [26] rfl ?_ | refine WC_block ?_ | refine WC_drawL (id := 8) (ops := o3x8K61) r3x8K61 (by kernel_rfl) rfl ?_ | refine WC_drawL (id := 14) (ops := o3x14K61) r3x14K61 (by kernel_rfl) rfl ?_ | refine WC_drawL (id := 16) (ops := o3x16K61) r3x16K61 (by kernel_rfl) rfl ?_ | refine WC_drawL (id := 31) (ops := o3x31K61) r3x31K61 (by kernel_rfl) rfl ?_ | refine WC_cond rfl (fun hc => ?_) (fun hc => ?_)))
  have hb9 : 1 ≤ m1 ∧ m1 ≤ 1000000000000000 := hb3
  (repeat' (first | refine nI ?_ | (refine nA ?_; intro _) | (refine nW ?_; first | (refine op_call_id ?_; refine op_ro rfl rfl (by exact c_heldWorldV x x3 q3 m1 hv3 (g3.at.mono (by exact kS)) hh3 hb9) ?_)) | refine nY ?_ | refine WA_alt ?_ ?_ | refine nR ?_ | refine WC_drawL (id := 8) (ops := o3x8K61) r3x8K61 (by kernel_rfl) rfl ?_ | refine WC_drawL (id := 14) (ops := o3x14K61) r3x14K61 (by kernel_rfl) rfl ?_ | refine WC_drawL (id := 16) (ops := o3x16K61) r3x16K61 (by kernel_rfl) rfl ?_ | refine WC_cond rfl (fun hc => ?_) (fun hc => ?_)))
  refine WC_cut (X := { p : Nat × WSl × List Ent // WOwn x p.2.1 p.2.2 }) (fun p => [(2, .pointer (some ⟨b2, 0, none⟩)), (3, .pointer (some ⟨b3, 0, none⟩)), (6, .pointer (some ⟨b6, 0, none⟩)), (9, .pointer (some ⟨b9, 0, none⟩)), (11, I m1), (13, .pointer (some ⟨p.1.1, 0, none⟩))]) (fun p => (p.1.1, cellsO (worldC x p.1.2.1) 43) :: (p.1.2.2 ++ (F3 ++ ((b9, cellsO (worldC x q3) 43) :: ((b6, cellsO (worldC x q0) 43) :: (E0 ++ ((b3, cellsO (eventC e s) 33) :: (b2, cellsO (worldC w q) 29) :: L))))))) ?_ ?_
  · (repeat' (first | refine nI ?_ | (refine nA ?_; intro _) | (refine nW ?_; first | (refine op_call_id ?_; refine op_call rfl (c_toWorld w q (hat.mono (by exact kS)) hl) rfl ?_; rintro _ _ ⟨qa, EA, rfl, hA, rfl⟩) | (refine op_call_id ?_; refine op_call rfl (c_toEvent e s (hme.mono (by exact kS)) hle) rfl ?_; rintro _ _ ⟨sb, EB, rfl, hB, rfl⟩) | (refine op_call_id ?_; refine op_call rfl (dI qa (hA.at.mono (by exact kS)) sb (Row.atL hB (by exact kS))) rfl ?_; rintro _ _ ⟨q6, E6, rfl, h6, rfl⟩)) | refine nY ?_ | refine WA_alt ?_ ?_ | refine nR ?_ | refine WC_drawL (id := 8) (ops := o3x8K61) r3x8K61 (by kernel_rfl) rfl ?_ | refine WC_drawL (id := 14) (ops := o3x14K61) r3x14K61 (by kernel_rfl) rfl ?_ | refine WC_drawL (id := 16) (ops := o3x16K61) r3x16K61 (by kernel_rfl) rfl ?_ | refine WC_draw (id := 31) (ops := o3x31K61) ([(b2, cellsO (worldC w q) 29), (b3, cellsO (eventC e s) 33)]) r3x31K61 (by kernel_rfl) rfl ?_ | refine WC_cond rfl (fun hc => ?_) (fun hc => ?_)))
    all_goals exact ⟨rfl, ⟨(_, _, _), h6⟩, by exact kQ, by exact kL⟩
  rintro ⟨⟨b13, q6, E6⟩, h6⟩
  dsimp only at h6 ⊢
  (repeat' (first | refine nI ?_ | (refine nA ?_; intro _) | (refine nW ?_; first | (refine op_call_id ?_; refine op_ro rfl rfl (by first | exact c_eqWorldW x q6 q0 (h6.at.mono (by exact kS)) (h0.at.mono (by exact kS)) | exact c_heldWorldV x x3 q3 m1 hv3 (g3.at.mono (by exact kS)) hh3 hb9) ?_)) | refine nY ?_ | refine WA_alt ?_ ?_ | refine nR ?_ | refine WC_drawL (id := 8) (ops := o3x8K61) r3x8K61 (by kernel_rfl) rfl ?_ | refine WC_drawL (id := 14) (ops := o3x14K61) r3x14K61 (by kernel_rfl) rfl ?_ | refine WC_drawL (id := 16) (ops := o3x16K61) r3x16K61 (by kernel_rfl) rfl ?_ | refine WC_drawL (id := 31) (ops := o3x31K61) r3x31K61 (by kernel_rfl) rfl ?_ | refine WC_cond rfl (fun hc => ?_) (fun hc => ?_)))
  refine ro_ret (by exact kR) (by exact kL) ?_; rfl
end Go.Proofs.YtoledfhjmdpihaaGreat
/- The law FnExactWorldDo: for all that comes in the call returns true, and what came in reads as before. No condition. -/
set_option linter.unusedVariables false
set_option linter.unusedSimpArgs false
namespace Go.Proofs.YtoledfhjmdpihaaGreat.fnExactWorldDo
open Go Go.Proofs Go.Proofs.YtoledfhjmdpihaaGreat Go.Proofs.YtoledfhjmdpihaaGreat.VE
open Go.ChangeShapes Go.WideShapes Go.ChangeAt Go.RowKit
theorem own : ownKnob Tryz.prog.godebug = none := by kernel_rfl
theorem laidOut : laidOutB Tryz.prog = true := by kernel_rfl
set_option maxRecDepth 100000 in
theorem lifted (os : Os) (started : os.Started) (H : Type) (enc : TypeId × Value → H) :
    ReturnsInHanded {} Tryz.checked os 3 .any (Rows.fnExactWorldDoSpec.pre6 enc Tryz.prog Tryz.f3 Rows.fnExactWorldDoRow.domain false) (Rows.fnExactWorldDoSpec.post enc Tryz.prog Tryz.f3 false true false false) := by
  refine returnsInHanded_of_change (C := Tryz.checked) own started (by kernel_rfl) Tryz.func3
    (ChangeSpec.witness6 (enc := enc) (C := Tryz.checked) false ⟨#[], #[.agg #[.int .i64 0, .int .i64 0, .slice none 0 0, .slice none 0 0, .slice none 0 0, .slice none 0 0, .int .i64 0], .agg #[.int .i64 0, .int .i64 0, .int .i64 0, .int .i64 0, .int .i64 0, .int .i64 0, .int .i64 0, .slice none 0 0]], []⟩ 8 (by kernel_rfl) (by kernel_rfl) (by kernel_rfl) (by kernel_rfl)) ?_
  intro W base args ds gs before hval0 hW hcnd _
  have hval : ∀ (j : Nat) t v, Tryz.f3.params[j]? = some t → args[j]? = some v → Value.okWide Tryz.prog W .any base t v := hval0
  have hW' := hW
  obtain ⟨p, q, hA0, hV, rfl, hfz, hnd⟩ := hW
  have hA : DataW.TrodAll enc Tryz.prog W 0 (fun _ => true) true Tryz.f3.params.toList args.toList ds p := hA0
  rw [Tryz.params3] at hA hval
  obtain ⟨v0, vs0, d0, ds0, p0, q0, hargs, rfl, rfl, h0, r0⟩ := trodAll_cons hA
  obtain ⟨v1, vs1, d1, ds1, p1, q1, rfl, rfl, rfl, h1, r1⟩ := trodAll_cons r0
  obtain ⟨rfl, rfl, rfl⟩ := trodAll_nil r1
  obtain rfl : args = #[v0, v1] := by cases args; simp_all
  obtain ⟨rfl, rfl⟩ := trodVars_none hV
  obtain ⟨cs0, rfl, _⟩ := okWide_struct Tryz.underlying29 (hval 0 29 v0 rfl rfl)
  have k0 := h0
  have lt0 : ∀ x ∈ p0, x.block < W.heap.size := by obtain ⟨m, hm⟩ := k0; exact DataW.trod_lt m _ _ _ hm
  obtain ⟨fuel0, hf0⟩ := h0
  obtain ⟨⟨y0, u0, ps0, ss0, ms0⟩, he0, hs0⟩ := sh_world (enc := enc) (w := W) fuel0 cs0.toList _ hf0
  obtain rfl : cs0 = (worldC y0 u0).toArray := by rw [← Array.toArray_toList (xs := cs0), he0]
  obtain ⟨cs1, rfl, _⟩ := okWide_struct Tryz.underlying33 (hval 1 33 v1 rfl rfl)
  have k1 := h1
  have lt1 : ∀ x ∈ p1, x.block < W.heap.size := by obtain ⟨m, hm⟩ := k1; exact DataW.trod_lt m _ _ _ hm
  obtain ⟨fuel1, hf1⟩ := h1
  obtain ⟨⟨y1, u1⟩, he1, hs1⟩ := sh_event (enc := enc) (w := W) fuel1 cs1.toList _ hf1
  obtain rfl : cs1 = (eventC y1 u1).toArray := by rw [← Array.toArray_toList (xs := cs1), he1]
  clear hA0 hval0
  refine (walk_of (c_FnExactWorldDo1 y0 u0 ps0 ss0 ms0 hs0 y1 u1 hs1)).mono fun e W' ⟨he, bel⟩ => ?_
  subst he
  exact ⟨_, rfl, _, _, _, [], _, [], hW', trodAll_mk1 (shut_bool Tryz.underlying4 _), (trodAll_cons_mk (Below.trod laidOut (by kernel_rfl) (of_decide_eq_true (by kernel_rfl)) k0 bel lt0) (trodAll_cons_mk (Below.trod laidOut (by kernel_rfl) (of_decide_eq_true (by kernel_rfl)) k1 bel lt1) trodAll_mk0)), rfl, bel.frame _, fun h => by cases h⟩
theorem closed : joinedFacts Tryz.prog 3 Tryz.f3 Rows.fnExactWorldDoSpec Rows.fnExactWorldDoRow = true := by
  unfold joinedFacts
  iterate 31 (refine and_t ?_ ?_)
  · kernel_rfl
  · kernel_rfl
  · kernel_rfl
  · kernel_rfl
  · kernel_rfl
  · kernel_rfl
  · kernel_rfl
  · kernel_rfl
  · kernel_rfl
  · kernel_rfl
  · kernel_rfl
  · kernel_rfl
  · kernel_rfl
  · kernel_rfl
  · kernel_rfl
  · kernel_rfl
  · kernel_rfl
  · kernel_rfl
  · kernel_rfl
  · kernel_rfl
  · kernel_rfl
  · kernel_rfl
  · kernel_rfl
  · kernel_rfl
  · kernel_rfl
  · exact may_enter
  · rw [lifts_final]; kernel_rfl
  · rw [make_is]; kernel_rfl
  · kernel_rfl
  · kernel_rfl
  · kernel_rfl
  · kernel_rfl
theorem over : Rows.fnExactWorldDoRow.holds Tryz.pinned (OpenSpec.ofChange Rows.fnExactWorldDoSpec) :=
  OpenClaim.holds_of_wide 3 Tryz.f3 rfl rfl rfl rfl rfl rfl rfl ⟨rfl, rfl, rfl, rfl, rfl⟩ rfl rfl rfl rfl rfl (by kernel_rfl) Tryz.func3 closed
    (of_decide_eq_true (by kernel_rfl)) (by unfold Func.isWrapper; first | (rw [if_pos (by decide +kernel)]; kernel_rfl) | (rw [if_neg (by decide +kernel)]; exact ⟨rfl, rfl⟩))
    (fun os started H enc _ => lifted os started H enc)
theorem proved : Rows.FnExactWorldDoSaid := over
end Go.Proofs.YtoledfhjmdpihaaGreat.fnExactWorldDo
