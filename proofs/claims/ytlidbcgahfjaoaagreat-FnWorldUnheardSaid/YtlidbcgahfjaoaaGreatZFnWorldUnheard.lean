/- The law: if nothing is brought nobody is called. -/
import Derived.Test.YtlidbcgahfjaoaaGreatRows
import Derived.WalkKit
import Derived.ProofKit
import Derived.OpenShut
import Derived.ShutString
import Derived.ChangeOld
import Derived.Below
import Derived.Test.YtlidbcgahfjaoaaGreatA11
import Derived.Test.YtlidbcgahfjaoaaGreatA3
set_option linter.unusedVariables false
set_option linter.unusedSectionVars false
set_option linter.unusedSimpArgs false
namespace Go.Proofs.YtlidbcgahfjaoaaGreat
open Go Go.Proofs Go.Proofs.YtlidbcgahfjaoaaGreat.VE
attribute [local irreducible] Val Op1 WO WR WA WC seqQ blockQ loopQ retQ
noncomputable def o8x18K6 : Array Oper := cops (cl (cl (cl (cr (cl (cl (cr (cl (cr (cr (cr (cr (cr (cr (cr (cr (cr (codeOf Tryz.f8))))))))))))))))))
noncomputable def r8x18K6 : Run := (.st 0 0 (.st 1 1 (.st 2 0 (.st 3 0 (.st 4 0 (.st 5 1 (.st 6 0 (.st 7 0 (.st 8 1 (.st 9 0 (.st 10 0 (.st 11 0 (.st 12 1 (.st 13 0 (.st 14 0 (.st 15 0 (.st 16 1 (.st 17 0 (.st 18 0 (.st 19 0 (.st 20 1 (.st 21 0 (.st 22 0 (.st 23 0 .done))))))))))))))))))))))))
set_option maxHeartbeats 8000000
theorem c_FnWorldUnheardBig {L : List Ent} (a : Option Addr) (n c : Nat) (hn : 1048576 < n) : RO Tryz.prog 8 [.slice a n c] L (B true) := by
  refine Tri.of Tryz.func8 rfl rfl Tryz.ntmps8 rfl rfl ?_
  (repeat' (first | refine nI ?_ | (refine nA ?_; intro _) | refine nY ?_ | refine WA_alt ?_ ?_ | refine nR ?_ | refine WC_drawL (id := 18) (ops := o8x18K6) r8x18K6 (by kernel_rfl) rfl ?_ | refine WC_cond rfl (fun hc => ?_) (fun hc => ?_)))
  refine ro_ret (by exact kR) (by exact kL) ?_; rfl
theorem c_FnWorldUnheard1 {L : List Ent} (a : Option Addr) (n c : Nat) (bs : List Int) (h : BytesIn L a n c bs) (hlen : n ≤ 1048576) : RO Tryz.prog 8 [.slice a n c] L (B true) := by
  have hat := h.at_ hlen
  have hby := h.byte
  have hn := hat.1
  dsimp only at hn
  subst hn
  refine Tri.of Tryz.func8 rfl rfl Tryz.ntmps8 rfl rfl ?_
  (repeat' (first | refine nI ?_ | (refine nA ?_; intro _) | (refine nW ?_; first | (refine op_call_id ?_; refine op_call rfl (c_drawWorldPlay ⟨a, bs.length, c⟩ bs (hat.mono (by exact kS)) hby) rfl ?_; rintro _ _ ⟨bad, ⟨a2, n2, c2⟩, evs, ee, rfl, ⟨hse, hms⟩, rfl⟩)) | refine nY ?_ | refine WA_alt ?_ ?_ | refine nR ?_ | refine WC_drawL (id := 18) (ops := o8x18K6) r8x18K6 (by kernel_rfl) rfl ?_ | refine WC_cond rfl (fun hc => ?_) (fun hc => ?_)))
  by_cases hgo : within bad 0 3 = true ∧ evs.length ≤ 70
  rotate_left
  · (repeat' (first | refine nI ?_ | (refine nA ?_; intro _) | (refine nW ?_; first | (refine op_call_id ?_; refine op_ro rfl rfl (by first | exact c_worldPlay0 bad ⟨a2, n2, c2⟩ evs (hse.mono (by exact kS)) (not_go hgo) | exact c_sWorldPlay0 bad ⟨a2, n2, c2⟩ evs (hse.mono (by exact kS)) (not_go hgo) | exact c_lbWorldT World.zero WSl.nil WSl.nil [] [] [] [] [] [] (zeroAt _) (zeroAt _)) ?_) | refine op_val rfl (by first | exact val_neqB_f rfl rfl rfl | exact val_eqlB_t rfl rfl rfl) ?_) | (refine WR_id ?_; refine WR_pure rfl rfl rfl (by first | exact val_neqB_f rfl rfl rfl | exact val_eqlB_t rfl rfl rfl) ?_) | refine nY ?_ | refine WA_alt ?_ ?_ | refine nR ?_ | refine WC_drawL (id := 18) (ops := o8x18K6) r8x18K6 (by kernel_rfl) rfl ?_ | refine WC_cond rfl (fun hc => ?_) (fun hc => ?_)))
    refine ro_ret (by exact kR) (by exact kL) ?_; rfl
  obtain ⟨hb, h70⟩ := hgo
  have hn2 := hse.1
  dsimp only at hn2
  subst hn2
  obtain ⟨w, hw⟩ : ∃ w, play (worldNew bad) (evs.map Prod.fst) = w := ⟨_, rfl⟩
  have hplayed := played hb hw
  (repeat' (first | refine nI ?_ | (refine nA ?_; intro _) | (refine nW ?_; first | (refine op_call_id ?_; refine op_ro rfl rfl (by exact c_lbWorldT w q1 q2 ps1 ps2 ss1 ss2 ms1 ms2 (hown1.at.mono (by exact kS)) (hown2.at.mono (by exact kS))) ?_) | (refine op_call_id ?_; refine op_call rfl (c_worldPlayW (sev := ⟨a2, evs.length, c2⟩) (evs := evs) hw (hse.mono (by exact kS)) (fun p hp => (hms p hp).mono (by exact kS)) hb h70) rfl ?_; rintro _ _ ⟨q1, ps1, ss1, ms1, ek1, ec1, ca1, es1, sa1, el1, la1, rfl, hown1, rfl⟩) | (refine op_call_id ?_; refine op_call rfl (c_sWorldPlayW (sev := ⟨a2, evs.length, c2⟩) (evs := evs) hw (hse.mono (by exact kS)) (fun p hp => (hms p hp).mono (by exact kS)) hb h70) rfl ?_; rintro _ _ ⟨q2, ps2, ss2, ms2, ek2, ec2, ca2, es2, sa2, el2, la2, rfl, hown2, rfl⟩) | refine op_val rfl (by exact val_neqB_f rfl rfl rfl) ?_) | (refine WR_id ?_; refine WR_pure rfl rfl rfl (by exact val_neqB_f rfl rfl rfl) ?_) | refine nY ?_ | refine WA_alt ?_ ?_ | refine nR ?_ | refine WC_drawL (id := 18) (ops := o8x18K6) r8x18K6 (by kernel_rfl) rfl ?_ | refine WC_cond rfl (fun hc => ?_) (fun hc => ?_)))
  obtain ⟨hne, hce, hbe, hev⟩ := hse
  clear hne
  dsimp only at hev hce
  (repeat' (first | refine nI ?_ | (refine nA ?_; intro _) | refine nY ?_ | refine WA_alt ?_ ?_ | refine nR ?_ | refine WC_drawL (id := 18) (ops := o8x18K6) r8x18K6 (by kernel_rfl) rfl ?_ | refine WC_cond rfl (fun hc => ?_) (fun hc => ?_)))
  rename_i b9
  refine WC_loop (fun mz Ez Mz => ∃ (k : Nat) (ls : List (Event × Sl)) (a3 : Option Addr) (n3 c3 : Nat) (e3 : List Ent), k + mz = (evs).length ∧ Ez = [(3, I bad), (4, .slice a2 evs.length c2), (9, .slice a3 n3 c3), (10, I k)] ∧ Mz = e3 ++ (ee ++ L) ∧ (Row encEvent 58 ⟨a3, n3, c3⟩ ls e3 ∧ ls.length ≤ k ∧ (∀ p ∈ ls, p ∈ evs ∧ p.1.kind ≠ 4))) (evs).length (by exact kQ) (by exact kL) ⟨0, [], some ⟨b9, 0, none⟩, 0, 0, [], by omega, rfl, rfl, by exact ⟨Row.nil, Nat.le_refl _, fun p hp => absurd hp List.not_mem_nil⟩⟩ ?_
  rintro mz Ez Mz ⟨k, ls, a3, n3, c3, e3, hk, rfl, rfl, hin⟩
  rcases Nat.lt_or_ge k (evs).length with hlt | hge
  · obtain ⟨hr3, hl3, hm3⟩ := hin
    have hn3 := hr3.n
    dsimp only at hn3
    subst hn3
    obtain ⟨⟨e, se⟩, hy⟩ : ∃ y, evs[k]? = some y := ⟨_, List.getElem?_eq_getElem hlt⟩
    obtain ⟨bx, ox, cx, Tx, fx, rfl, hmx, hrx⟩ := hev (by omega)
    have hrx' := hrx k _ hy
    by_cases h4 : e.kind = 4
    · (repeat' (first | refine nI ?_ | (refine nA ?_; intro _) | refine nY ?_ | refine WA_alt ?_ ?_ | refine nR ?_ | refine WC_drawL (id := 18) (ops := o8x18K6) r8x18K6 (by kernel_rfl) rfl ?_ | refine WC_cond rfl (fun hc => ?_) (fun hc => ?_)))
      exact loopQ_next ⟨mz - 1, _, _, by omega, by exact kQ, by exact kL, k + 1, ls, a3, _, c3, e3, by omega, rfl, rfl, by exact ⟨hr3, by omega, hm3⟩⟩
    · (repeat' (first | refine nI ?_ | (refine nA ?_; intro _) | (refine nW ?_; first | (refine go_append ?_; refine op_appendRow (sl := ⟨_, _, _⟩) (sx := ⟨_, _, _⟩) rfl rfl rfl rfl rfl rfl rfl rfl rfl (hr3) (by exact kE) (SliceAt.one (x := (e, se)) (by exact kM) rfl) (by exact kN) ?_; intro sl' es' hrow' hst')) | refine nY ?_ | refine WA_alt ?_ ?_ | refine nR ?_ | refine WC_drawL (id := 18) (ops := o8x18K6) r8x18K6 (by kernel_rfl) rfl ?_ | refine WC_cond rfl (fun hc => ?_) (fun hc => ?_)))
      obtain ⟨a9, n9, c9⟩ := sl'
      exact loopQ_next ⟨mz - 1, _, _, by omega, by exact kQ, by exact kL, k + 1, ls ++ [(e, se)], a9, n9, c9, es', by omega, rfl, rfl, by exact ⟨hrow', by rw [List.length_append, List.length_cons, List.length_nil]; omega, fun p hp => by
        rcases List.mem_append.1 hp with hp | hp
        · exact hm3 p hp
        · rw [List.mem_singleton.1 hp]; exact ⟨List.mem_of_getElem? hy, h4⟩⟩⟩
  obtain ⟨hr3, hl3, hm3⟩ := hin
  have hn3 := hr3.n
  dsimp only at hn3
  subst hn3
  obtain ⟨x, hx⟩ : ∃ x, play (worldNew bad) (ls.map Prod.fst) = x := ⟨_, rfl⟩
  have hun : Unheard x := by
    rw [← hx]
    exact play_unheard (new_ok (within_iff.1 hb)) (new_unheard bad) fun e he => by
      obtain ⟨p, hp, rfl⟩ := List.mem_map.1 he
      exact (hm3 p hp).2
  (repeat' (first | refine nI ?_ | (refine nA ?_; intro _) | (refine nW ?_; first | (refine op_call_id ?_; refine op_call rfl (c_worldPlayW (sev := ⟨a3, ls.length, c3⟩) (evs := ls) hx (hr3.atL (by exact kS)) (fun p hp => (hms p (hm3 p hp).1).mono (by exact kS)) hb (by omega)) rfl ?_; rintro _ _ ⟨⟨kc, ⟨ac, nc, cc⟩, ⟨av, nv, cv⟩, ⟨al, nl, cl⟩⟩, ps1, ss1, ms1, ek1, ec1, ca1, es1, sa1, el1, la1, rfl, hown1, rfl⟩)) | refine nY ?_ | refine WA_alt ?_ ?_ | refine nR ?_ | refine WC_drawL (id := 18) (ops := o8x18K6) r8x18K6 (by kernel_rfl) rfl ?_ | refine WC_cond rfl (fun hc => ?_) (fun hc => ?_)))
  rename_i b11
  obtain ⟨hnc, hnv, hnl⟩ := parts_at hown1.at
  subst hnc hnv hnl
  obtain ⟨hkc, hpe, hpr, hpa, hsE, hsr, hsa, hme, hmr, hma⟩ := hown1.at
  obtain ⟨hnP, hc1, hb1, hat1⟩ := hpr
  obtain ⟨hnS, hc2, hb2, hat2⟩ := hsr
  dsimp only at hat1 hat2 hc1 hc2
  simp only [big] at hb1 hb2
  clear hnP hnS
  have hxok : WOk x := by rw [← hx]; exact play_ok (new_ok (within_iff.1 hb))
  have hpl3 : ps1.length = 3 := by rw [← List.length_map (f := Prod.fst), hpe]; exact hxok.cl
  have hsl2 : ss1.length = 2 := by rw [← List.length_map (f := Prod.fst), hsE]; exact hxok.sl
  obtain ⟨bP, oP, csP, TP, frP, rfl, hmP, hrP⟩ := hat1 (by omega)
  obtain ⟨bS, oS, csS, TS, frS, rfl, hmS, hrS⟩ := hat2 (by omega)
  refine WC_loop (fun mz Ez Mz => ∃ k : Nat, k + mz = (ps1).length ∧ Ez = [(11, .pointer (some ⟨b11, 0, none⟩)), (12, B true), (13, I k)] ∧ Mz = (b11, cellsO (worldC x ⟨kc, ⟨some ⟨bP, oP, none⟩, ps1.length, cc⟩, ⟨some ⟨bS, oS, none⟩, ss1.length, cv⟩, ⟨al, ms1.length, cl⟩⟩) 33) :: (wldE ek1 ec1 ca1 es1 sa1 el1 la1 ++ L) ∧ (True)) (ps1).length (by exact kQ) (by exact kL) ⟨0, by omega, rfl, rfl, by trivial⟩ ?_
  rintro mz Ez Mz ⟨k, hk, rfl, rfl, hin⟩
  rcases Nat.lt_or_ge k (ps1).length with hlt | hge
  · obtain ⟨y1, hy1⟩ : ∃ y, ps1[k]? = some y := ⟨_, List.getElem?_eq_getElem hlt⟩; have hrow1 := hrP k y1 hy1
    obtain ⟨u, ⟨sw, ⟨ar, nr, cr⟩, ⟨at0, nt0, ct0⟩, ⟨am, nm, cm⟩⟩⟩ := y1
    have hu : u ∈ x.clients := by rw [← hpe]; exact List.mem_map_of_mem (List.mem_of_getElem? hy1)
    obtain ⟨hu1, hu2, hu3⟩ := hun.cs u hu
    have hcu := hpa _ (List.mem_of_getElem? hy1)
    have hn1 := hcu.c.1
    have hn2 := hcu.s.1
    have hn3 := hcu.m.1
    dsimp only at hn1 hn2 hn3
    rw [hu1] at hn1
    rw [hu2] at hn2
    rw [hu3] at hn3
    simp only [List.length_nil] at hn1 hn2 hn3
    subst hn1 hn2 hn3
    (repeat' (first | refine nI ?_ | (refine nA ?_; intro _) | refine nY ?_ | refine WA_alt ?_ ?_ | refine nR ?_ | refine WC_drawL (id := 18) (ops := o8x18K6) r8x18K6 (by kernel_rfl) rfl ?_ | refine WC_cond rfl (fun hc => ?_) (fun hc => ?_)))
    exact loopQ_next ⟨mz - 1, _, _, by omega, by exact kQ, by exact kL, k + 1, by omega, rfl, rfl, by trivial⟩
  (repeat' (first | refine nI ?_ | (refine nA ?_; intro _) | refine nY ?_ | refine WA_alt ?_ ?_ | refine nR ?_ | refine WC_drawL (id := 18) (ops := o8x18K6) r8x18K6 (by kernel_rfl) rfl ?_ | refine WC_cond rfl (fun hc => ?_) (fun hc => ?_)))
  clear hk hge
  refine WC_loop (fun mz Ez Mz => ∃ k : Nat, k + mz = (ss1).length ∧ Ez = [(11, .pointer (some ⟨b11, 0, none⟩)), (12, B true), (14, I k)] ∧ Mz = (b11, cellsO (worldC x ⟨kc, ⟨some ⟨bP, oP, none⟩, ps1.length, cc⟩, ⟨some ⟨bS, oS, none⟩, ss1.length, cv⟩, ⟨al, ms1.length, cl⟩⟩) 33) :: (wldE ek1 ec1 ca1 es1 sa1 el1 la1 ++ L) ∧ (True)) (ss1).length (by exact kQ) (by exact kL) ⟨0, by omega, rfl, rfl, by trivial⟩ ?_
  rintro mz Ez Mz ⟨k, hk, rfl, rfl, hin⟩
  rcases Nat.lt_or_ge k (ss1).length with hlt | hge
  · obtain ⟨y1, hy1⟩ : ∃ y, ss1[k]? = some y := ⟨_, List.getElem?_eq_getElem hlt⟩; have hrow1 := hrS k y1 hy1
    obtain ⟨v, sc, ⟨at0, nt0, ct0⟩⟩ := y1
    have hv : v ∈ x.servs := by rw [← hsE]; exact List.mem_map_of_mem (List.mem_of_getElem? hy1)
    have hn1 := (hsa _ (List.mem_of_getElem? hy1)).t.1
    dsimp only at hn1
    rw [hun.vs v hv] at hn1
    simp only [List.length_nil] at hn1
    subst hn1
    (repeat' (first | refine nI ?_ | (refine nA ?_; intro _) | refine nY ?_ | refine WA_alt ?_ ?_ | refine nR ?_ | refine WC_drawL (id := 18) (ops := o8x18K6) r8x18K6 (by kernel_rfl) rfl ?_ | refine WC_cond rfl (fun hc => ?_) (fun hc => ?_)))
    exact loopQ_next ⟨mz - 1, _, _, by omega, by exact kQ, by exact kL, k + 1, by omega, rfl, rfl, by trivial⟩
  have hnx := hun.next
  (repeat' (first | refine nI ?_ | (refine nA ?_; intro _) | refine nY ?_ | refine WA_alt ?_ ?_ | refine nR ?_ | refine WC_drawL (id := 18) (ops := o8x18K6) r8x18K6 (by kernel_rfl) rfl ?_ | refine WC_cond rfl (fun hc => ?_) (fun hc => ?_)))
  refine ro_ret (by exact kR) (by exact kL) ?_; rfl
end Go.Proofs.YtlidbcgahfjaoaaGreat
/- The law FnWorldUnheard: for all that comes in the call returns true, and what came in reads as before. No condition. (The frame by the kit's program, the walk by ours.) -/
namespace Go.Proofs.YtlidbcgahfjaoaaGreat.fnWorldUnheard
open Go.ChangeShapes Go.WideShapes Go.ChangeAt Go.RowKit
open Go.ChangeMaps (open_string shut_string)
set_option linter.unusedVariables false

theorem own : ownKnob Tryz.prog.godebug = none := by kernel_rfl
theorem laidOut : laidOutB Tryz.prog = true := by kernel_rfl

def IsRow (k : IntKind) (w : Go.World) (a : Option Addr) (len cap : Nat) (zs : List Int) : Prop :=
  (a = none ∧ len = 0 ∧ cap = 0 ∧ zs = []) ∨
  ∃ x, a = some x ∧ len ≤ cap ∧ cap ≤ maxLen ∧ zs.length = cap ∧ (∀ i, i < zs.length → w.cell? (x.add i) = some (.int k (zs.getD i 0))) ∧ ∀ n ∈ zs, (Lit.int k n).wf = true

theorem walk (a0 : Option Addr) (len0 cap0 : Nat) (z0 : List Int) (w : Go.World) (w0 : IsRow .u8 w a0 len0 cap0 z0) :
    Calls Tryz.prog 8 #[.slice a0 len0 cap0] w fun e w' => e = .returned (.bool true) ∧ Below w.heap.size w w' := by
  exact walk_of (by
    by_cases hb : 1048576 < len0
    · exact c_FnWorldUnheardBig a0 len0 cap0 hb
    · exact c_FnWorldUnheard1 a0 len0 cap0 (z0.take len0) (bytes_at w0) (by omega))

set_option maxRecDepth 100000 in
theorem lifted (os : Os) (started : os.Started) (H : Type) (enc : TypeId × Value → H) :
    ReturnsInHanded {} Tryz.checked os 8 .any (Rows.fnWorldUnheardSpec.pre6 enc Tryz.prog Tryz.f8 Rows.fnWorldUnheardRow.domain false) (Rows.fnWorldUnheardSpec.post enc Tryz.prog Tryz.f8 false true false false) := by
  refine returnsInHanded_of_change (C := Tryz.checked) own started (by kernel_rfl) Tryz.func8
    (ChangeSpec.witness6 (enc := enc) (C := Tryz.checked) false ⟨#[], #[.slice none 0 0], []⟩ 8 (by kernel_rfl) (by kernel_rfl) (by kernel_rfl) (by kernel_rfl)) ?_
  intro W base args ds gs before hval0 hW hcnd _
  have hval : ∀ (j : Nat) t v, Tryz.f8.params[j]? = some t → args[j]? = some v → Value.okWide Tryz.prog W .any base t v := hval0
  have hW' := hW
  obtain ⟨p, q, hA0, hV, rfl, hfz, hnd⟩ := hW
  have hA : DataW.TrodAll enc Tryz.prog W 0 (fun _ => true) true Tryz.f8.params.toList args.toList ds p := hA0
  rw [Tryz.params8] at hA hval
  obtain ⟨v0, vs0, d0, ds0, p0, q0, hargs, rfl, rfl, h0, r0⟩ := trodAll_cons hA
  obtain ⟨rfl, rfl, rfl⟩ := trodAll_nil r0
  obtain rfl : args = #[v0] := by cases args; simp_all
  obtain ⟨rfl, rfl⟩ := trodVars_none hV
  obtain ⟨a0, len0, cap0, rfl⟩ := okWide_slice Tryz.underlying22 (hval 0 22 v0 rfl rfl)
  have k0 := h0
  have lt0 : ∀ x ∈ p0, x.block < W.heap.size := by obtain ⟨m, hm⟩ := k0; exact DataW.trod_lt m _ _ _ hm
  obtain ⟨z0, w0⟩ : ∃ zs, IsRow .u8 W a0 len0 cap0 zs := by
    obtain ⟨fuel, hf⟩ := h0
    rcases open_ints Tryz.underlying22 Tryz.underlying5 (by kernel_rfl) hf with ⟨hcs, _⟩ | ⟨x, l, c, zs, hcs, _, hl, hm, hz, _, hcell, hwz⟩
    · simp [Value.cells] at hcs
      obtain ⟨rfl, rfl, rfl⟩ := hcs
      exact ⟨[], .inl ⟨rfl, rfl, rfl, rfl⟩⟩
    · simp [Value.cells] at hcs
      obtain ⟨rfl, rfl, rfl⟩ := hcs
      exact ⟨zs, .inr ⟨_, rfl, hl, hm, by simpa using hz, hcell, hwz⟩⟩
  clear hA0 hval0
  refine (walk a0 len0 cap0 z0 W w0).mono fun e W' ⟨he, bel⟩ => ?_
  subst he
  exact ⟨_, rfl, _, _, _, [], _, [], hW', trodAll_mk1 (shut_bool Tryz.underlying4 _), (trodAll_cons_mk (Below.trod laidOut (by kernel_rfl) (of_decide_eq_true (by kernel_rfl)) k0 bel lt0) trodAll_mk0), rfl, bel.frame _, fun h => by cases h⟩

theorem over : Rows.fnWorldUnheardRow.holds Tryz.pinned (OpenSpec.ofChange Rows.fnWorldUnheardSpec) :=
  OpenClaim.holds_of_wide 8 Tryz.f8 rfl rfl rfl rfl rfl rfl rfl ⟨rfl, rfl, rfl, rfl, rfl⟩ rfl rfl rfl rfl rfl (by kernel_rfl) Tryz.func8 (by kernel_rfl)
    (of_decide_eq_true (by kernel_rfl)) (by unfold Func.isWrapper; first | (rw [if_pos (by decide +kernel)]; kernel_rfl) | (rw [if_neg (by decide +kernel)]; exact ⟨rfl, rfl⟩))
    (fun os started H enc _ => lifted os started H enc)

theorem proved : Rows.FnWorldUnheardSaid := over
end Go.Proofs.YtlidbcgahfjaoaaGreat.fnWorldUnheard
