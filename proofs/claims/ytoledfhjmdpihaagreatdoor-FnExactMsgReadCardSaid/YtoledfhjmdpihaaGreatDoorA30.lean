/- Draws: seals. -/
import Derived.Test.YtoledfhjmdpihaaGreatDoorA10
import Derived.Test.YtoledfhjmdpihaaGreatDoorA1
import Derived.Test.YtoledfhjmdpihaaGreatDoorA29
import Derived.Test.YtoledfhjmdpihaaGreatDoorA24
set_option linter.unusedVariables false
set_option linter.unusedSectionVars false
set_option linter.unusedSimpArgs false
namespace Go.Proofs.YtoledfhjmdpihaaGreatDoor
open Go Go.Proofs Go.Proofs.YtoledfhjmdpihaaGreatDoor.VE
attribute [local irreducible] Val Op1 WO WR WA WC seqQ blockQ loopQ retQ
set_option maxHeartbeats 4000000
theorem litInt (xs : List Int) {x n : Int} (h : 0 ≤ x ∧ (x < n ∨ x = 0)) (hn : n = xs.length) (h0 : 0 < xs.length) : (xs.map fun v => I v)[0 + x.toNat * 1]? = some (I (xs.getD x.toNat 0)) := by
  have h1 : x.toNat < xs.length := by omega
  have h2 : 0 + x.toNat * 1 = x.toNat := by omega
  rw [h2, List.getElem?_map, List.getElem?_eq_getElem h1, List.getD_eq_getElem?_getD, List.getElem?_eq_getElem h1]
  rfl
theorem sealV_mk (a1 a2 a3 a4 a5 a6 a7 : Int) : packR [.agg #[I a1, I a2, I a3, I a4, I a5, I a6, I a7]] = sealV ⟨a1, a2, a3, a4, a5, a6, a7⟩ := rfl
end Go.Proofs.YtoledfhjmdpihaaGreatDoor
/- Draws: words. -/
set_option linter.unusedVariables false
set_option linter.unusedSectionVars false
set_option linter.unusedSimpArgs false
namespace Go.Proofs.YtoledfhjmdpihaaGreatDoor
open Go Go.Proofs Go.Proofs.YtoledfhjmdpihaaGreatDoor.VE
attribute [local irreducible] Val Op1 WO WR WA WC seqQ blockQ loopQ retQ
set_option maxHeartbeats 4000000
end Go.Proofs.YtoledfhjmdpihaaGreatDoor
/- The reference: texts of words read back. -/
set_option linter.unusedVariables false
set_option linter.unusedSectionVars false
set_option linter.unusedSimpArgs false
namespace Go.Proofs.YtoledfhjmdpihaaGreatDoor
open Go Go.Proofs Go.Proofs.YtoledfhjmdpihaaGreatDoor.VE
attribute [local irreducible] Val Op1 WO WR WA WC seqQ blockQ loopQ retQ
noncomputable def o6x7T14 : Array Oper := cops (cl (cr (cr (cr (cr (cr (codeOf Tryz.f6)))))))
noncomputable def r6x7T14 : Run := (.st 0 0 (.st 1 0 (.st 2 1 (.st 4 0 (.st 5 0 (.st 6 1 (.st 8 0 (.st 9 0 (.st 10 1 (.st 12 0 (.st 13 0 (.st 14 1 (.alt (.st 3 2 (.alt (.st 7 2 (.alt (.st 11 2 (.alt (.st 15 3 (.alt (.st 16 3 (.st 17 0 (.st 18 3 (.st 19 3 .done)))) (.st 18 3 (.st 16 3 (.st 17 0 (.st 19 3 .done)))))) (.alt (.st 16 2 (.alt (.st 15 3 (.st 17 0 (.st 18 3 (.st 19 3 .done)))) (.st 18 2 (.st 15 3 (.st 17 0 (.st 19 3 .done)))))) (.st 18 2 (.alt (.st 15 3 (.st 16 3 (.st 17 0 (.st 19 3 .done)))) (.st 16 2 (.st 15 3 (.st 17 0 (.st 19 3 .done))))))))) (.alt (.st 16 2 (.alt (.st 11 2 (.alt (.st 15 3 (.st 17 0 (.st 18 3 (.st 19 3 .done)))) (.st 18 2 (.st 15 3 (.st 17 0 (.st 19 3 .done)))))) (.st 18 2 (.st 11 2 (.st 15 3 (.st 17 0 (.st 19 3 .done))))))) (.st 18 2 (.alt (.st 11 2 (.alt (.st 15 3 (.st 16 3 (.st 17 0 (.st 19 3 .done)))) (.st 16 2 (.st 15 3 (.st 17 0 (.st 19 3 .done)))))) (.st 16 2 (.st 11 2 (.st 15 3 (.st 17 0 (.st 19 3 .done)))))))))) (.alt (.st 16 2 (.alt (.st 7 2 (.alt (.st 11 2 (.alt (.st 15 3 (.st 17 0 (.st 18 3 (.st 19 3 .done)))) (.st 18 2 (.st 15 3 (.st 17 0 (.st 19 3 .done)))))) (.st 18 2 (.st 11 2 (.st 15 3 (.st 17 0 (.st 19 3 .done))))))) (.st 18 2 (.st 7 2 (.st 11 2 (.st 15 3 (.st 17 0 (.st 19 3 .done)))))))) (.st 18 2 (.alt (.st 7 2 (.alt (.st 11 2 (.alt (.st 15 3 (.st 16 3 (.st 17 0 (.st 19 3 .done)))) (.st 16 2 (.st 15 3 (.st 17 0 (.st 19 3 .done)))))) (.st 16 2 (.st 11 2 (.st 15 3 (.st 17 0 (.st 19 3 .done))))))) (.st 16 2 (.st 7 2 (.st 11 2 (.st 15 3 (.st 17 0 (.st 19 3 .done))))))))))) (.alt (.st 16 2 (.alt (.st 3 2 (.alt (.st 7 2 (.alt (.st 11 2 (.alt (.st 15 3 (.st 17 0 (.st 18 3 (.st 19 3 .done)))) (.st 18 2 (.st 15 3 (.st 17 0 (.st 19 3 .done)))))) (.st 18 2 (.st 11 2 (.st 15 3 (.st 17 0 (.st 19 3 .done))))))) (.st 18 2 (.st 7 2 (.st 11 2 (.st 15 3 (.st 17 0 (.st 19 3 .done)))))))) (.st 18 2 (.st 3 2 (.st 7 2 (.st 11 2 (.st 15 3 (.st 17 0 (.st 19 3 .done))))))))) (.st 18 2 (.alt (.st 3 2 (.alt (.st 7 2 (.alt (.st 11 2 (.alt (.st 15 3 (.st 16 3 (.st 17 0 (.st 19 3 .done)))) (.st 16 2 (.st 15 3 (.st 17 0 (.st 19 3 .done)))))) (.st 16 2 (.st 11 2 (.st 15 3 (.st 17 0 (.st 19 3 .done))))))) (.st 16 2 (.st 7 2 (.st 11 2 (.st 15 3 (.st 17 0 (.st 19 3 .done)))))))) (.st 16 2 (.st 3 2 (.st 7 2 (.st 11 2 (.st 15 3 (.st 17 0 (.st 19 3 .done)))))))))))))))))))))))
set_option maxHeartbeats 8000000
def ReadV (text : Str) (L : List Ent) (v : Value) (L' : List Ent) : Prop :=
  (∃ m sl es, msgOk m = true ∧ msgText m = text ∧ v = .tuple [msgV m sl, B true].toArray ∧ Row encSeal 39 sl m.seals es ∧ L' = es ++ L) ∨ ((∀ x, msgOk x = true → msgText x ≠ text) ∧ v = .tuple [msgV Msg.zero Sl.nil, B false].toArray ∧ L' = L)
theorem c_sMsgRead {L : List Ent} (text : Str) : Tri Tryz.prog 6 [St text] L (ReadV text L) := by
  by_cases h200 : 200 < text.length
  · refine Tri.of Tryz.func6 rfl rfl Tryz.ntmps6 rfl rfl ?_
    (repeat' (first | refine nI ?_ | (refine nA ?_; intro _) | (refine nW ?_; first | refine op_val rfl (by exact kStr) ?_) | (refine WR_id ?_; refine WR_pure rfl rfl rfl (by exact kStr) ?_) | refine nY ?_ | refine WA_alt ?_ ?_ | refine nR ?_ | refine WC_drawL (id := 7) (ops := o6x7T14) r6x7T14 (by kernel_rfl) rfl ?_ | refine WC_cond rfl (fun hc => ?_) (fun hc => ?_)))
    refine ret_ret (by exact kR) ?_; exact ⟨L, by exact kP, .inr ⟨fun x hx ht => absurd (msgText_len200 hx) (by rw [ht]; omega), rfl, rfl⟩⟩
  obtain ⟨ls, hls⟩ : ∃ ls, cutAt 10 text = ls := ⟨_, rfl⟩
  have hl1 : 0 < ls.length := by rw [← hls]; exact List.length_pos_iff.2 (cutAt_ne 10 text)
  have hlb : ls.length ≤ 201 := by
    rw [← hls, cutAt_len]
    have := List.count_le_length (a := (10 : UInt8)) (l := text)
    omega
  have hpc : ∀ w ∈ ls, w.length ≤ 200 := fun w hw => by
    have := cutAt_pieces 10 text w (by rw [hls]; exact hw)
    omega
  have hcut1 : ∀ {L : List Ent}, Tri Tryz.prog 14 [St text, u8 10] L (fun v L' => ∃ sl es, v = Sl.v sl ∧ Row encTx 9 sl ls es ∧ L' = es ++ L) := fun {L} => hls ▸ c_l1Cut text 10 (by omega)
  obtain ⟨d0, hd0⟩ : ∃ d0, ls[0]? = some d0 := ⟨ls[0], by simp [hl1]⟩
  have hd0l := hpc d0 (List.mem_of_getElem? hd0)
  obtain ⟨ws, hws⟩ : ∃ ws, cutAt 32 d0 = ws := ⟨_, rfl⟩
  have hcut2 : ∀ {L : List Ent}, Tri Tryz.prog 14 [St d0, u8 32] L (fun v L' => ∃ sl es, v = Sl.v sl ∧ Row encTx 9 sl ws es ∧ L' = es ++ L) := fun {L} => hws ▸ c_l1Cut d0 32 (by omega)
  have hform : ∀ x, msgOk x = true → msgText x = text → ws = (msgNs x).map dec ∧ ls = decs (msgNs x) :: (x.seals.map sealText ++ [[]]) := fun x hx ht => by
    have h1 := msgText_cut hx
    rw [ht, hls] at h1
    obtain ⟨hd, _, _⟩ := msgOk_parts hx
    have h2 : d0 = decs (msgNs x) := by rw [h1] at hd0; simpa using hd0.symm
    exact ⟨by rw [← hws, h2]; exact decs_cut _ (by simp) (up999 hd), h1⟩
  by_cases h4 : ws.length = 4
  rotate_left
  · have hno : ∀ x, msgOk x = true → msgText x ≠ text := fun x hx ht => h4 (by rw [(hform x hx ht).1]; rfl)
    refine Tri.of Tryz.func6 rfl rfl Tryz.ntmps6 rfl rfl ?_
    (repeat' (first | refine nI ?_ | (refine nA ?_; intro _) | (refine nW ?_; first | (refine op_call_id ?_; refine op_call rfl (hcut1) rfl ?_; rintro _ _ ⟨⟨al, nl, cl⟩, el, rfl, hrl, rfl⟩) | refine op_val rfl (by exact kStr) ?_) | (refine WR_id ?_; refine WR_pure rfl rfl rfl (by exact kStr) ?_) | refine nY ?_ | refine WA_alt ?_ ?_ | refine WC_regionN [4] rfl ?_ | refine WC_block ?_ | refine WC_drawL (id := 7) (ops := o6x7T14) r6x7T14 (by kernel_rfl) rfl ?_ | refine WC_cond rfl (fun hc => ?_) (fun hc => ?_)))
    have hnl := hrl.n
    dsimp only at hnl
    subst hnl
    obtain ⟨bq, oq, cq, Tq, fq, haq, hmq, hgq⟩ := word_cell hrl.at (k := 0) hd0
    replace haq : al = _ := haq
    subst haq
    (repeat' (first | refine nI ?_ | (refine nA ?_; intro _) | (refine nW ?_; first | (refine op_load_id ?_; refine op_val rfl (by exact val_load1 rfl rfl rfl (by exact kM) hgq) ?_) | (refine op_call_id ?_; refine op_call rfl (hcut2) rfl ?_; rintro _ _ ⟨⟨aw, nw, cw⟩, ew, rfl, hrw, rfl⟩) | refine op_val rfl (by exact kStr) ?_) | (refine WR_id ?_; refine WR_pure rfl rfl rfl (by exact kStr) ?_) | (refine WR_id ?_; refine WR_load rfl rfl rfl (by exact val_load1 rfl rfl rfl (by exact kM) hgq) (by exact kS) ?_) | refine nY ?_ | refine WA_alt ?_ ?_ | refine WC_regionN [5] rfl ?_ | refine WC_block ?_ | refine WC_drawL (id := 7) (ops := o6x7T14) r6x7T14 (by kernel_rfl) rfl ?_ | refine WC_cond rfl (fun hc => ?_) (fun hc => ?_)))
    have hnw := hrw.n
    dsimp only at hnw
    subst hnw
    (repeat' (first | refine nI ?_ | (refine nA ?_; intro _) | (refine nW ?_; first | refine op_val rfl (by exact kStr) ?_) | (refine WR_id ?_; refine WR_pure rfl rfl rfl (by exact kStr) ?_) | refine nY ?_ | refine WA_alt ?_ ?_ | refine nR ?_ | refine WC_drawL (id := 7) (ops := o6x7T14) r6x7T14 (by kernel_rfl) rfl ?_ | refine WC_cond rfl (fun hc => ?_) (fun hc => ?_)))
    refine ret_ret (by exact kR) ?_; exact ⟨L, by exact kP, .inr ⟨hno, rfl, rfl⟩⟩
  have hpw : ∀ w ∈ ws, w.length ≤ 1000000 := fun w hw => by
    have := cutAt_pieces 32 d0 w (by rw [hws]; exact hw)
    omega
  obtain ⟨w0, w1, w2, w3, rfl⟩ := words4 h4
  have p0 := hpw w0 (by simp)
  have p1 := hpw w1 (by simp)
  have p2 := hpw w2 (by simp)
  have p3 := hpw w3 (by simp)
  have hx4 : ∀ x, msgOk x = true → msgText x = text → numOf w0 = x.kind ∧ numOf w1 = x.client ∧ numOf w2 = x.serv ∧ numOf w3 = x.nonce := fun x hx ht => by
    have h1 := (hform x hx ht).1
    obtain ⟨hd, _, _⟩ := msgOk_parts hx
    have hd9 := up999 hd
    have nd : ∀ n ∈ msgNs x, numOf (dec n) = n := fun n hn => (dig (hd9 n hn).1 (hd9 n hn).2).num
    simp only [msgNs, List.map_cons, List.map_nil, List.cons.injEq, and_true] at h1
    obtain ⟨e0, e1, e2, e3⟩ := h1
    exact ⟨by rw [e0]; exact nd _ (by simp), by rw [e1]; exact nd _ (by simp), by rw [e2]; exact nd _ (by simp), by rw [e3]; exact nd _ (by simp)⟩
  obtain ⟨v0, hv0⟩ : ∃ v, numOf w0 = v := ⟨_, rfl⟩
  obtain ⟨v1, hv1⟩ : ∃ v, numOf w1 = v := ⟨_, rfl⟩
  obtain ⟨v2, hv2⟩ : ∃ v, numOf w2 = v := ⟨_, rfl⟩
  obtain ⟨v3, hv3⟩ : ∃ v, numOf w3 = v := ⟨_, rfl⟩
  rw [hv0, hv1, hv2, hv3] at hx4
  have hls2 : ∀ x, msgOk x = true → msgText x = text → ls = decs (msgNs x) :: (x.seals.map sealText ++ [[]]) := fun x hx ht => (hform x hx ht).2
  clear hws hls hform hpw
  refine Tri.of Tryz.func6 rfl rfl Tryz.ntmps6 rfl rfl ?_
  (repeat' (first | refine nI ?_ | (refine nA ?_; intro _) | (refine nW ?_; first | (refine op_call_id ?_; refine op_call rfl (hcut1) rfl ?_; rintro _ _ ⟨⟨al, nl, cl⟩, el, rfl, hrl, rfl⟩) | refine op_val rfl (by exact kStr) ?_) | (refine WR_id ?_; refine WR_pure rfl rfl rfl (by exact kStr) ?_) | refine nY ?_ | refine WA_alt ?_ ?_ | refine WC_regionN [4] rfl ?_ | refine WC_block ?_ | refine WC_drawL (id := 7) (ops := o6x7T14) r6x7T14 (by kernel_rfl) rfl ?_ | refine WC_cond rfl (fun hc => ?_) (fun hc => ?_)))
  rename_i b2
  have hnl := hrl.n
  dsimp only at hnl
  subst hnl
  obtain ⟨bq, oq, cq, Tq, fq, haq, hmq, hgq⟩ := word_cell hrl.at (k := 0) hd0
  replace haq : al = _ := haq
  subst haq
  (repeat' (first | refine nI ?_ | (refine nA ?_; intro _) | (refine nW ?_; first | (refine op_load_id ?_; refine op_val rfl (by exact val_load1 rfl rfl rfl (by exact kM) hgq) ?_) | (refine op_call_id ?_; refine op_call rfl (hcut2) rfl ?_; rintro _ _ ⟨⟨aw, nw, cw⟩, ew, rfl, hrw, rfl⟩) | refine op_val rfl (by exact kStr) ?_) | (refine WR_id ?_; refine WR_pure rfl rfl rfl (by exact kStr) ?_) | (refine WR_id ?_; refine WR_load rfl rfl rfl (by exact val_load1 rfl rfl rfl (by exact kM) hgq) (by exact kS) ?_) | refine nY ?_ | refine WA_alt ?_ ?_ | refine WC_regionN [5] rfl ?_ | refine WC_block ?_ | refine WC_drawL (id := 7) (ops := o6x7T14) r6x7T14 (by kernel_rfl) rfl ?_ | refine WC_cond rfl (fun hc => ?_) (fun hc => ?_)))
  obtain ⟨g, cap, rest, hsl, rfl, h3, h4, h5⟩ := hrw.block (by simp)
  replace hsl : (⟨aw, nw, cw⟩ : Sl) = ⟨some ⟨g, 0, none⟩, 4, cap⟩ := hsl
  cases hsl
  have g0 : (encTx.row [w0, w1, w2, w3] ++ rest)[0 + (0 : Int).toNat * 1]? = some (St w0) := rfl
  have g1 : (encTx.row [w0, w1, w2, w3] ++ rest)[0 + (1 : Int).toNat * 1]? = some (St w1) := rfl
  have g2 : (encTx.row [w0, w1, w2, w3] ++ rest)[0 + (2 : Int).toNat * 1]? = some (St w2) := rfl
  have g3 : (encTx.row [w0, w1, w2, w3] ++ rest)[0 + (3 : Int).toNat * 1]? = some (St w3) := rfl
  (repeat' (first | refine nI ?_ | (refine nA ?_; intro _) | (refine nW ?_; first | refine op_val rfl (by exact kStr) ?_) | (refine WR_id ?_; refine WR_pure rfl rfl rfl (by exact kStr) ?_) | refine nY ?_ | refine WA_alt ?_ ?_ | refine nR ?_ | refine WC_cond rfl (fun hc => ?_) (fun hc => ?_)))
  refine WC_cut (X := Nat × Nat) (fun x => [(0, St text), (2, .pointer (some ⟨b2, 0, none⟩)), (4, .slice (some ⟨bq, oq, none⟩) ls.length cl), (6, .pointer (some ⟨x.1, 0, none⟩))]) (fun x => (x.1, cellsO (msgC ⟨v0, v1, v2, v3, []⟩ ⟨some ⟨x.2, 0, none⟩, 0, 0⟩) 24) :: (b2, cellsO (msgC Msg.zero Sl.nil) 24) :: (el ++ L)) ?_ ?_
  · (repeat' (first | refine nI ?_ | (refine nA ?_; intro _) | (refine nW ?_; first | (refine op_call_id ?_; refine op_ro rfl rfl (by first | exact (c_l1Dec w0 p0).eq (congrArg I hv0) | exact (c_l1Dec w1 p1).eq (congrArg I hv1) | exact (c_l1Dec w2 p2).eq (congrArg I hv2) | exact (c_l1Dec w3 p3).eq (congrArg I hv3)) ?_) | (refine op_load_id ?_; refine op_val rfl (by first | exact val_load1 rfl rfl rfl (by exact kM) g0 | exact val_load1 rfl rfl rfl (by exact kM) g1 | exact val_load1 rfl rfl rfl (by exact kM) g2 | exact val_load1 rfl rfl rfl (by exact kM) g3) ?_) | refine op_val rfl (by exact kStr) ?_) | (refine WR_id ?_; refine WR_pure rfl rfl rfl (by exact kStr) ?_) | (refine WR_id ?_; refine WR_load rfl rfl rfl (by first | exact val_load1 rfl rfl rfl (by exact kM) g0 | exact val_load1 rfl rfl rfl (by exact kM) g1 | exact val_load1 rfl rfl rfl (by exact kM) g2 | exact val_load1 rfl rfl rfl (by exact kM) g3) (by exact kS) ?_) | refine nY ?_ | refine WA_alt ?_ ?_ | refine nR ?_ | refine WC_draw (id := 7) (ops := o6x7T14) ([(g, cellsO (encTx.row [w0, w1, w2, w3] ++ rest) 9)]) r6x7T14 (by kernel_rfl) rfl ?_ | refine WC_cond rfl (fun hc => ?_) (fun hc => ?_)))
    all_goals exact ⟨rfl, (_, _), by exact kQ, by exact kL⟩
  rintro ⟨b6, bs0⟩
  try dsimp only
  obtain ⟨ln, hln⟩ : ∃ ln, (ls.drop 1).dropLast = ln := ⟨_, rfl⟩
  have hlnl : ln.length = ls.length - 2 := by rw [← hln, List.length_dropLast, List.length_drop]; omega
  have hlnk : ∀ (k : Nat) w, ln[k]? = some w → ls[k + 1]? = some w := fun k w hw => by
    have hk := (List.getElem?_eq_some_iff.1 hw).1
    rw [← hln, List.dropLast_eq_take, List.getElem?_take_of_lt (by rw [List.length_drop]; omega), List.getElem?_drop] at hw
    rw [← hw, Nat.add_comm]
  have hxln : ∀ x, msgOk x = true → msgText x = text → ln = x.seals.map sealText := fun x hx ht => by
    rw [← hln, hls2 x hx ht, List.drop_succ_cons, List.drop_zero, List.dropLast_concat]
  (repeat' (first | refine nI ?_ | (refine nA ?_; intro _) | (refine nW ?_; first | refine op_val rfl (by exact kStr) ?_) | (refine WR_id ?_; refine WR_pure rfl rfl rfl (by exact kStr) ?_) | refine nY ?_ | refine WA_alt ?_ ?_ | refine nR ?_ | refine WC_drawL (id := 7) (ops := o6x7T14) r6x7T14 (by kernel_rfl) rfl ?_ | refine WC_cond rfl (fun hc => ?_) (fun hc => ?_)))
  refine WC_loop (fun mz Ez Mz => ∃ (k : Nat) (ms : List Seal) (a2 : Option Addr) (n2 c2 : Nat) (eo : List Ent), k + mz = (ln).length ∧ Ez = [(0, St text), (2, .pointer (some ⟨b2, 0, none⟩)), (4, .slice (some ⟨bq, oq, none⟩) ls.length cl), (6, .pointer (some ⟨b6, 0, none⟩)), (7, I ((k : Int) + 1))] ∧ Mz = (b6, cellsO (msgC ⟨v0, v1, v2, v3, ms⟩ ⟨a2, n2, c2⟩) 24) :: (b2, cellsO (msgC Msg.zero Sl.nil) 24) :: (eo ++ (el ++ L)) ∧ (Row encSeal 39 ⟨a2, n2, c2⟩ ms eo ∧ ms.length = k ∧ (∀ x, msgOk x = true → msgText x = text → ms = x.seals.take k))) (ln).length (by exact kQ) (by exact kL) ⟨0, [], some ⟨bs0, 0, none⟩, 0, 0, [], by omega, rfl, rfl, by exact ⟨Row.nil, rfl, fun x _ _ => by simp⟩⟩ ?_
  rintro mz Ez Mz ⟨k, ms, a2, n2, c2, eo, hk, rfl, rfl, hin⟩
  rcases Nat.lt_or_ge k (ln).length with hlt | hge
  · obtain ⟨hrow0, hml, hmx⟩ := hin
    obtain ⟨line, hlk⟩ : ∃ y, ln[k]? = some y := ⟨ln[k], by simp [hlt]⟩
    have hlk1 := hlnk k line hlk
    have hpl1 := hpc line (List.mem_of_getElem? hlk1)
    obtain ⟨bq2, oq2, cq2, Tq2, fq2, haq2, hmq2, hgq2⟩ := word_cell hrl.at hlk1
    cases haq2
    rw [show (((k + 1 : Nat) : Int)) = (k : Int) + 1 from rfl] at hgq2
    (repeat' (first | refine nI ?_ | (refine nA ?_; intro _) | (refine nW ?_; first | (refine op_load_id ?_; refine op_val rfl (by exact val_load1 rfl rfl rfl (by exact kM) hgq2) ?_) | (refine op_call_id ?_; refine op_call rfl (c_sSealRead line (by omega)) rfl ?_; rintro _ _ ⟨s, b, rfl, hsx, rfl⟩) | (refine go_append ?_; refine op_appendRow (sl := ⟨_, _, _⟩) (sx := ⟨_, _, _⟩) rfl rfl rfl rfl rfl rfl rfl rfl rfl (hrow0) (by exact kE) (SliceAt.one (E := encSeal) (x := s) (by exact kM) rfl) (by (simp only [List.length_cons, List.length_nil, lim]; omega)) ?_; intro sl' es' hrow' hst') | refine op_val rfl (by exact kStr) ?_) | (refine WR_id ?_; refine WR_pure rfl rfl rfl (by exact kStr) ?_) | (refine WR_id ?_; refine WR_load rfl rfl rfl (by exact val_load1 rfl rfl rfl (by exact kM) hgq2) (by exact kS) ?_) | refine nY ?_ | refine WA_alt ?_ ?_ | refine nR ?_ | refine WC_drawL (id := 7) (ops := o6x7T14) r6x7T14 (by kernel_rfl) rfl ?_ | refine WC_cond rfl (fun hc => ?_) (fun hc => ?_)))
    obtain ⟨a9, n9, c9⟩ := sl'
    have hnx : ∀ x, msgOk x = true → msgText x = text → ms ++ [s] = x.seals.take (k + 1) := fun x hx ht => by
      have h1 := hxln x hx ht
      rw [h1, List.getElem?_map] at hlk
      obtain ⟨y, hy, hyt⟩ := Option.map_eq_some_iff.1 hlk
      have hyo := (msgOk_parts hx).2.2 y (List.mem_of_getElem? hy)
      rw [take_next hy, ← hmx x hx ht, (hsx y hyo hyt).1]
    exact loopQ_next ⟨mz - 1, _, _, by omega, by exact kQ, by exact kL, k + 1, ms ++ [s], a9, n9, c9, es', by omega, rfl, rfl, by exact ⟨hrow', by rw [List.length_append, List.length_cons, List.length_nil, hml], hnx⟩⟩
  · obtain ⟨hrow0, hml, hmx⟩ := hin
    have hxm : ∀ x, msgOk x = true → msgText x = text → (⟨v0, v1, v2, v3, ms⟩ : Msg) = x := fun x hx ht => by
      obtain ⟨e0, e1, e2, e3⟩ := hx4 x hx ht
      have h1 := hxln x hx ht
      have h2 : x.seals.length ≤ k := by
        have := congrArg List.length h1
        rw [List.length_map] at this
        omega
      rw [e0, e1, e2, e3, hmx x hx ht, List.take_of_length_le h2]
    have hms : MsgAt (eo ++ (el ++ L)) ⟨v0, v1, v2, v3, ms⟩ ⟨a2, n2, c2⟩ := hrow0.atL (fun e he => List.mem_append_left _ he)
    have hn2 := hrow0.n
    dsimp only at hn2
    cases hok : msgOk ⟨v0, v1, v2, v3, ms⟩ with
    | false =>
      (repeat' (first | refine nI ?_ | (refine nA ?_; intro _) | (refine nW ?_; first | (refine op_call_id ?_; refine op_ro rfl rfl (by exact (c_sMsgOk ⟨v0, v1, v2, v3, ms⟩ ⟨a2, n2, c2⟩ (hms.mono (by exact kS))).eq (congrArg B hok)) ?_) | refine op_val rfl (by exact kStr) ?_) | (refine WR_id ?_; refine WR_pure rfl rfl rfl (by exact kStr) ?_) | refine nY ?_ | refine WA_alt ?_ ?_ | refine nR ?_ | refine WC_drawL (id := 7) (ops := o6x7T14) r6x7T14 (by kernel_rfl) rfl ?_ | refine WC_cond rfl (fun hc => ?_) (fun hc => ?_)))
      refine ret_ret (by exact kR) ?_; exact ⟨L, by exact kP, .inr ⟨fun x hx ht => (by rw [hxm x hx ht, hx] at hok; cases hok), rfl, rfl⟩⟩
    | true =>
      obtain ⟨st, hst⟩ : ∃ st, msgText ⟨v0, v1, v2, v3, ms⟩ = st := ⟨_, rfl⟩
      by_cases htx : st = text
      · (repeat' (first | refine nI ?_ | (refine nA ?_; intro _) | (refine nW ?_; first | (refine op_call_id ?_; refine op_ro rfl rfl (by first | exact (c_sMsgOk ⟨v0, v1, v2, v3, ms⟩ ⟨a2, n2, c2⟩ (hms.mono (by exact kS))).eq (congrArg B hok) | exact (c_sMsgText ⟨v0, v1, v2, v3, ms⟩ ⟨a2, n2, c2⟩ (hms.mono (by exact kS))).eq (congrArg St hst)) ?_) | refine op_val rfl (by exact kStr) ?_) | (refine WR_id ?_; refine WR_pure rfl rfl rfl (by exact kStr) ?_) | refine nY ?_ | refine WA_alt ?_ ?_ | refine nR ?_ | refine WC_drawL (id := 7) (ops := o6x7T14) r6x7T14 (by kernel_rfl) rfl ?_ | refine WC_cond rfl (fun hc => ?_) (fun hc => ?_)))
        refine ret_ret (by exact kR) ?_; exact ⟨eo ++ L, by exact kP, .inl ⟨⟨v0, v1, v2, v3, ms⟩, ⟨a2, n2, c2⟩, eo, hok, hst.trans htx, rfl, hrow0, rfl⟩⟩
      · (repeat' (first | refine nI ?_ | (refine nA ?_; intro _) | (refine nW ?_; first | (refine op_call_id ?_; refine op_ro rfl rfl (by first | exact (c_sMsgOk ⟨v0, v1, v2, v3, ms⟩ ⟨a2, n2, c2⟩ (hms.mono (by exact kS))).eq (congrArg B hok) | exact (c_sMsgText ⟨v0, v1, v2, v3, ms⟩ ⟨a2, n2, c2⟩ (hms.mono (by exact kS))).eq (congrArg St hst)) ?_) | refine op_val rfl (by exact kStr) ?_) | (refine WR_id ?_; refine WR_pure rfl rfl rfl (by exact kStr) ?_) | refine nY ?_ | refine WA_alt ?_ ?_ | refine nR ?_ | refine WC_drawL (id := 7) (ops := o6x7T14) r6x7T14 (by kernel_rfl) rfl ?_ | refine WC_cond rfl (fun hc => ?_) (fun hc => ?_)))
        refine ret_ret (by exact kR) ?_; exact ⟨L, by exact kP, .inr ⟨fun x hx ht => htx (by rw [← hst, hxm x hx ht, ht]), rfl, rfl⟩⟩
end Go.Proofs.YtoledfhjmdpihaaGreatDoor
/- Draws of words and of their texts. -/
set_option linter.unusedVariables false
set_option linter.unusedSectionVars false
set_option linter.unusedSimpArgs false
namespace Go.Proofs.YtoledfhjmdpihaaGreatDoor
open Go Go.Proofs Go.Proofs.YtoledfhjmdpihaaGreatDoor.VE
attribute [local irreducible] Val Op1 WO WR WA WC seqQ blockQ loopQ retQ
set_option maxHeartbeats 8000000
end Go.Proofs.YtoledfhjmdpihaaGreatDoor
