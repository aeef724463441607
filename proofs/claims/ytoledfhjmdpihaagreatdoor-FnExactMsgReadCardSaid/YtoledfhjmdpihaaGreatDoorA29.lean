/- Texts of words read back. -/
import Derived.Test.YtoledfhjmdpihaaGreatDoorA28
import Derived.Test.YtoledfhjmdpihaaGreatDoorA24
set_option linter.unusedVariables false
set_option linter.unusedSectionVars false
set_option linter.unusedSimpArgs false
namespace Go.Proofs.YtoledfhjmdpihaaGreatDoor
open Go Go.Proofs Go.Proofs.YtoledfhjmdpihaaGreatDoor.VE
attribute [local irreducible] Val Op1 WO WR WA WC seqQ blockQ loopQ retQ
noncomputable def o7x5T12 : Array Oper := cops (cl (cr (cr (cr (cr (codeOf Tryz.f7))))))
noncomputable def r7x5T12 : Run := (.st 0 0 (.st 1 0 (.st 2 1 (.st 3 0 (.st 4 0 (.st 5 1 (.st 6 0 (.st 7 0 (.st 8 1 (.st 9 0 (.st 10 0 (.st 11 1 (.st 12 0 (.st 13 2 (.st 14 3 .done)))))))))))))))
set_option maxHeartbeats 8000000
section
variable {P : Program} [TT P] {n : Nat} {env : Env} {L : List Ent} {dst : Option Nat} {t : TypeId} {pos : String} {after : Array Edge} {g : Option (Nat × Bool)}
omit [TT P] in
theorem val_maxE {x y : Operand} {Ts : Array TypeId} {p q r : Int} (hx : ev env x = some (I p)) (hy : ev env y = some (I q)) (hr : (if q > p then q else p) = r) :
    Val P n env L ⟨dst, .call { callee := .builtin .max, args := [x, y].toArray, argTypes := Ts }, t, pos, after, g⟩ (I r) := by
  subst hr; exact val_max hx hy
end
theorem get4 (n0 n1 n2 n3 : Int) (rest : List Value) : (encInt.row [n0, n1, n2, n3] ++ rest)[0 + (0 : Int).toNat * 1]? = some (I n0) ∧ (encInt.row [n0, n1, n2, n3] ++ rest)[0 + (1 : Int).toNat * 1]? = some (I n1) ∧ (encInt.row [n0, n1, n2, n3] ++ rest)[0 + (2 : Int).toNat * 1]? = some (I n2) ∧ (encInt.row [n0, n1, n2, n3] ++ rest)[0 + (3 : Int).toNat * 1]? = some (I n3) :=
  ⟨rfl, rfl, rfl, rfl⟩
theorem numsOf4 {ns : List Int} (h : ns.length = 4) : ∃ n0 n1 n2 n3, ns = [n0, n1, n2, n3] := by
  match ns, h with
  | [n0, n1, n2, n3], _ => exact ⟨n0, n1, n2, n3, rfl⟩
theorem seal_or {line : Str} : (∃ s, sealOk s = true ∧ sealText s = line) ∨ ∀ s, sealOk s = true → sealText s ≠ line := by
  by_cases h : ∃ s, sealOk s = true ∧ sealText s = line
  · exact .inl h
  · exact .inr fun s hs e => h ⟨s, hs, e⟩
theorem c_msgReadOk {L : List Ent} (x : Msg) (hx : msgOk x = true) (hG : GlobM L) : Tri Tryz.prog 7 [St (msgText x)] L (fun v L' => ∃ sl es, v = .tuple [msgV x sl, B true].toArray ∧ Row encSeal 39 sl x.seals es ∧ L' = es ++ L) := by
  obtain ⟨hdig, hsl2, hsok⟩ := msgOk_parts hx
  have htl := msgText_len200 hx
  obtain ⟨text, htext⟩ : ∃ t, msgText x = t := ⟨_, rfl⟩
  have hcut := msgText_cut hx
  rw [htext] at htl hcut ⊢
  obtain ⟨ls, hls⟩ : ∃ ls, cutAt 10 text = ls := ⟨_, rfl⟩
  have hl1 : 0 < ls.length := by rw [← hls]; exact List.length_pos_iff.2 (cutAt_ne 10 text)
  have hlb : ls.length ≤ text.length + 1 := by
    rw [← hls, cutAt_len]
    have := List.count_le_length (a := (10 : UInt8)) (l := text)
    omega
  have hbg : ls.length ≤ big := by simp only [big]; omega
  have hpc : ∀ w ∈ ls, w.length ≤ text.length := fun w hw => cutAt_pieces 10 text w (by rw [hls]; exact hw)
  have hsplit1 : ∀ {L : List Ent}, Glob L → Tri Tryz.prog 19 [St text, St [10]] L (fun v L' => ∃ b, v = .slice (some ⟨b, 0, none⟩) ls.length ls.length ∧ L' = (b, cellsO (ls.map St) 9) :: L) := fun {L} hG => hls ▸ c_split 10 text (by omega) hG
  obtain ⟨d0, hd0⟩ : ∃ d0, ls[0]? = some d0 := ⟨ls[0], by simp [hl1]⟩
  have hd0l := hpc d0 (List.mem_of_getElem? hd0)
  obtain ⟨ws, hws⟩ : ∃ ws, cutAt 32 d0 = ws := ⟨_, rfl⟩
  have hwb : ws.length ≤ big := by
    rw [← hws, cutAt_len]
    have := List.count_le_length (a := (32 : UInt8)) (l := d0)
    simp only [big]; omega
  have hsplit2 : ∀ {L : List Ent}, Glob L → Tri Tryz.prog 19 [St d0, St [32]] L (fun v L' => ∃ b, v = .slice (some ⟨b, 0, none⟩) ws.length ws.length ∧ L' = (b, cellsO (ws.map St) 9) :: L) := fun {L} hG => hws ▸ c_split 32 d0 (by omega) hG
  have hlen : ∀ w ∈ ws, w.length ≤ 281474976710656 := fun w hw => by
    have := cutAt_pieces 32 d0 w (by rw [hws]; exact hw)
    omega
  have hget0 : (ls.map St)[0 + (0 : Int).toNat * 1]? = some (St d0) := by
    show (ls.map St)[0]? = _
    rw [List.getElem?_map, hd0]; rfl
  rw [hls] at hcut
  have hd0e : d0 = decs (msgNs x) := by rw [hcut] at hd0; simpa using hd0.symm
  have hwe : ws = (msgNs x).map dec := by rw [← hws, hd0e]; exact decs_cut _ (by simp) (up999 hdig)
  have hread : readN ws 4 = some (msgNs x) := by rw [hwe]; exact readN_dec (up999 hdig) rfl
  have hll : ls.length = x.seals.length + 2 := by rw [hcut]; simp
  obtain ⟨ln, hln⟩ : ∃ ln, x.seals.map sealText = ln := ⟨_, rfl⟩
  have hlnl : ln.length = x.seals.length := by rw [← hln, List.length_map]
  have hlne : (ls.take (ln.length + 1)).drop 1 = ln := by
    rw [hcut, ← hln, hln, List.take_succ_cons, List.drop_succ_cons, List.drop_zero, List.take_left']
    rfl
  have hlnle : ln.length + 1 ≤ ls.length := by omega
  have hmax : (if (1 : Int) > (ls.length : Int) - 1 then (1 : Int) else (ls.length : Int) - 1) = ((ln.length + 1 : Nat) : Int) := by rw [if_neg (by omega)]; omega
  clear hcut hls hws hd0e hwe
  refine Tri.of Tryz.func7 rfl rfl Tryz.ntmps7 rfl rfl ?_
  (repeat' (first | refine nI ?_ | (refine nA ?_; intro _) | (refine nW ?_; first | (refine op_call_id ?_; refine op_call rfl (hsplit1 (hG.g.mono (by exact kS))) rfl ?_; rintro _ _ ⟨bl, rfl, rfl⟩) | refine op_val rfl (by exact kStr) ?_) | (refine WR_id ?_; refine WR_pure rfl rfl rfl (by exact kStr) ?_) | refine nY ?_ | refine WA_alt ?_ ?_ | refine WC_regionN [2] rfl ?_ | refine WC_block ?_ | refine WC_drawL (id := 5) (ops := o7x5T12) r7x5T12 (by kernel_rfl) rfl ?_ | refine WC_cond rfl (fun hc => ?_) (fun hc => ?_)))
  rename_i b2
  (repeat' (first | refine nI ?_ | (refine nA ?_; intro _) | (refine nW ?_; first | (refine op_load_id ?_; refine op_val rfl (by exact val_load1 rfl rfl rfl (by exact kM) hget0) ?_) | (refine op_call_id ?_; refine op_call rfl (hsplit2 (hG.g.mono (by exact kS))) rfl ?_; rintro _ _ ⟨bw, rfl, rfl⟩) | (refine op_call_id ?_; refine op_call rfl (c_readNumbersOk ⟨_, _, _⟩ ws 4 (msgNs x) (strAt rfl (by exact kM) hwb) hread (by omega) hlen) rfl ?_; rintro _ _ ⟨⟨an, nn, cn⟩, en, rfl, hrn, rfl⟩) | refine op_val rfl (by exact kStr) ?_) | (refine WR_id ?_; refine WR_pure rfl rfl rfl (by exact kStr) ?_) | (refine WR_id ?_; refine WR_load rfl rfl rfl (by exact val_load1 rfl rfl rfl (by exact kM) hget0) (by exact kS) ?_) | refine nY ?_ | refine WA_alt ?_ ?_ | refine nR ?_ | refine WC_cond rfl (fun hc => ?_) (fun hc => ?_)))
  obtain ⟨g, cap, rest, hsl, rfl, h3, h4, h5⟩ := hrn.block (by simp)
  replace hsl : (⟨an, nn, cn⟩ : Sl) = ⟨some ⟨g, 0, none⟩, 4, cap⟩ := hsl
  cases hsl
  obtain ⟨g0, g1, g2, g3⟩ := get4 x.kind x.client x.serv x.nonce rest
  (repeat' (first | (refine nW ?_; refine op_val rfl (by exact val_maxE rfl rfl hmax) ?_) | (refine WR_id ?_; refine WR_pure rfl rfl rfl (by exact val_maxE rfl rfl hmax) ?_) | refine nI ?_ | (refine nA ?_; intro _) | (refine nW ?_; first | (refine op_load_id ?_; refine op_val rfl (by first | exact val_load1 rfl rfl rfl (by exact kM) g0 | exact val_load1 rfl rfl rfl (by exact kM) g1 | exact val_load1 rfl rfl rfl (by exact kM) g2 | exact val_load1 rfl rfl rfl (by exact kM) g3) ?_) | refine op_val rfl (by exact kStr) ?_) | (refine WR_id ?_; refine WR_pure rfl rfl rfl (by exact kStr) ?_) | (refine WR_id ?_; refine WR_load rfl rfl rfl (by first | exact val_load1 rfl rfl rfl (by exact kM) g0 | exact val_load1 rfl rfl rfl (by exact kM) g1 | exact val_load1 rfl rfl rfl (by exact kM) g2 | exact val_load1 rfl rfl rfl (by exact kM) g3) (by exact kS) ?_) | refine nY ?_ | refine WA_alt ?_ ?_ | refine nR ?_ | refine WC_draw (id := 5) (ops := o7x5T12) ([(g, cellsO (encInt.row (msgNs x) ++ rest) 3)]) r7x5T12 (by kernel_rfl) rfl ?_ | refine WC_cond rfl (fun hc => ?_) (fun hc => ?_)))
  rename_i b7
  obtain ⟨o9, ho9⟩ : ∃ o9, cutA (some ⟨bl, 0, none⟩) (Int.toNat 1) ls.length 1 = some ⟨bl, o9, none⟩ := by
    unfold cutA
    split
    · exact ⟨_, rfl⟩
    · exact ⟨_, rfl⟩
  have hsat : SliceAt ((bl, cellsO (ls.map St) 9) :: L) encTx ⟨some ⟨bl, o9, none⟩, ln.length, ls.length - 1⟩ ln := by
    have h1 := SliceAt.drop (E := encTx) (k := 1) (SliceAt.take (E := encTx) (k := ln.length + 1) (strAt (L := (bl, cellsO (ls.map St) 9) :: L) (T := 9) (fr := (0, 0)) rfl List.mem_cons_self hbg) hlnle) (by rw [List.length_take]; omega)
    rw [hlne, show cutA (some ⟨bl, 0, none⟩) 1 ls.length encTx.sz = some ⟨bl, o9, none⟩ from ho9] at h1
    exact h1
  rw [ho9]
  refine WC_loop (fun mz Ez Mz => ∃ (k : Nat) (a2 : Option Addr) (n2 c2 : Nat) (eo : List Ent), k + mz = (ln).length ∧ Ez = [(0, St text), (2, .pointer (some ⟨b2, 0, none⟩)), (7, .pointer (some ⟨b7, 0, none⟩)), (48, .slice (some ⟨bl, o9, none⟩) ln.length (ls.length - 1)), (49, I ln.length), (50, I k)] ∧ Mz = (b7, cellsO (msgC x ⟨a2, n2, c2⟩) 24) :: (b2, cellsO (msgC Msg.zero Sl.nil) 24) :: (eo ++ ((bl, cellsO (ls.map St) 9) :: L)) ∧ (Row encSeal 39 ⟨a2, n2, c2⟩ (x.seals.take k) eo)) (ln).length (by exact kQ) (by exact kL) ⟨0, none, 0, 0, [], by omega, rfl, rfl, by exact Row.nil⟩ ?_
  rintro mz Ez Mz ⟨k, a2, n2, c2, eo, hk, rfl, rfl, hin⟩
  rcases Nat.lt_or_ge k (ln).length with hlt | hge
  · obtain ⟨s, hy⟩ : ∃ s, x.seals[k]? = some s := ⟨x.seals[k]'(by omega), by simp⟩
    have hsk := hsok s (List.mem_of_getElem? hy)
    have hlk : ln[k]? = some (sealText s) := by rw [← hln, List.getElem?_map, hy]; rfl
    obtain ⟨bq, oq, cq, Tq, fq, haq, hmq, hgq⟩ := word_cell hsat hlk
    cases haq
    (repeat' (first | refine nI ?_ | (refine nA ?_; intro _) | (refine nW ?_; first | (refine op_call_id ?_; refine op_ro rfl rfl (by exact c_sealReadOk s hsk (hG.mono (by exact kS))) ?_) | (refine op_load_id ?_; refine op_val rfl (by exact val_load1 rfl rfl rfl (by exact kM) hgq) ?_) | (refine go_append ?_; refine op_appendRow (sl := ⟨_, _, _⟩) (sx := ⟨_, _, _⟩) rfl rfl rfl rfl rfl rfl rfl rfl rfl (hin) (by exact kE) (SliceAt.one (E := encSeal) (x := s) (by exact kM) rfl) (by (simp only [List.length_cons, List.length_nil, List.length_take, lim]; omega)) ?_; intro sl' es' hrow' hst') | refine op_val rfl (by exact kStr) ?_) | (refine WR_id ?_; refine WR_pure rfl rfl rfl (by exact kStr) ?_) | (refine WR_id ?_; refine WR_load rfl rfl rfl (by exact val_load1 rfl rfl rfl (by exact kM) hgq) (by exact kS) ?_) | refine nY ?_ | refine WA_alt ?_ ?_ | refine nR ?_ | refine WC_drawL (id := 5) (ops := o7x5T12) r7x5T12 (by kernel_rfl) rfl ?_ | refine WC_cond rfl (fun hc => ?_) (fun hc => ?_)))
    obtain ⟨a9, n9, c9⟩ := sl'
    exact loopQ_next ⟨mz - 1, _, _, by omega, by exact kQ, by exact kL, k + 1, a9, n9, c9, es', by omega, rfl, rfl, by (rw [take_next hy]; exact hrow')⟩
  · have hin2 : Row encSeal 39 ⟨a2, n2, c2⟩ x.seals eo := by rw [List.take_of_length_le (by omega)] at hin; exact hin
    have hms : MsgAt (eo ++ ((bl, cellsO (ls.map St) 9) :: L)) x ⟨a2, n2, c2⟩ := hin2.atL (fun e he => List.mem_append_left _ he)
    have hsl3 : x.seals.length ≤ lim := by simp only [lim]; omega
    (repeat' (first | refine nI ?_ | (refine nA ?_; intro _) | (refine nW ?_; first | (refine op_call_id ?_; refine op_ro rfl rfl (by first | exact (c_msgOk x ⟨a2, n2, c2⟩ (hms.mono (by exact kS))).eq (congrArg B hx) | exact (c_msgText x ⟨a2, n2, c2⟩ (hms.mono (by exact kS)) (hG.g.mono (by exact kS))).eq (congrArg St htext)) ?_) | (refine op_call_id ?_; refine op_call rfl (c_msgCopied x ⟨a2, n2, c2⟩ (hms.mono (by exact kS)) hsl3) rfl ?_; rintro _ _ ⟨s', es', rfl, hr', rfl⟩) | refine op_val rfl (by exact kStr) ?_) | (refine WR_id ?_; refine WR_pure rfl rfl rfl (by exact kStr) ?_) | refine nY ?_ | refine WA_alt ?_ ?_ | refine nR ?_ | refine WC_drawL (id := 5) (ops := o7x5T12) r7x5T12 (by kernel_rfl) rfl ?_ | refine WC_cond rfl (fun hc => ?_) (fun hc => ?_)))
    refine ret_ret (by exact kR) ?_; exact ⟨es' ++ L, by exact kP, s', es', rfl, hr', rfl⟩
theorem c_msgReadNo {L : List Ent} (text : Str) (hno : ∀ x, msgOk x = true → msgText x ≠ text) (htl : text.length ≤ 4000000000) (hG : GlobM L) : RO Tryz.prog 7 [St text] L (.tuple [msgV Msg.zero Sl.nil, B false].toArray) := by
  obtain ⟨ls, hls⟩ : ∃ ls, cutAt 10 text = ls := ⟨_, rfl⟩
  have hl1 : 0 < ls.length := by rw [← hls]; exact List.length_pos_iff.2 (cutAt_ne 10 text)
  have hlb : ls.length ≤ text.length + 1 := by
    rw [← hls, cutAt_len]
    have := List.count_le_length (a := (10 : UInt8)) (l := text)
    omega
  have hbg : ls.length ≤ big := by simp only [big]; omega
  have hpc : ∀ w ∈ ls, w.length ≤ text.length := fun w hw => cutAt_pieces 10 text w (by rw [hls]; exact hw)
  have hsplit1 : ∀ {L : List Ent}, Glob L → Tri Tryz.prog 19 [St text, St [10]] L (fun v L' => ∃ b, v = .slice (some ⟨b, 0, none⟩) ls.length ls.length ∧ L' = (b, cellsO (ls.map St) 9) :: L) := fun {L} hG => hls ▸ c_split 10 text (by omega) hG
  obtain ⟨d0, hd0⟩ : ∃ d0, ls[0]? = some d0 := ⟨ls[0], by simp [hl1]⟩
  have hd0l := hpc d0 (List.mem_of_getElem? hd0)
  obtain ⟨ws, hws⟩ : ∃ ws, cutAt 32 d0 = ws := ⟨_, rfl⟩
  have hwb : ws.length ≤ big := by
    rw [← hws, cutAt_len]
    have := List.count_le_length (a := (32 : UInt8)) (l := d0)
    simp only [big]; omega
  have hsplit2 : ∀ {L : List Ent}, Glob L → Tri Tryz.prog 19 [St d0, St [32]] L (fun v L' => ∃ b, v = .slice (some ⟨b, 0, none⟩) ws.length ws.length ∧ L' = (b, cellsO (ws.map St) 9) :: L) := fun {L} hG => hws ▸ c_split 32 d0 (by omega) hG
  have hlen : ∀ w ∈ ws, w.length ≤ 281474976710656 := fun w hw => by
    have := cutAt_pieces 32 d0 w (by rw [hws]; exact hw)
    omega
  have hget0 : (ls.map St)[0 + (0 : Int).toNat * 1]? = some (St d0) := by
    show (ls.map St)[0]? = _
    rw [List.getElem?_map, hd0]; rfl
  obtain ⟨ln, hln⟩ : ∃ ln, (ls.take (if ls.length ≤ 2 then 1 else ls.length - 1)).drop 1 = ln := ⟨_, rfl⟩
  have hlnl : ln.length + 1 = if ls.length ≤ 2 then 1 else ls.length - 1 := by
    rw [← hln, List.length_drop, List.length_take]
    split <;> omega
  have hlne : (ls.take (ln.length + 1)).drop 1 = ln := by rw [hlnl]; exact hln
  have hlnle : ln.length + 1 ≤ ls.length := by
    rw [hlnl]; split <;> omega
  have hmax : (if (1 : Int) > (ls.length : Int) - 1 then (1 : Int) else (ls.length : Int) - 1) = ((ln.length + 1 : Nat) : Int) := by
    rw [hlnl]
    by_cases h2 : ls.length ≤ 2
    · rw [if_pos h2]
      by_cases h3 : ls.length = 1
      · rw [if_pos (by omega)]; rfl
      · rw [if_neg (by omega)]; omega
    · rw [if_neg h2, if_neg (by omega)]; omega
  clear hls hws
  cases hread : readN ws 4 with
  | none =>
    refine Tri.of Tryz.func7 rfl rfl Tryz.ntmps7 rfl rfl ?_
    (repeat' (first | refine nI ?_ | (refine nA ?_; intro _) | (refine nW ?_; first | (refine op_call_id ?_; refine op_call rfl (hsplit1 (hG.g.mono (by exact kS))) rfl ?_; rintro _ _ ⟨bl, rfl, rfl⟩) | refine op_val rfl (by exact kStr) ?_) | (refine WR_id ?_; refine WR_pure rfl rfl rfl (by exact kStr) ?_) | refine nY ?_ | refine WA_alt ?_ ?_ | refine WC_regionN [2] rfl ?_ | refine WC_block ?_ | refine WC_drawL (id := 5) (ops := o7x5T12) r7x5T12 (by kernel_rfl) rfl ?_ | refine WC_cond rfl (fun hc => ?_) (fun hc => ?_)))
    (repeat' (first | refine nI ?_ | (refine nA ?_; intro _) | (refine nW ?_; first | (refine op_call_id ?_; refine op_ro rfl rfl (by exact c_readNumbersNo ⟨_, _, _⟩ ws 4 (strAt rfl (by exact kM) hwb) hread (by omega) hlen (hG.mono (by exact kS))) ?_) | (refine op_load_id ?_; refine op_val rfl (by exact val_load1 rfl rfl rfl (by exact kM) hget0) ?_) | (refine op_call_id ?_; refine op_call rfl (hsplit2 (hG.g.mono (by exact kS))) rfl ?_; rintro _ _ ⟨bw, rfl, rfl⟩) | refine op_val rfl (by exact kStr) ?_) | (refine WR_id ?_; refine WR_pure rfl rfl rfl (by exact kStr) ?_) | (refine WR_id ?_; refine WR_load rfl rfl rfl (by exact val_load1 rfl rfl rfl (by exact kM) hget0) (by exact kS) ?_) | refine nY ?_ | refine WA_alt ?_ ?_ | refine nR ?_ | refine WC_drawL (id := 5) (ops := o7x5T12) r7x5T12 (by kernel_rfl) rfl ?_ | refine WC_cond rfl (fun hc => ?_) (fun hc => ?_)))
    refine ro_ret (by exact kR) (by exact kL) ?_; rfl
  | some ns =>
    obtain ⟨n0, n1, n2, n3, rfl⟩ := numsOf4 (readN_len hread)
    by_cases h200 : 200 < text.length
    · refine Tri.of Tryz.func7 rfl rfl Tryz.ntmps7 rfl rfl ?_
      (repeat' (first | refine nI ?_ | (refine nA ?_; intro _) | (refine nW ?_; first | (refine op_call_id ?_; refine op_call rfl (hsplit1 (hG.g.mono (by exact kS))) rfl ?_; rintro _ _ ⟨bl, rfl, rfl⟩) | refine op_val rfl (by exact kStr) ?_) | (refine WR_id ?_; refine WR_pure rfl rfl rfl (by exact kStr) ?_) | refine nY ?_ | refine WA_alt ?_ ?_ | refine WC_regionN [2] rfl ?_ | refine WC_block ?_ | refine WC_drawL (id := 5) (ops := o7x5T12) r7x5T12 (by kernel_rfl) rfl ?_ | refine WC_cond rfl (fun hc => ?_) (fun hc => ?_)))
      (repeat' (first | refine nI ?_ | (refine nA ?_; intro _) | (refine nW ?_; first | (refine op_load_id ?_; refine op_val rfl (by exact val_load1 rfl rfl rfl (by exact kM) hget0) ?_) | (refine op_call_id ?_; refine op_call rfl (hsplit2 (hG.g.mono (by exact kS))) rfl ?_; rintro _ _ ⟨bw, rfl, rfl⟩) | (refine op_call_id ?_; refine op_call rfl (c_readNumbersOk ⟨_, _, _⟩ ws 4 [n0, n1, n2, n3] (strAt rfl (by exact kM) hwb) hread (by omega) hlen) rfl ?_; rintro _ _ ⟨⟨an, nn, cn⟩, en, rfl, hrn, rfl⟩) | refine op_val rfl (by exact kStr) ?_) | (refine WR_id ?_; refine WR_pure rfl rfl rfl (by exact kStr) ?_) | (refine WR_id ?_; refine WR_load rfl rfl rfl (by exact val_load1 rfl rfl rfl (by exact kM) hget0) (by exact kS) ?_) | refine nY ?_ | refine WA_alt ?_ ?_ | refine nR ?_ | refine WC_drawL (id := 5) (ops := o7x5T12) r7x5T12 (by kernel_rfl) rfl ?_ | refine WC_cond rfl (fun hc => ?_) (fun hc => ?_)))
      refine ro_ret (by exact kR) (by exact kL) ?_; rfl
    have hpl : ∀ w ∈ ln, w.length ≤ 200 := fun w hw => by
      have := hpc w (by rw [← hlne] at hw; exact List.mem_of_mem_take (List.mem_of_mem_drop hw))
      omega
    refine Tri.of Tryz.func7 rfl rfl Tryz.ntmps7 rfl rfl ?_
    (repeat' (first | refine nI ?_ | (refine nA ?_; intro _) | (refine nW ?_; first | (refine op_call_id ?_; refine op_call rfl (hsplit1 (hG.g.mono (by exact kS))) rfl ?_; rintro _ _ ⟨bl, rfl, rfl⟩) | refine op_val rfl (by exact kStr) ?_) | (refine WR_id ?_; refine WR_pure rfl rfl rfl (by exact kStr) ?_) | refine nY ?_ | refine WA_alt ?_ ?_ | refine WC_regionN [2] rfl ?_ | refine WC_block ?_ | refine WC_drawL (id := 5) (ops := o7x5T12) r7x5T12 (by kernel_rfl) rfl ?_ | refine WC_cond rfl (fun hc => ?_) (fun hc => ?_)))
    rename_i b2
    (repeat' (first | refine nI ?_ | (refine nA ?_; intro _) | (refine nW ?_; first | (refine op_load_id ?_; refine op_val rfl (by exact val_load1 rfl rfl rfl (by exact kM) hget0) ?_) | (refine op_call_id ?_; refine op_call rfl (hsplit2 (hG.g.mono (by exact kS))) rfl ?_; rintro _ _ ⟨bw, rfl, rfl⟩) | (refine op_call_id ?_; refine op_call rfl (c_readNumbersOk ⟨_, _, _⟩ ws 4 [n0, n1, n2, n3] (strAt rfl (by exact kM) hwb) hread (by omega) hlen) rfl ?_; rintro _ _ ⟨⟨an, nn, cn⟩, en, rfl, hrn, rfl⟩) | refine op_val rfl (by exact kStr) ?_) | (refine WR_id ?_; refine WR_pure rfl rfl rfl (by exact kStr) ?_) | (refine WR_id ?_; refine WR_load rfl rfl rfl (by exact val_load1 rfl rfl rfl (by exact kM) hget0) (by exact kS) ?_) | refine nY ?_ | refine WA_alt ?_ ?_ | refine nR ?_ | refine WC_cond rfl (fun hc => ?_) (fun hc => ?_)))
    obtain ⟨g, cap, rest, hsl, rfl, h3, h4, h5⟩ := hrn.block (by simp)
    replace hsl : (⟨an, nn, cn⟩ : Sl) = ⟨some ⟨g, 0, none⟩, 4, cap⟩ := hsl
    cases hsl
    obtain ⟨g0, g1, g2, g3⟩ := get4 n0 n1 n2 n3 rest
    (repeat' (first | (refine nW ?_; refine op_val rfl (by exact val_maxE rfl rfl hmax) ?_) | (refine WR_id ?_; refine WR_pure rfl rfl rfl (by exact val_maxE rfl rfl hmax) ?_) | refine nI ?_ | (refine nA ?_; intro _) | (refine nW ?_; first | (refine op_load_id ?_; refine op_val rfl (by first | exact val_load1 rfl rfl rfl (by exact kM) g0 | exact val_load1 rfl rfl rfl (by exact kM) g1 | exact val_load1 rfl rfl rfl (by exact kM) g2 | exact val_load1 rfl rfl rfl (by exact kM) g3) ?_) | refine op_val rfl (by exact kStr) ?_) | (refine WR_id ?_; refine WR_pure rfl rfl rfl (by exact kStr) ?_) | (refine WR_id ?_; refine WR_load rfl rfl rfl (by first | exact val_load1 rfl rfl rfl (by exact kM) g0 | exact val_load1 rfl rfl rfl (by exact kM) g1 | exact val_load1 rfl rfl rfl (by exact kM) g2 | exact val_load1 rfl rfl rfl (by exact kM) g3) (by exact kS) ?_) | refine nY ?_ | refine WA_alt ?_ ?_ | refine nR ?_ | refine WC_draw (id := 5) (ops := o7x5T12) ([(g, cellsO (encInt.row [n0, n1, n2, n3] ++ rest) 3)]) r7x5T12 (by kernel_rfl) rfl ?_ | refine WC_cond rfl (fun hc => ?_) (fun hc => ?_)))
    rename_i b7
    obtain ⟨o9, ho9⟩ : ∃ o9, cutA (some ⟨bl, 0, none⟩) (Int.toNat 1) ls.length 1 = some ⟨bl, o9, none⟩ := by
      unfold cutA
      split
      · exact ⟨_, rfl⟩
      · exact ⟨_, rfl⟩
    have hsat : SliceAt ((bl, cellsO (ls.map St) 9) :: L) encTx ⟨some ⟨bl, o9, none⟩, ln.length, ls.length - 1⟩ ln := by
      have h1 := SliceAt.drop (E := encTx) (k := 1) (SliceAt.take (E := encTx) (k := ln.length + 1) (strAt (L := (bl, cellsO (ls.map St) 9) :: L) (T := 9) (fr := (0, 0)) rfl List.mem_cons_self hbg) hlnle) (by rw [List.length_take]; omega)
      rw [hlne, show cutA (some ⟨bl, 0, none⟩) 1 ls.length encTx.sz = some ⟨bl, o9, none⟩ from ho9] at h1
      exact h1
    rw [ho9]
    refine WC_loop (fun mz Ez Mz => ∃ (k : Nat) (ms : List Seal) (a2 : Option Addr) (n2' c2 : Nat) (eo : List Ent), k + mz = (ln).length ∧ Ez = [(0, St text), (2, .pointer (some ⟨b2, 0, none⟩)), (7, .pointer (some ⟨b7, 0, none⟩)), (48, .slice (some ⟨bl, o9, none⟩) ln.length (ls.length - 1)), (49, I ln.length), (50, I k)] ∧ Mz = (b7, cellsO (msgC ⟨n0, n1, n2, n3, ms⟩ ⟨a2, n2', c2⟩) 24) :: (b2, cellsO (msgC Msg.zero Sl.nil) 24) :: (eo ++ ((bl, cellsO (ls.map St) 9) :: L)) ∧ (Row encSeal 39 ⟨a2, n2', c2⟩ ms eo ∧ ms.length = k)) (ln).length (by exact kQ) (by exact kL) ⟨0, [], none, 0, 0, [], by omega, rfl, rfl, by exact ⟨Row.nil, rfl⟩⟩ ?_
    rintro mz Ez Mz ⟨k, ms, a2, n2', c2, eo, hk, rfl, rfl, hin⟩
    rcases Nat.lt_or_ge k (ln).length with hlt | hge
    · obtain ⟨hrow0, hml⟩ := hin
      obtain ⟨line, hlk⟩ : ∃ y, ln[k]? = some y := ⟨ln[k], by simp [hlt]⟩
      have hpl1 := hpl line (List.mem_of_getElem? hlk)
      obtain ⟨bq, oq, cq, Tq, fq, haq, hmq, hgq⟩ := word_cell hsat hlk
      cases haq
      rcases seal_or (line := line) with ⟨s, hsk, hst⟩ | hnos
      · have hrd : ∀ {L : List Ent}, GlobM L → RO Tryz.prog 21 [St line] L (.tuple [sealV s, B true].toArray) := fun {L} hG => hst ▸ c_sealReadOk s hsk hG
        (repeat' (first | refine nI ?_ | (refine nA ?_; intro _) | (refine nW ?_; first | (refine op_call_id ?_; refine op_ro rfl rfl (by exact hrd (hG.mono (by exact kS))) ?_) | (refine op_load_id ?_; refine op_val rfl (by exact val_load1 rfl rfl rfl (by exact kM) hgq) ?_) | (refine go_append ?_; refine op_appendRow (sl := ⟨_, _, _⟩) (sx := ⟨_, _, _⟩) rfl rfl rfl rfl rfl rfl rfl rfl rfl (hrow0) (by exact kE) (SliceAt.one (E := encSeal) (x := s) (by exact kM) rfl) (by (simp only [List.length_cons, List.length_nil, lim]; omega)) ?_; intro sl' es' hrow' hst') | refine op_val rfl (by exact kStr) ?_) | (refine WR_id ?_; refine WR_pure rfl rfl rfl (by exact kStr) ?_) | (refine WR_id ?_; refine WR_load rfl rfl rfl (by exact val_load1 rfl rfl rfl (by exact kM) hgq) (by exact kS) ?_) | refine nY ?_ | refine WA_alt ?_ ?_ | refine nR ?_ | refine WC_drawL (id := 5) (ops := o7x5T12) r7x5T12 (by kernel_rfl) rfl ?_ | refine WC_cond rfl (fun hc => ?_) (fun hc => ?_)))
        obtain ⟨a9, n9, c9⟩ := sl'
        exact loopQ_next ⟨mz - 1, _, _, by omega, by exact kQ, by exact kL, k + 1, ms ++ [s], a9, n9, c9, es', by omega, rfl, rfl, by exact ⟨hrow', by rw [List.length_append, List.length_cons, List.length_nil, hml]⟩⟩
      · (repeat' (first | refine nI ?_ | (refine nA ?_; intro _) | (refine nW ?_; first | (refine op_call_id ?_; refine op_ro rfl rfl (by exact c_sealReadNo line hnos (by omega) (hG.mono (by exact kS))) ?_) | (refine op_load_id ?_; refine op_val rfl (by exact val_load1 rfl rfl rfl (by exact kM) hgq) ?_) | refine op_val rfl (by exact kStr) ?_) | (refine WR_id ?_; refine WR_pure rfl rfl rfl (by exact kStr) ?_) | (refine WR_id ?_; refine WR_load rfl rfl rfl (by exact val_load1 rfl rfl rfl (by exact kM) hgq) (by exact kS) ?_) | refine nY ?_ | refine WA_alt ?_ ?_ | refine nR ?_ | refine WC_drawL (id := 5) (ops := o7x5T12) r7x5T12 (by kernel_rfl) rfl ?_ | refine WC_cond rfl (fun hc => ?_) (fun hc => ?_)))
        refine ro_ret (by exact kR) (by exact kL) ?_; rfl
    · obtain ⟨hrow0, hml⟩ := hin
      have hms : MsgAt (eo ++ ((bl, cellsO (ls.map St) 9) :: L)) ⟨n0, n1, n2, n3, ms⟩ ⟨a2, n2', c2⟩ := hrow0.atL (fun e he => List.mem_append_left _ he)
      cases hok : msgOk ⟨n0, n1, n2, n3, ms⟩ with
      | false =>
        (repeat' (first | refine nI ?_ | (refine nA ?_; intro _) | (refine nW ?_; first | (refine op_call_id ?_; refine op_ro rfl rfl (by exact (c_msgOk ⟨n0, n1, n2, n3, ms⟩ ⟨a2, n2', c2⟩ (hms.mono (by exact kS))).eq (congrArg B hok)) ?_) | refine op_val rfl (by exact kStr) ?_) | (refine WR_id ?_; refine WR_pure rfl rfl rfl (by exact kStr) ?_) | refine nY ?_ | refine WA_alt ?_ ?_ | refine nR ?_ | refine WC_drawL (id := 5) (ops := o7x5T12) r7x5T12 (by kernel_rfl) rfl ?_ | refine WC_cond rfl (fun hc => ?_) (fun hc => ?_)))
        refine ro_ret (by exact kR) (by exact kL) ?_; rfl
      | true =>
        have htx := hno _ hok
        obtain ⟨st, hst⟩ : ∃ st, msgText ⟨n0, n1, n2, n3, ms⟩ = st := ⟨_, rfl⟩
        rw [hst] at htx
        (repeat' (first | refine nI ?_ | (refine nA ?_; intro _) | (refine nW ?_; first | (refine op_call_id ?_; refine op_ro rfl rfl (by first | exact (c_msgOk ⟨n0, n1, n2, n3, ms⟩ ⟨a2, n2', c2⟩ (hms.mono (by exact kS))).eq (congrArg B hok) | exact (c_msgText ⟨n0, n1, n2, n3, ms⟩ ⟨a2, n2', c2⟩ (hms.mono (by exact kS)) (hG.g.mono (by exact kS))).eq (congrArg St hst)) ?_) | refine op_val rfl (by exact kStr) ?_) | (refine WR_id ?_; refine WR_pure rfl rfl rfl (by exact kStr) ?_) | refine nY ?_ | refine WA_alt ?_ ?_ | refine nR ?_ | refine WC_drawL (id := 5) (ops := o7x5T12) r7x5T12 (by kernel_rfl) rfl ?_ | refine WC_cond rfl (fun hc => ?_) (fun hc => ?_)))
        refine ro_ret (by exact kR) (by exact kL) ?_; rfl
end Go.Proofs.YtoledfhjmdpihaaGreatDoor
/- The reference: texts of seals and words read back. -/
set_option linter.unusedVariables false
set_option linter.unusedSectionVars false
set_option linter.unusedSimpArgs false
namespace Go.Proofs.YtoledfhjmdpihaaGreatDoor
open Go Go.Proofs Go.Proofs.YtoledfhjmdpihaaGreatDoor.VE
attribute [local irreducible] Val Op1 WO WR WA WC seqQ blockQ loopQ retQ
noncomputable def o16x11T13 : Array Oper := cops (cl (cl (cl (cr (cl (cl (cr (cl (cr (cr (cr (cr (cr (cr (codeOf Tryz.f16)))))))))))))))
noncomputable def o16x6T13 : Array Oper := cops (cl (cr (cr (cr (cr (codeOf Tryz.f16))))))
noncomputable def r16x11T13 : Run := (.st 0 0 (.st 1 0 (.st 2 0 (.st 3 1 (.st 4 0 (.st 5 0 (.st 6 1 (.st 7 0 .done))))))))
noncomputable def r16x6T13 : Run := (.st 0 0 (.st 1 0 (.st 2 1 (.st 4 0 (.st 5 0 (.st 6 1 (.st 8 0 (.st 9 0 (.st 10 1 (.st 12 0 (.st 13 0 (.st 14 1 (.st 16 0 (.st 17 0 (.st 18 1 (.st 20 0 (.st 21 0 (.st 22 1 (.alt (.st 3 2 (.alt (.st 7 2 (.alt (.st 11 2 (.alt (.st 15 2 (.alt (.st 19 2 (.alt (.st 23 3 (.st 24 0 (.st 25 3 (.st 26 3 .done)))) (.st 25 2 (.st 23 3 (.st 24 0 (.st 26 3 .done)))))) (.st 25 2 (.st 19 2 (.st 23 3 (.st 24 0 (.st 26 3 .done))))))) (.st 25 2 (.st 15 2 (.st 19 2 (.st 23 3 (.st 24 0 (.st 26 3 .done)))))))) (.st 25 2 (.st 11 2 (.st 15 2 (.st 19 2 (.st 23 3 (.st 24 0 (.st 26 3 .done))))))))) (.st 25 2 (.st 7 2 (.st 11 2 (.st 15 2 (.st 19 2 (.st 23 3 (.st 24 0 (.st 26 3 .done)))))))))) (.st 25 2 (.st 3 2 (.st 7 2 (.st 11 2 (.st 15 2 (.st 19 2 (.st 23 3 (.st 24 0 (.st 26 3 .done))))))))))))))))))))))))))))
set_option maxHeartbeats 8000000
theorem words7 {ws : List Str} (h : ws.length = 7) : ∃ w0 w1 w2 w3 w4 w5 w6, ws = [w0, w1, w2, w3, w4, w5, w6] := by
  match ws, h with
  | [w0, w1, w2, w3, w4, w5, w6], _ => exact ⟨w0, w1, w2, w3, w4, w5, w6, rfl⟩
theorem words4 {ws : List Str} (h : ws.length = 4) : ∃ w0 w1 w2 w3, ws = [w0, w1, w2, w3] := by
  match ws, h with
  | [w0, w1, w2, w3], _ => exact ⟨w0, w1, w2, w3, rfl⟩
theorem names4 : ∀ k : Nat, k < 4 → [St [], St [116, 105, 99, 107, 101, 116], St [112, 97, 114, 116], St [97, 117, 116, 104], St [98, 97, 99, 107]][0 + ((k : Int) + 1).toNat * 1]? = some (St (kindName ((k : Int) + 1))) := by
  intro k hk
  have e : k = 0 ∨ k = 1 ∨ k = 2 ∨ k = 3 := by omega
  rcases e with rfl | rfl | rfl | rfl <;> rfl
theorem c_sSealRead {L : List Ent} (text : Str) (hl : text.length ≤ 1900) : Tri Tryz.prog 16 [St text] L (fun v L' => ∃ s b, v = .tuple [sealV s, B b].toArray ∧ (∀ x, sealOk x = true → sealText x = text → s = x ∧ b = true) ∧ L' = L) := by
  by_cases h60 : 60 < text.length
  · refine Tri.of Tryz.func16 rfl rfl Tryz.ntmps16 rfl rfl ?_
    (repeat' (first | refine nI ?_ | (refine nA ?_; intro _) | (refine nW ?_; first | refine op_val rfl (by exact kStr) ?_) | (refine WR_id ?_; refine WR_pure rfl rfl rfl (by exact kStr) ?_) | refine nY ?_ | refine WA_alt ?_ ?_ | refine nR ?_ | refine WC_drawL (id := 6) (ops := o16x6T13) r16x6T13 (by kernel_rfl) rfl ?_ | refine WC_drawL (id := 11) (ops := o16x11T13) r16x11T13 (by kernel_rfl) rfl ?_ | refine WC_cond rfl (fun hc => ?_) (fun hc => ?_)))
    refine ret_ret (by exact kR) ?_; exact ⟨L, by exact kP, Seal.zero, false, rfl, fun x hx ht => absurd (sealText_len60 hx) (by rw [ht]; omega), rfl⟩
  obtain ⟨ws, hws⟩ : ∃ ws, cutAt 32 text = ws := ⟨_, rfl⟩
  have hcut : ∀ {L : List Ent}, Tri Tryz.prog 14 [St text, u8 32] L (fun v L' => ∃ sl es, v = Sl.v sl ∧ Row encTx 9 sl ws es ∧ L' = es ++ L) := fun {L} => hws ▸ c_l1Cut text 32 hl
  by_cases h7 : ws.length = 7
  rotate_left
  · have hno : ∀ x, sealOk x = true → sealText x = text → Seal.zero = x ∧ false = true := fun x hx ht => by
      have := sealText_cut hx
      rw [ht, hws] at this
      exact absurd (by rw [this]; rfl) h7
    refine Tri.of Tryz.func16 rfl rfl Tryz.ntmps16 rfl rfl ?_
    (repeat' (first | refine nI ?_ | (refine nA ?_; intro _) | (refine nW ?_; first | (refine op_call_id ?_; refine op_call rfl (hcut) rfl ?_; rintro _ _ ⟨⟨aw, nw, cw⟩, ew, rfl, hrw, rfl⟩) | refine op_val rfl (by exact kStr) ?_) | (refine WR_id ?_; refine WR_pure rfl rfl rfl (by exact kStr) ?_) | refine nY ?_ | refine WA_alt ?_ ?_ | refine WC_regionN [4] rfl ?_ | refine WC_block ?_ | refine WC_drawL (id := 6) (ops := o16x6T13) r16x6T13 (by kernel_rfl) rfl ?_ | refine WC_drawL (id := 11) (ops := o16x11T13) r16x11T13 (by kernel_rfl) rfl ?_ | refine WC_cond rfl (fun hc => ?_) (fun hc => ?_)))
    have hnw := hrw.n
    dsimp only at hnw
    subst hnw
    (repeat' (first | refine nI ?_ | (refine nA ?_; intro _) | (refine nW ?_; first | refine op_val rfl (by exact kStr) ?_) | (refine WR_id ?_; refine WR_pure rfl rfl rfl (by exact kStr) ?_) | refine nY ?_ | refine WA_alt ?_ ?_ | refine nR ?_ | refine WC_drawL (id := 6) (ops := o16x6T13) r16x6T13 (by kernel_rfl) rfl ?_ | refine WC_drawL (id := 11) (ops := o16x11T13) r16x11T13 (by kernel_rfl) rfl ?_ | refine WC_cond rfl (fun hc => ?_) (fun hc => ?_)))
    refine ret_ret (by exact kR) ?_; exact ⟨L, by exact kP, Seal.zero, false, rfl, hno, rfl⟩
  have hpc : ∀ w ∈ ws, w.length ≤ 1000000 := fun w hw => by
    have := cutAt_pieces 32 text w (by rw [hws]; exact hw)
    omega
  obtain ⟨w0, w1, w2, w3, w4, w5, w6, rfl⟩ := words7 h7
  have p1 := hpc w1 (by simp)
  have p2 := hpc w2 (by simp)
  have p3 := hpc w3 (by simp)
  have p4 := hpc w4 (by simp)
  have p5 := hpc w5 (by simp)
  have p6 := hpc w6 (by simp)
  have hx7 : ∀ x, sealOk x = true → sealText x = text → w0 = kindName x.kind ∧ numOf w1 = x.key ∧ numOf w2 = x.a ∧ numOf w3 = x.b ∧ numOf w4 = x.c ∧ numOf w5 = x.d ∧ numOf w6 = x.e := fun x hx ht => by
    have h1 := sealText_cut hx
    rw [ht, hws] at h1
    have hd := up999 (sealOk_dig hx)
    simp only [sealNs, List.map_cons, List.map_nil, List.cons.injEq, and_true] at h1
    obtain ⟨e0, e1, e2, e3, e4, e5, e6⟩ := h1
    have nd : ∀ n ∈ sealNs x, numOf (dec n) = n := fun n hn => (dig (hd n hn).1 (hd n hn).2).num
    exact ⟨e0, by rw [e1]; exact nd _ (by simp), by rw [e2]; exact nd _ (by simp), by rw [e3]; exact nd _ (by simp), by rw [e4]; exact nd _ (by simp), by rw [e5]; exact nd _ (by simp), by rw [e6]; exact nd _ (by simp)⟩
  obtain ⟨v1, hv1⟩ : ∃ v, numOf w1 = v := ⟨_, rfl⟩
  obtain ⟨v2, hv2⟩ : ∃ v, numOf w2 = v := ⟨_, rfl⟩
  obtain ⟨v3, hv3⟩ : ∃ v, numOf w3 = v := ⟨_, rfl⟩
  obtain ⟨v4, hv4⟩ : ∃ v, numOf w4 = v := ⟨_, rfl⟩
  obtain ⟨v5, hv5⟩ : ∃ v, numOf w5 = v := ⟨_, rfl⟩
  obtain ⟨v6, hv6⟩ : ∃ v, numOf w6 = v := ⟨_, rfl⟩
  rw [hv1, hv2, hv3, hv4, hv5, hv6] at hx7
  clear hws hpc
  refine Tri.of Tryz.func16 rfl rfl Tryz.ntmps16 rfl rfl ?_
  (repeat' (first | refine nI ?_ | (refine nA ?_; intro _) | (refine nW ?_; first | (refine op_call_id ?_; refine op_call rfl (hcut) rfl ?_; rintro _ _ ⟨⟨aw, nw, cw⟩, ew, rfl, hrw, rfl⟩) | refine op_val rfl (by exact kStr) ?_) | (refine WR_id ?_; refine WR_pure rfl rfl rfl (by exact kStr) ?_) | refine nY ?_ | refine WA_alt ?_ ?_ | refine WC_regionN [4] rfl ?_ | refine WC_block ?_ | refine WC_drawL (id := 6) (ops := o16x6T13) r16x6T13 (by kernel_rfl) rfl ?_ | refine WC_drawL (id := 11) (ops := o16x11T13) r16x11T13 (by kernel_rfl) rfl ?_ | refine WC_cond rfl (fun hc => ?_) (fun hc => ?_)))
  rename_i b2
  obtain ⟨g, cap, rest, hsl, rfl, h3, h4, h5⟩ := hrw.block (by simp)
  replace hsl : (⟨aw, nw, cw⟩ : Sl) = ⟨some ⟨g, 0, none⟩, 7, cap⟩ := hsl
  cases hsl
  have g0 : (encTx.row [w0, w1, w2, w3, w4, w5, w6] ++ rest)[0 + (0 : Int).toNat * 1]? = some (St w0) := rfl
  have g1 : (encTx.row [w0, w1, w2, w3, w4, w5, w6] ++ rest)[0 + (1 : Int).toNat * 1]? = some (St w1) := rfl
  have g2 : (encTx.row [w0, w1, w2, w3, w4, w5, w6] ++ rest)[0 + (2 : Int).toNat * 1]? = some (St w2) := rfl
  have g3 : (encTx.row [w0, w1, w2, w3, w4, w5, w6] ++ rest)[0 + (3 : Int).toNat * 1]? = some (St w3) := rfl
  have g4 : (encTx.row [w0, w1, w2, w3, w4, w5, w6] ++ rest)[0 + (4 : Int).toNat * 1]? = some (St w4) := rfl
  have g5 : (encTx.row [w0, w1, w2, w3, w4, w5, w6] ++ rest)[0 + (5 : Int).toNat * 1]? = some (St w5) := rfl
  have g6 : (encTx.row [w0, w1, w2, w3, w4, w5, w6] ++ rest)[0 + (6 : Int).toNat * 1]? = some (St w6) := rfl
  (repeat' (first | refine nI ?_ | (refine nA ?_; intro _) | (refine nW ?_; first | refine op_val rfl (by exact kStr) ?_) | (refine WR_id ?_; refine WR_pure rfl rfl rfl (by exact kStr) ?_) | refine nY ?_ | refine WA_alt ?_ ?_ | refine nR ?_ | refine WC_drawL (id := 11) (ops := o16x11T13) r16x11T13 (by kernel_rfl) rfl ?_ | refine WC_cond rfl (fun hc => ?_) (fun hc => ?_)))
  refine WC_cut (X := Nat) (fun b5 => [(0, St text), (2, .pointer (some ⟨b2, 0, none⟩)), (4, .slice (some ⟨g, 0, none⟩) 7 cw), (5, .pointer (some ⟨b5, 0, none⟩))]) (fun b5 => (b5, cellsO (sealC ⟨v1, 0, v2, v3, v4, v5, v6⟩) 39) :: (b2, cellsO (sealC Seal.zero) 39) :: (g, cellsO (encTx.row [w0, w1, w2, w3, w4, w5, w6] ++ rest) 9) :: L) ?_ ?_
  · (repeat' (first | refine nI ?_ | (refine nA ?_; intro _) | (refine nW ?_; first | (refine op_call_id ?_; refine op_ro rfl rfl (by first | exact (c_l1Dec w1 p1).eq (congrArg I hv1) | exact (c_l1Dec w2 p2).eq (congrArg I hv2) | exact (c_l1Dec w3 p3).eq (congrArg I hv3) | exact (c_l1Dec w4 p4).eq (congrArg I hv4) | exact (c_l1Dec w5 p5).eq (congrArg I hv5) | exact (c_l1Dec w6 p6).eq (congrArg I hv6)) ?_) | (refine op_load_id ?_; refine op_val rfl (by first | exact val_load1 rfl rfl rfl (by exact kM) g1 | exact val_load1 rfl rfl rfl (by exact kM) g2 | exact val_load1 rfl rfl rfl (by exact kM) g3 | exact val_load1 rfl rfl rfl (by exact kM) g4 | exact val_load1 rfl rfl rfl (by exact kM) g5 | exact val_load1 rfl rfl rfl (by exact kM) g6) ?_) | refine op_val rfl (by exact kStr) ?_) | (refine WR_id ?_; refine WR_pure rfl rfl rfl (by exact kStr) ?_) | (refine WR_id ?_; refine WR_load rfl rfl rfl (by first | exact val_load1 rfl rfl rfl (by exact kM) g1 | exact val_load1 rfl rfl rfl (by exact kM) g2 | exact val_load1 rfl rfl rfl (by exact kM) g3 | exact val_load1 rfl rfl rfl (by exact kM) g4 | exact val_load1 rfl rfl rfl (by exact kM) g5 | exact val_load1 rfl rfl rfl (by exact kM) g6) (by exact kS) ?_) | refine nY ?_ | refine WA_alt ?_ ?_ | refine nR ?_ | refine WC_draw (id := 6) (ops := o16x6T13) ([(g, cellsO (encTx.row [w0, w1, w2, w3, w4, w5, w6] ++ rest) 9)]) r16x6T13 (by kernel_rfl) rfl ?_ | refine WC_drawL (id := 11) (ops := o16x11T13) r16x11T13 (by kernel_rfl) rfl ?_ | refine WC_cond rfl (fun hc => ?_) (fun hc => ?_)))
    all_goals exact ⟨rfl, _, by exact kQ, by exact kL⟩
  intro b5
  try dsimp only
  (repeat' (first | refine nI ?_ | (refine nA ?_; intro _) | (refine nW ?_; first | (refine op_call_id ?_; refine op_call rfl (c_l1Names) rfl ?_; rintro _ _ ⟨bn, rfl, rfl⟩) | refine op_val rfl (by exact kStr) ?_) | (refine WR_id ?_; refine WR_pure rfl rfl rfl (by exact kStr) ?_) | refine nY ?_ | refine WA_alt ?_ ?_ | refine nR ?_ | refine WC_drawL (id := 6) (ops := o16x6T13) r16x6T13 (by kernel_rfl) rfl ?_ | refine WC_drawL (id := 11) (ops := o16x11T13) r16x11T13 (by kernel_rfl) rfl ?_ | refine WC_cond rfl (fun hc => ?_) (fun hc => ?_)))
  obtain ⟨xs, hxl⟩ : ∃ xs : List Nat, xs.length = 4 := ⟨List.range 4, List.length_range⟩
  refine WC_loop (fun mz Ez Mz => ∃ (k : Nat) (j : Int), k + mz = (xs).length ∧ Ez = [(0, St text), (2, .pointer (some ⟨b2, 0, none⟩)), (4, .slice (some ⟨g, 0, none⟩) 7 cw), (5, .pointer (some ⟨b5, 0, none⟩)), (6, .slice (some ⟨bn, 0, none⟩) 5 5), (7, I ((k : Int) + 1))] ∧ Mz = (b5, cellsO (sealC ⟨v1, j, v2, v3, v4, v5, v6⟩) 39) :: (b2, cellsO (sealC Seal.zero) 39) :: (bn, cellsO [St [], St [116, 105, 99, 107, 101, 116], St [112, 97, 114, 116], St [97, 117, 116, 104], St [98, 97, 99, 107]] 9) :: (g, cellsO (encTx.row [w0, w1, w2, w3, w4, w5, w6] ++ rest) 9) :: L ∧ (∀ i : Int, 1 ≤ i → i ≤ (k : Int) → kindName i = w0 → j = i)) (xs).length (by exact kQ) (by exact kL) ⟨0, 0, by omega, rfl, rfl, by exact fun i h1 h2 => absurd h1 (by omega)⟩ ?_
  rintro mz Ez Mz ⟨k, j, hk, rfl, rfl, hin⟩
  rcases Nat.lt_or_ge k (xs).length with hlt | hge
  · have hnk := names4 k (by omega)
    by_cases heq : kindName ((k : Int) + 1) = w0
    · (repeat' (first | refine nI ?_ | (refine nA ?_; intro _) | (refine nW ?_; first | (refine op_load_id ?_; refine op_val rfl (by first | exact val_load1 rfl rfl rfl (by exact kM) hnk | exact val_load1 rfl rfl rfl (by exact kM) g0) ?_) | refine op_val rfl (by exact kStr) ?_) | (refine WR_id ?_; refine WR_pure rfl rfl rfl (by exact kStr) ?_) | (refine WR_id ?_; refine WR_load rfl rfl rfl (by first | exact val_load1 rfl rfl rfl (by exact kM) hnk | exact val_load1 rfl rfl rfl (by exact kM) g0) (by exact kS) ?_) | refine nY ?_ | refine WA_alt ?_ ?_ | refine nR ?_ | refine WC_drawL (id := 6) (ops := o16x6T13) r16x6T13 (by kernel_rfl) rfl ?_ | refine WC_draw (id := 11) (ops := o16x11T13) ([(bn, cellsO [St [], St [116, 105, 99, 107, 101, 116], St [112, 97, 114, 116], St [97, 117, 116, 104], St [98, 97, 99, 107]] 9), (g, cellsO (encTx.row [w0, w1, w2, w3, w4, w5, w6] ++ rest) 9)]) r16x11T13 (by kernel_rfl) rfl ?_ | refine WC_cond rfl (fun hc => ?_) (fun hc => ?_)))
      exact loopQ_next ⟨mz - 1, _, _, by omega, by exact kQ, by exact kL, k + 1, (k : Int) + 1, by omega, rfl, rfl, by (intro i h1 h2 h3; by_cases hi : i = (k : Int) + 1; exact hi.symm; exact absurd (kindName_inj (by omega) (by omega) (h3.trans heq.symm)) hi)⟩
    · (repeat' (first | refine nI ?_ | (refine nA ?_; intro _) | (refine nW ?_; first | (refine op_load_id ?_; refine op_val rfl (by first | exact val_load1 rfl rfl rfl (by exact kM) hnk | exact val_load1 rfl rfl rfl (by exact kM) g0) ?_) | refine op_val rfl (by exact kStr) ?_) | (refine WR_id ?_; refine WR_pure rfl rfl rfl (by exact kStr) ?_) | (refine WR_id ?_; refine WR_load rfl rfl rfl (by first | exact val_load1 rfl rfl rfl (by exact kM) hnk | exact val_load1 rfl rfl rfl (by exact kM) g0) (by exact kS) ?_) | refine nY ?_ | refine WA_alt ?_ ?_ | refine nR ?_ | refine WC_drawL (id := 6) (ops := o16x6T13) r16x6T13 (by kernel_rfl) rfl ?_ | refine WC_draw (id := 11) (ops := o16x11T13) ([(bn, cellsO [St [], St [116, 105, 99, 107, 101, 116], St [112, 97, 114, 116], St [97, 117, 116, 104], St [98, 97, 99, 107]] 9), (g, cellsO (encTx.row [w0, w1, w2, w3, w4, w5, w6] ++ rest) 9)]) r16x11T13 (by kernel_rfl) rfl ?_ | refine WC_cond rfl (fun hc => ?_) (fun hc => ?_)))
      exact loopQ_next ⟨mz - 1, _, _, by omega, by exact kQ, by exact kL, k + 1, j, by omega, rfl, rfl, by (intro i h1 h2 h3; by_cases hi : i = (k : Int) + 1; exact absurd (hi ▸ h3) heq; exact hin i h1 (by omega) h3)⟩
  · have hsx : ∀ x, sealOk x = true → sealText x = text → (⟨v1, j, v2, v3, v4, v5, v6⟩ : Seal) = x := fun x hx ht => by
      obtain ⟨e0, e1, e2, e3, e4, e5, e6⟩ := hx7 x hx ht
      have hk := sealOk_kind4 hx
      have hj := hin x.kind (by omega) (by omega) e0.symm
      rw [e1, e2, e3, e4, e5, e6, hj]
    obtain ⟨st, hst⟩ : ∃ st, sealText ⟨v1, j, v2, v3, v4, v5, v6⟩ = st := ⟨_, rfl⟩
    by_cases htx : st = text
    · (repeat' (first | refine nI ?_ | (refine nA ?_; intro _) | (refine nW ?_; first | (refine op_call_id ?_; refine op_ro rfl rfl (by exact (c_sSealText ⟨v1, j, v2, v3, v4, v5, v6⟩).eq (congrArg St hst)) ?_) | refine op_val rfl (by exact kStr) ?_) | (refine WR_id ?_; refine WR_pure rfl rfl rfl (by exact kStr) ?_) | refine nY ?_ | refine WA_alt ?_ ?_ | refine nR ?_ | refine WC_drawL (id := 6) (ops := o16x6T13) r16x6T13 (by kernel_rfl) rfl ?_ | refine WC_drawL (id := 11) (ops := o16x11T13) r16x11T13 (by kernel_rfl) rfl ?_ | refine WC_cond rfl (fun hc => ?_) (fun hc => ?_)))
      refine ret_ret (by exact kR) ?_; exact ⟨L, by exact kP, ⟨v1, j, v2, v3, v4, v5, v6⟩, true, rfl, fun x hx ht => ⟨hsx x hx ht, rfl⟩, rfl⟩
    · (repeat' (first | refine nI ?_ | (refine nA ?_; intro _) | (refine nW ?_; first | (refine op_call_id ?_; refine op_ro rfl rfl (by exact (c_sSealText ⟨v1, j, v2, v3, v4, v5, v6⟩).eq (congrArg St hst)) ?_) | refine op_val rfl (by exact kStr) ?_) | (refine WR_id ?_; refine WR_pure rfl rfl rfl (by exact kStr) ?_) | refine nY ?_ | refine WA_alt ?_ ?_ | refine nR ?_ | refine WC_drawL (id := 6) (ops := o16x6T13) r16x6T13 (by kernel_rfl) rfl ?_ | refine WC_drawL (id := 11) (ops := o16x11T13) r16x11T13 (by kernel_rfl) rfl ?_ | refine WC_cond rfl (fun hc => ?_) (fun hc => ?_)))
      refine ret_ret (by exact kR) ?_; exact ⟨L, by exact kP, Seal.zero, false, rfl, fun x hx ht => absurd (by rw [← hst, hsx x hx ht, ht]) htx, rfl⟩
end Go.Proofs.YtoledfhjmdpihaaGreatDoor
