/- A number of a line. -/
import Derived.Test.YtoledfhjmdpihaaGreatDoorA23
import Derived.Test.YtoledfhjmdpihaaGreatDoorA1
import Derived.Test.YtoledfhjmdpihaaGreatDoorA2
import Derived.Test.YtoledfhjmdpihaaGreatDoorA22
import Derived.Test.YtoledfhjmdpihaaGreatDoorA10
set_option linter.unusedVariables false
set_option linter.unusedSectionVars false
set_option linter.unusedSimpArgs false
namespace Go.Proofs.YtoledfhjmdpihaaGreatDoor
open Go Go.Proofs Go.Proofs.YtoledfhjmdpihaaGreatDoor.VE
attribute [local irreducible] Val Op1 WO WR WA WC seqQ blockQ loopQ retQ
noncomputable def o14x7T3 : Array Oper := cops (cr (cr (cl (cl (cr (cl (cl (cr (cl (cr (cr (codeOf Tryz.f14))))))))))))
noncomputable def r14x7T3 : Run := (.st 0 0 (.st 1 0 (.st 2 0 (.st 3 0 (.st 4 0 (.st 5 0 (.st 6 0 (.st 7 0 (.st 8 0 (.st 9 1 (.st 10 0 (.st 11 0 (.st 12 0 (.st 13 2 (.st 14 2 (.st 15 0 (.st 16 0 (.st 17 3 .done))))))))))))))))))
set_option maxHeartbeats 8000000
abbrev numF (w : Str) : Int := w.foldl (fun n b => 10 * n + ((b.toNat : Int) - 48)) 0
theorem numF_next (w : Str) (b : UInt8) : numF (w ++ [b]) = 10 * numF w + ((b.toNat : Int) - 48) := by simp [numF]
theorem isFig_iff {b : UInt8} : isFig b = true ↔ 48 ≤ b.toNat ∧ b.toNat ≤ 57 := by simp [isFig]
theorem numF_range : ∀ (k : Nat) (w : Str), w.length = k → w.all isFig = true → 0 ≤ numF w ∧ numF w < 10 ^ k
  | 0, w, h, _ => by
    have : w = [] := List.eq_nil_of_length_eq_zero h
    subst this; simp [numF]
  | k + 1, w, h, ha => by
    rcases List.eq_nil_or_concat w with rfl | ⟨w', b, rfl⟩
    · simp at h
    · rw [List.concat_eq_append] at h ha ⊢
      rw [List.all_append, Bool.and_eq_true] at ha
      have hb : isFig b = true := by simpa using ha.2
      have hb' := isFig_iff.1 hb
      have hl : w'.length = k := by simpa using h
      have ih := numF_range k w' hl ha.1
      rw [numF_next]
      have e : (10 : Int) ^ (k + 1) = 10 * 10 ^ k := by rw [Int.pow_succ]; omega
      rw [e]
      omega
theorem numOf_len {w : Str} (h : within w.length 1 3 = false) : numOf w = -1 := by
  unfold numOf
  rw [if_neg]
  intro hh
  simp [within] at h
  omega
theorem numOf_bad {w : Str} {k : Nat} {b : UInt8} (hb : w[k]? = some b) (hf : isFig b = false) : numOf w = -1 := by
  unfold numOf
  rw [if_neg]
  rintro ⟨_, _, h⟩
  have := List.all_eq_true.1 h b (List.mem_of_getElem? hb)
  rw [hf] at this; cases this
theorem numOf_ok {w : Str} (h : within w.length 1 3 = true) (ha : w.all isFig = true) : numOf w = numF w := by
  unfold numOf
  rw [if_pos]
  simp [within] at h
  exact ⟨by omega, by omega, ha⟩
theorem numF3 {w : Str} {k : Nat} (hk : k ≤ 2) (h : w.length = k) (ha : w.all isFig = true) : 0 ≤ numF w ∧ numF w < 100 := by
  have := numF_range k w h ha
  have e : k = 0 ∨ k = 1 ∨ k = 2 := by omega
  rcases e with rfl | rfl | rfl <;> simp at this <;> omega
theorem c_number {L : List Ent} (s : Sl) (ws : List Str) (k : Nat) (h : SliceAt L encTx s ws) : RO Tryz.prog 66 [s.v, I (k : Int)] L (I (numAt ws k)) := by
  obtain ⟨a, n, c⟩ := s
  have hn : n = ws.length := h.1
  subst hn
  rcases Nat.lt_or_ge k ws.length with hkl | hkl
  · obtain ⟨w, hw⟩ : ∃ w, ws[k]? = some w := ⟨ws[k], by simp [hkl]⟩
    obtain ⟨b, o, cs, T, fr, ha, hm, htk⟩ := h.cell hw
    replace ha : a = _ := ha
    subst ha
    have hget := takeC_get (k := 0) htk (v := St w) rfl
    have he : o + k * encTx.sz + 0 = o + ((k : Int)).toNat * 1 := by simp [encTx]
    rw [he] at hget
    have hnum : numAt ws k = numOf w := by simp [numAt, hw]
    rw [hnum]
    cases hlen : within (w.length : Int) 1 3 with
    | false =>
      rw [numOf_len hlen]
      refine Tri.of Tryz.func66 rfl rfl Tryz.ntmps66 rfl rfl ?_
      (repeat' (first | refine nI ?_ | (refine nA ?_; intro _) | (refine nW ?_; first | (refine op_call_id ?_; refine op_ro rfl rfl (by exact (c_within _ _ _).eq (congrArg B hlen)) ?_) | (refine op_load_id ?_; refine op_val rfl (by exact val_load1 rfl rfl rfl (by exact kM) hget) ?_) | refine op_val rfl (by exact kStr) ?_) | refine nY ?_ | refine nR ?_ | refine WC_cond rfl (fun hc => ?_) (fun hc => ?_)))
      refine ro_ret (by exact kR) (by exact kL) ?_; rfl
    | true =>
      have hlen' : 1 ≤ w.length ∧ w.length ≤ 3 := by simp [within] at hlen; omega
      refine Tri.of Tryz.func66 rfl rfl Tryz.ntmps66 rfl rfl ?_
      (repeat' (first | refine nI ?_ | (refine nA ?_; intro _) | (refine nW ?_; first | (refine op_call_id ?_; refine op_ro rfl rfl (by exact (c_within _ _ _).eq (congrArg B hlen)) ?_) | (refine op_load_id ?_; refine op_val rfl (by exact val_load1 rfl rfl rfl (by exact kM) hget) ?_) | (refine op_strBytes rfl rfl rfl rfl rfl ?_; intro b2 c2 rest2 fr2 hc2) | refine op_val rfl (by exact kStr) ?_) | refine nY ?_ | refine nR ?_ | refine WC_cond rfl (fun hc => ?_) (fun hc => ?_)))
      refine WC_loop (fun mz Ez Mz => ∃ (k : Nat) (m : Int), k + mz = (w).length ∧ Ez = [(5, I m), (25, .slice (some ⟨b2, 0, none⟩) w.length c2), (26, I w.length), (27, I k)] ∧ Mz = (b2, .cells (w.map u8 ++ rest2).toArray 5 fr2) :: L ∧ ((w.take k).all isFig = true ∧ m = numF (w.take k))) (w).length (by exact kQ) (by exact kL) ⟨0, 0, by omega, rfl, rfl, by exact ⟨rfl, rfl⟩⟩ ?_
      rintro mz Ez Mz ⟨k, m, hk, rfl, rfl, hin⟩
      rcases Nat.lt_or_ge k (w).length with hlt | hge
      · obtain ⟨y, hy⟩ : ∃ y, w[k]? = some y := ⟨w[k], by simp [hlt]⟩
        have hyl := (List.getElem?_eq_some_iff.1 hy).1
        have htk2 := take_next hy
        have hg2 : (w.map u8 ++ rest2)[0 + ((k : Int)).toNat * 1]? = some (u8 y) := by
          rw [List.getElem?_append_left (by simp; omega)]
          simp [hy]
        have hy255 := y.toNat_lt
        cases hf : isFig y with
        | false =>
          rw [numOf_bad hy hf]
          have hf' : y.toNat < 48 ∨ 57 < y.toNat := by
            rcases Nat.lt_or_ge y.toNat 48 with h1 | h1
            · exact .inl h1
            · right
              rcases Nat.lt_or_ge 57 y.toNat with h2 | h2
              · exact h2
              · rw [isFig_iff.2 ⟨h1, h2⟩] at hf; cases hf
          rcases hf' with h1 | h1
          · (repeat' (first | refine nI ?_ | (refine nA ?_; intro _) | (refine nW ?_; first | (refine op_load_id ?_; refine op_val rfl (by exact val_load1 rfl rfl rfl (by exact kM) hg2) ?_) | refine op_val rfl (by exact kStr) ?_) | refine nY ?_ | refine nR ?_ | refine WC_cond rfl (fun hc => ?_) (fun hc => ?_)))
            refine ro_ret (by exact kR) (by exact kL) ?_; rfl
          · (repeat' (first | refine nI ?_ | (refine nA ?_; intro _) | (refine nW ?_; first | (refine op_load_id ?_; refine op_val rfl (by exact val_load1 rfl rfl rfl (by exact kM) hg2) ?_) | refine op_val rfl (by exact kStr) ?_) | refine nY ?_ | refine nR ?_ | refine WC_cond rfl (fun hc => ?_) (fun hc => ?_)))
            refine ro_ret (by exact kR) (by exact kL) ?_; rfl
        | true =>
          have hf' := isFig_iff.1 hf
          have hr := numF3 (w := w.take k) (k := k) (by omega) (by rw [List.length_take]; omega) hin.1
          rw [← hin.2] at hr
          (repeat' (first | refine nI ?_ | (refine nA ?_; intro _) | (refine nW ?_; first | (refine op_load_id ?_; refine op_val rfl (by exact val_load1 rfl rfl rfl (by exact kM) hg2) ?_) | refine op_val rfl (by first | exact val_subB rfl rfl rfl (by omega) (by omega) | exact val_byte rfl rfl rfl (by omega) (by omega) | (apply gv_bin; refine val_mul rfl rfl ?_ ?_ <;> omega) | exact kStr) ?_) | refine nY ?_ | refine nR ?_ | refine WC_cond rfl (fun hc => ?_) (fun hc => ?_)))
          exact loopQ_next ⟨mz - 1, _, _, by omega, by exact kQ, by exact kL, k + 1, 10 * m + ((y.toNat : Int) - 48), by omega, rfl, rfl, by exact ⟨by rw [htk2, List.all_append, hin.1]; simp [hf], by rw [htk2, numF_next, hin.2]⟩⟩
      · rw [take_all hge] at hin
        rw [numOf_ok hlen hin.1, ← hin.2]
        (repeat' (first | refine nI ?_ | (refine nA ?_; intro _) | (refine nW ?_; first | refine op_val rfl (by exact kStr) ?_) | refine nY ?_ | refine nR ?_ | refine WC_cond rfl (fun hc => ?_) (fun hc => ?_)))
        refine ro_ret (by exact kR) (by exact kL) ?_; rfl
  · have hnum : numAt ws k = -1 := by simp [numAt, List.getElem?_eq_none hkl]
    rw [hnum]
    refine Tri.of Tryz.func66 rfl rfl Tryz.ntmps66 rfl rfl ?_
    (repeat' (first | refine nI ?_ | (refine nA ?_; intro _) | (refine nW ?_; first | refine op_val rfl (by exact kStr) ?_) | refine nY ?_ | refine nR ?_ | refine WC_cond rfl (fun hc => ?_) (fun hc => ?_)))
    refine ro_ret (by exact kR) (by exact kL) ?_; rfl
/-! ### The reference -/
theorem c_l1Dec {L : List Ent} (w : Str) (hmax : w.length ≤ 1000000) : RO Tryz.prog 15 [St w] L (I (numOf w)) := by
  cases hlen : within (w.length : Int) 1 3 with
  | false =>
    rw [numOf_len hlen]
    refine Tri.of Tryz.func15 rfl rfl Tryz.ntmps15 rfl rfl ?_
    (repeat' (first | refine nI ?_ | (refine nA ?_; intro _) | (refine nW ?_; first | (refine op_call_id ?_; refine op_ro rfl rfl (by exact (c_l6In _ _ _).eq (congrArg B hlen)) ?_) | refine op_val rfl (by exact kStr) ?_) | refine nY ?_ | refine nR ?_ | refine WC_cond rfl (fun hc => ?_) (fun hc => ?_)))
    refine ro_ret (by exact kR) (by exact kL) ?_; rfl
  | true =>
    have hlen' : 1 ≤ w.length ∧ w.length ≤ 3 := by simp [within] at hlen; omega
    refine Tri.of Tryz.func15 rfl rfl Tryz.ntmps15 rfl rfl ?_
    (repeat' (first | refine nI ?_ | (refine nA ?_; intro _) | (refine nW ?_; first | (refine op_call_id ?_; refine op_ro rfl rfl (by exact (c_l6In _ _ _).eq (congrArg B hlen)) ?_) | refine op_val rfl (by exact kStr) ?_) | refine nY ?_ | refine nR ?_ | refine WC_cond rfl (fun hc => ?_) (fun hc => ?_)))
    refine WC_loop (fun mz Ez Mz => ∃ (k : Nat) (m : Int), k + mz = (w).length ∧ Ez = [(0, St w), (3, I m), (4, I k)] ∧ Mz = L ∧ ((w.take k).all isFig = true ∧ m = numF (w.take k))) (w).length (by exact kQ) (by exact kL) ⟨0, 0, by omega, rfl, rfl, by exact ⟨rfl, rfl⟩⟩ ?_
    rintro mz Ez Mz ⟨k, m, hk, rfl, rfl, hin⟩
    rcases Nat.lt_or_ge k (w).length with hlt | hge
    · obtain ⟨y, hy⟩ : ∃ y, w[k]? = some y := ⟨w[k], by simp [hlt]⟩
      have htk2 := take_next hy
      have hg2 : w[((k : Int)).toNat]? = some y := by simpa using hy
      have hy255 := y.toNat_lt
      cases hf : isFig y with
      | false =>
        rw [numOf_bad hy hf]
        have hf' : y.toNat < 48 ∨ 57 < y.toNat := by
          rcases Nat.lt_or_ge y.toNat 48 with h1 | h1
          · exact .inl h1
          · right
            rcases Nat.lt_or_ge 57 y.toNat with h2 | h2
            · exact h2
            · rw [isFig_iff.2 ⟨h1, h2⟩] at hf; cases hf
        rcases hf' with h1 | h1
        · (repeat' (first | refine nI ?_ | (refine nA ?_; intro _) | (refine nW ?_; first | refine op_val rfl (by first | exact val_indexS rfl rfl rfl (by omega) hg2 | exact kStr) ?_) | refine nY ?_ | refine nR ?_ | refine WC_cond rfl (fun hc => ?_) (fun hc => ?_)))
          refine ro_ret (by exact kR) (by exact kL) ?_; rfl
        · (repeat' (first | refine nI ?_ | (refine nA ?_; intro _) | (refine nW ?_; first | refine op_val rfl (by first | exact val_indexS rfl rfl rfl (by omega) hg2 | exact kStr) ?_) | refine nY ?_ | refine nR ?_ | refine WC_cond rfl (fun hc => ?_) (fun hc => ?_)))
          refine ro_ret (by exact kR) (by exact kL) ?_; rfl
      | true =>
        have hf' := isFig_iff.1 hf
        have hr := numF3 (w := w.take k) (k := k) (by omega) (by rw [List.length_take]; omega) hin.1
        rw [← hin.2] at hr
        (repeat' (first | refine nI ?_ | (refine nA ?_; intro _) | (refine nW ?_; first | refine op_val rfl (by first | exact val_indexS rfl rfl rfl (by omega) hg2 | exact val_subB rfl rfl rfl (by omega) (by omega) | exact val_byte rfl rfl rfl (by omega) (by omega) | (apply gv_bin; refine val_mul rfl rfl ?_ ?_ <;> omega) | exact kStr) ?_) | refine nY ?_ | refine nR ?_ | refine WC_cond rfl (fun hc => ?_) (fun hc => ?_)))
        exact loopQ_next ⟨mz - 1, _, _, by omega, by exact kQ, by exact kL, k + 1, 10 * m + ((y.toNat : Int) - 48), by omega, rfl, rfl, by exact ⟨by rw [htk2, List.all_append, hin.1]; simp [hf], by rw [htk2, numF_next, hin.2]⟩⟩
    · rw [take_all hge] at hin
      rw [numOf_ok hlen hin.1, ← hin.2]
      (repeat' (first | refine nI ?_ | (refine nA ?_; intro _) | (refine nW ?_; first | refine op_val rfl (by exact kStr) ?_) | refine nY ?_ | refine nR ?_ | refine WC_cond rfl (fun hc => ?_) (fun hc => ?_)))
      refine ro_ret (by exact kR) (by exact kL) ?_; rfl
theorem c_l31At {L : List Ent} (s : Sl) (ws : List Str) (k : Nat) (h : SliceAt L encTx s ws) (hmax : ∀ w ∈ ws, w.length ≤ 1000000) : RO Tryz.prog 76 [s.v, I (k : Int)] L (I (numAt ws k)) := by
  obtain ⟨a, n, c⟩ := s
  have hn : n = ws.length := h.1
  subst hn
  rcases Nat.lt_or_ge k ws.length with hkl | hkl
  · obtain ⟨w, hw⟩ : ∃ w, ws[k]? = some w := ⟨ws[k], by simp [hkl]⟩
    obtain ⟨b, o, cs, T, fr, ha, hm, htk⟩ := h.cell hw
    replace ha : a = _ := ha
    subst ha
    have hget := takeC_get (k := 0) htk (v := St w) rfl
    have he : o + k * encTx.sz + 0 = o + ((k : Int)).toNat * 1 := by simp [encTx]
    rw [he] at hget
    have hnum : numAt ws k = numOf w := by simp [numAt, hw]
    rw [hnum]
    refine Tri.of Tryz.func76 rfl rfl Tryz.ntmps76 rfl rfl ?_
    (repeat' (first | refine nI ?_ | (refine nA ?_; intro _) | (refine nW ?_; first | (refine op_call_id ?_; refine op_ro rfl rfl (by exact c_l1Dec w (hmax w (List.mem_of_getElem? hw))) ?_) | (refine op_load_id ?_; refine op_val rfl (by exact val_load1 rfl rfl rfl (by exact kM) hget) ?_) | refine op_val rfl (by exact kStr) ?_) | refine nY ?_ | refine nR ?_ | refine WC_cond rfl (fun hc => ?_) (fun hc => ?_)))
    refine ro_ret (by exact kR) (by exact kL) ?_; rfl
  · have hnum : numAt ws k = -1 := by simp [numAt, List.getElem?_eq_none hkl]
    rw [hnum]
    refine Tri.of Tryz.func76 rfl rfl Tryz.ntmps76 rfl rfl ?_
    (repeat' (first | refine nI ?_ | (refine nA ?_; intro _) | (refine nW ?_; first | refine op_val rfl (by exact kStr) ?_) | refine nY ?_ | refine nR ?_ | refine WC_cond rfl (fun hc => ?_) (fun hc => ?_)))
    refine ro_ret (by exact kR) (by exact kL) ?_; rfl
def lineNames : List Str := [wAs, wTgs, wAp, wBring, [], wTick, wFall]
def kindOf (w : Str) : Int := if w = wAs then 1 else if w = wTgs then 2 else if w = wAp then 3 else if w = wBring then 4 else if w = wTick then 6 else if w = wFall then 7 else 0
theorem kindOf_at {w : Str} {k : Nat} (h : lineNames[k]? = some w) (hne : w ≠ []) : kindOf w = (k : Int) + 1 := by
  have hk : k < 7 := (List.getElem?_eq_some_iff.1 h).1
  have e : k = 0 ∨ k = 1 ∨ k = 2 ∨ k = 3 ∨ k = 4 ∨ k = 5 ∨ k = 6 := by omega
  rcases e with rfl | rfl | rfl | rfl | rfl | rfl | rfl <;> simp [lineNames] at h <;> subst h <;> first | rfl | exact absurd rfl hne
theorem kindOf_none {w : Str} (h : ∀ k, k < 7 → lineNames[k]? ≠ some w ∨ w = []) : kindOf w = 0 := by
  by_cases h0 : w = []
  · subst h0; rfl
  · have g : ∀ k, k < 7 → lineNames[k]? ≠ some w := fun k hk => (h k hk).resolve_right h0
    have g0 : w ≠ wAs := fun e => g 0 (by omega) (by rw [e]; rfl)
    have g1 : w ≠ wTgs := fun e => g 1 (by omega) (by rw [e]; rfl)
    have g2 : w ≠ wAp := fun e => g 2 (by omega) (by rw [e]; rfl)
    have g3 : w ≠ wBring := fun e => g 3 (by omega) (by rw [e]; rfl)
    have g5 : w ≠ wTick := fun e => g 5 (by omega) (by rw [e]; rfl)
    have g6 : w ≠ wFall := fun e => g 6 (by omega) (by rw [e]; rfl)
    simp [kindOf, g0, g1, g2, g3, g5, g6]
theorem c_l31Kind {L : List Ent} (w : Str) : RO Tryz.prog 79 [St w] L (I (kindOf w)) := by
  refine Tri.of Tryz.func79 rfl rfl Tryz.ntmps79 rfl rfl ?_
  (repeat' (first | refine nI ?_ | (refine nA ?_; intro _) | (refine nW ?_; first | refine op_val rfl (by exact kStr) ?_) | refine nY ?_ | refine nR ?_ | refine WC_cond rfl (fun hc => ?_) (fun hc => ?_)))
  rename_i b3
  have hln : lineNames.length = 7 := rfl
  refine WC_loop (fun mz Ez Mz => ∃ k : Nat, k + mz = (lineNames).length ∧ Ez = [(0, St w), (3, .slice (some ⟨b3, 0, none⟩) 7 7), (4, I k)] ∧ Mz = (b3, cellsO [St wAs, St wTgs, St wAp, St wBring, St [], St wTick, St wFall] 9) :: L ∧ (∀ j, j < k → lineNames[j]? ≠ some w ∨ w = [])) (lineNames).length (by exact kQ) (by exact kL) ⟨0, by omega, rfl, rfl, by exact fun j hj => absurd hj (by omega)⟩ ?_
  rintro mz Ez Mz ⟨k, hk, rfl, rfl, hin⟩
  rcases Nat.lt_or_ge k (lineNames).length with hlt | hge
  · obtain ⟨y, hy⟩ : ∃ y, lineNames[k]? = some y := ⟨lineNames[k], by simp [hlt]⟩
    have hget : [St wAs, St wTgs, St wAp, St wBring, St [], St wTick, St wFall][0 + ((k : Int)).toNat * 1]? = some (St y) := by
      have : ([St wAs, St wTgs, St wAp, St wBring, St [], St wTick, St wFall] : List Value) = lineNames.map St := rfl
      rw [this, List.getElem?_map]
      simp [hy]
    by_cases he : y = w
    · by_cases h0 : w = []
      · (repeat' (first | refine nI ?_ | (refine nA ?_; intro _) | (refine nW ?_; first | (refine op_load_id ?_; refine op_val rfl (by exact val_load1 rfl rfl rfl (by exact kM) hget) ?_) | refine op_val rfl (by exact kStr) ?_) | refine nY ?_ | refine nR ?_ | refine WC_cond rfl (fun hc => ?_) (fun hc => ?_)))
        exact loopQ_next ⟨mz - 1, _, _, by omega, by exact kQ, by exact kL, k + 1, by omega, rfl, rfl, by intro j hj; exact .inr h0⟩
      · have hk9 := kindOf_at (hy.trans (congrArg some he)) h0
        rw [hk9]
        (repeat' (first | refine nI ?_ | (refine nA ?_; intro _) | (refine nW ?_; first | (refine op_load_id ?_; refine op_val rfl (by exact val_load1 rfl rfl rfl (by exact kM) hget) ?_) | refine op_val rfl (by exact kStr) ?_) | refine nY ?_ | refine nR ?_ | refine WC_cond rfl (fun hc => ?_) (fun hc => ?_)))
        refine ro_ret (by exact kR) (by exact kL) ?_; rfl
    · (repeat' (first | refine nI ?_ | (refine nA ?_; intro _) | (refine nW ?_; first | (refine op_load_id ?_; refine op_val rfl (by exact val_load1 rfl rfl rfl (by exact kM) hget) ?_) | refine op_val rfl (by exact kStr) ?_) | refine nY ?_ | refine nR ?_ | refine WC_cond rfl (fun hc => ?_) (fun hc => ?_)))
      exact loopQ_next ⟨mz - 1, _, _, by omega, by exact kQ, by exact kL, k + 1, by omega, rfl, rfl, by intro j hj; rcases Nat.lt_or_ge j k with h1 | h1; exact hin j h1; left; rw [show j = k by omega, hy]; intro e; exact he (Option.some.inj e)⟩
  · have hk7 : k = 7 := by omega
    rw [kindOf_none (fun j hj => hin j (by omega))]
    (repeat' (first | refine nI ?_ | (refine nA ?_; intro _) | (refine nW ?_; first | refine op_val rfl (by exact kStr) ?_) | refine nY ?_ | refine nR ?_ | refine WC_cond rfl (fun hc => ?_) (fun hc => ?_)))
    refine ro_ret (by exact kR) (by exact kL) ?_; rfl
/-! ### A text cut at a byte -/
theorem addLast_set : ∀ (xs : List Str) (y : Str) (c : UInt8), xs[xs.length - 1]? = some y → addLast c xs = xs.set (xs.length - 1) (y ++ [c])
  | [], _, _, h => by simp at h
  | [w], y, c, h => by
    have h' : w = y := by simpa using h
    subst h'; rfl
  | w :: x :: ws, y, c, h => by
    have e : (w :: x :: ws).length - 1 = (x :: ws).length - 1 + 1 := by simp
    rw [e] at h ⊢
    rw [List.getElem?_cons_succ] at h
    rw [addLast, addLast_set (x :: ws) y c h, List.set_cons_succ]
theorem c_l1Cut {L : List Ent} (s : Str) (at_ : UInt8) (hl : s.length ≤ 1900) : Tri Tryz.prog 14 [St s, u8 at_] L (fun v L' => ∃ sl es, v = Sl.v sl ∧ Row encTx 9 sl (cutAt at_ s) es ∧ L' = es ++ L) := by
  have hat := at_.toNat_lt
  refine Tri.of Tryz.func14 rfl rfl Tryz.ntmps14 rfl rfl ?_
  (repeat' (first | refine nI ?_ | (refine nA ?_; intro _) | (refine nW ?_; first | refine op_val rfl (by exact kStr) ?_) | (refine WR_id ?_; refine WR_pure rfl rfl rfl (by exact kStr) ?_) | refine nY ?_ | refine WA_alt ?_ ?_ | refine nR ?_ | refine WC_drawL (id := 7) (ops := o14x7T3) r14x7T3 (by kernel_rfl) rfl ?_ | refine WC_cond rfl (fun hc => ?_) (fun hc => ?_)))
  rename_i b7
  refine WC_loop (fun mz Ez Mz => ∃ (k : Nat) (a2 : Option Addr) (n2 c2 : Nat) (eo : List Ent), k + mz = (s).length ∧ Ez = [(0, St s), (1, u8 at_), (5, .slice a2 n2 c2), (6, I k)] ∧ Mz = eo ++ L ∧ (Row encTx 9 ⟨a2, n2, c2⟩ (cutAt at_ (s.take k)) eo)) (s).length (by exact kQ) (by exact kL) ⟨0, some ⟨b7, 0, none⟩, 1, 1, [(b7, cellsO [St []] 9)], by omega, rfl, rfl, by exact Row.lit (E := encTx) (xs := [[]]) rfl (by decide)⟩ ?_
  rintro mz Ez Mz ⟨k, a2, n2, c2, eo, hk, rfl, rfl, hin⟩
  rcases Nat.lt_or_ge k (s).length with hlt | hge
  · obtain ⟨y, hy⟩ : ∃ y, s[k]? = some y := ⟨s[k], by simp [hlt]⟩
    have htk2 := take_next hy
    have hg2 : s[((k : Int)).toNat]? = some y := by simpa using hy
    have hy255 := y.toNat_lt
    have hlen : (cutAt at_ (s.take k)).length ≤ k + 1 := by
      rw [cutAt_len]
      have := List.count_le_length (a := at_) (l := s.take k)
      rw [List.length_take] at this
      omega
    by_cases hc : y = at_
    · have hn : (y.toNat : Int) = (at_.toNat : Int) := by rw [hc]
      (repeat' (first | refine nI ?_ | (refine nA ?_; intro _) | (refine nW ?_; first | (refine go_append ?_; refine op_appendRow (sl := ⟨_, _, _⟩) (sx := ⟨_, _, _⟩) rfl rfl rfl rfl rfl rfl rfl rfl rfl (hin) (by exact kE) (SliceAt.one (E := encTx) (x := ([] : Str)) (by exact kM) rfl) (by (simp only [List.length_cons, List.length_nil, lim]; omega)) ?_; intro sl' es' hrow' hst') | refine op_val rfl (by first | exact val_indexS rfl rfl rfl (by omega) hg2 | exact kStr) ?_) | (refine WR_id ?_; refine WR_pure rfl rfl rfl (by first | exact val_indexS rfl rfl rfl (by omega) hg2 | exact kStr) ?_) | refine nY ?_ | refine WA_alt ?_ ?_ | refine nR ?_ | refine WC_drawL (id := 7) (ops := o14x7T3) r14x7T3 (by kernel_rfl) rfl ?_ | refine WC_cond rfl (fun hc => ?_) (fun hc => ?_)))
      obtain ⟨a9, n9, c9⟩ := sl'
      exact loopQ_next ⟨mz - 1, _, _, by omega, by exact kQ, by exact kL, k + 1, a9, n9, c9, es', by omega, rfl, rfl, by (rw [htk2, cutAt_snoc, if_pos hc]; exact hrow')⟩
    · have hn : (y.toNat : Int) ≠ (at_.toNat : Int) := fun e => hc (UInt8.toNat_inj.1 (Int.ofNat.inj e))
      obtain ⟨xs, hxs⟩ : ∃ xs, xs = cutAt at_ (s.take k) := ⟨_, rfl⟩
      have hpos : 0 < xs.length := by rw [hxs]; exact List.length_pos_iff.2 (cutAt_ne _ _)
      rw [← hxs] at hin hlen
      obtain ⟨g, cap, rest, hsl, rfl, h3, h4, h5⟩ := hin.block hpos
      cases hsl
      obtain ⟨z, hz⟩ : ∃ z, xs[xs.length - 1]? = some z := ⟨xs[xs.length - 1], by simp [hpos]⟩
      have hzl : z.length ≤ 1900 := by
        have := cutAt_pieces at_ (s.take k) z (by rw [← hxs]; exact List.mem_of_getElem? hz)
        rw [List.length_take] at this
        omega
      have hi9 : ((xs.length : Int) - 1).toNat = xs.length - 1 := by omega
      have hget : (encTx.row xs ++ rest)[0 + ((xs.length : Int) - 1).toNat * 1]? = some (St z) := by
        rw [hi9, encTx_row, List.getElem?_append_left (by simp; omega)]
        simp [hz]
      (repeat' (first | refine nI ?_ | (refine nA ?_; intro _) | (refine nW ?_; first | (refine op_store_id ?_; (refine op_storeStr (i := xs.length - 1) (v := z ++ [y]) rfl (by omega) rfl rfl rfl (by exact kF) (by omega) ?_)) | (refine op_load_id ?_; refine op_val rfl (by exact val_load1 rfl rfl rfl (by exact kM) hget) ?_) | refine op_val rfl (by first | exact val_indexS rfl rfl rfl (by omega) hg2 | exact val_bytesLit [y] rfl rfl rfl rfl (by exact kM) | exact kStr) ?_) | (refine WR_id ?_; refine WR_pure rfl rfl rfl (by first | exact val_indexS rfl rfl rfl (by omega) hg2 | exact val_bytesLit [y] rfl rfl rfl rfl (by exact kM) | exact kStr) ?_) | (refine WR_id ?_; refine WR_load rfl rfl rfl (by exact val_load1 rfl rfl rfl (by exact kM) hget) (by exact kS) ?_) | refine nY ?_ | refine WA_alt ?_ ?_ | refine nR ?_ | refine WC_draw (id := 7) (ops := o14x7T3) ([(g, cellsO (encTx.row xs ++ rest) 9)]) r14x7T3 (by kernel_rfl) rfl ?_ | refine WC_cond rfl (fun hc => ?_) (fun hc => ?_)))
      exact loopQ_next ⟨mz - 1, _, _, by omega, by exact kQ, by exact kL, k + 1, some ⟨g, 0, none⟩, xs.length, c2, [(g, cellsO (encTx.row (xs.set (xs.length - 1) (z ++ [y])) ++ rest) 9)], by omega, rfl, rfl, by (rw [htk2, cutAt_snoc, if_neg hc, ← hxs, addLast_set xs z y hz]; have hl9 : (xs.set (xs.length - 1) (z ++ [y])).length = xs.length := List.length_set; have := Row.mk (E := encTx) (T := 9) (g := g) (cap := c2) (rest := rest) (xs := xs.set (xs.length - 1) (z ++ [y])) (by rw [hl9]; exact h3) (by rw [hl9]; exact h4) h5 (by rw [hl9]; exact hin.2); rw [hl9] at this; exact this)⟩
  · rw [take_all hge] at hin
    (repeat' (first | refine nI ?_ | (refine nA ?_; intro _) | (refine nW ?_; first | refine op_val rfl (by exact kStr) ?_) | (refine WR_id ?_; refine WR_pure rfl rfl rfl (by exact kStr) ?_) | refine nY ?_ | refine WA_alt ?_ ?_ | refine nR ?_ | refine WC_drawL (id := 7) (ops := o14x7T3) r14x7T3 (by kernel_rfl) rfl ?_ | refine WC_cond rfl (fun hc => ?_) (fun hc => ?_)))
    refine ret_ret (by exact kR) ?_; exact ⟨eo ++ L, by exact kP, ⟨a2, n2, c2⟩, eo, rfl, hin, rfl⟩
end Go.Proofs.YtoledfhjmdpihaaGreatDoor
/- Draws of lines. -/
set_option linter.unusedVariables false
set_option linter.unusedSectionVars false
set_option linter.unusedSimpArgs false
namespace Go.Proofs.YtoledfhjmdpihaaGreatDoor
open Go Go.Proofs Go.Proofs.YtoledfhjmdpihaaGreatDoor.VE
attribute [local irreducible] Val Op1 WO WR WA WC seqQ blockQ loopQ retQ
set_option maxHeartbeats 8000000
/-- A short text. -/
def short (s : Str) : Prop := s.length ≤ 60
theorem short1 {p : Str} {n : Int} (h : p.length ≤ 15) : short (p ++ dec n) := by
  have := dec_len n
  simp only [short, List.length_append]; omega
theorem short2 {p q : Str} {n m : Int} (h : p.length ≤ 10) (h2 : q.length ≤ 5) : short (p ++ dec n ++ q ++ dec m) := by
  have := dec_len n
  have := dec_len m
  simp only [short, List.length_append]; omega
theorem c_of {L L1 : List Ent} (br : Nat) (sb : Sl) (bs : List Int) (p : Int) (hL : L.Perm ((br, rdO sb p) :: L1)) (hb : Code8 L1 sb bs) (hp : 0 ≤ p ∧ p ≤ 1000000) (b n : Nat) (ws : List Str) (cs : List Value) (T : TypeId) (hm : (b, cellsO cs T) ∈ L1) (hc : cs = ws.map St) (hn : n = ws.length) (h0 : 0 < ws.length) (hs : ∀ w ∈ ws, short w) :
    Tri Tryz.prog 60 [.pointer (some ⟨br, 0, none⟩), .slice (some ⟨b, 0, none⟩) n n] L (fun v L' => ∃ w, v = St w ∧ short w ∧ L' = (br, rdO sb (p + 1)) :: L1) := by
  subst hn hc
  have hget : ∀ x : Int, (0 ≤ x ∧ (x < (ws.length : Int) ∨ x = 0)) → (ws.map St)[0 + x.toNat * 1]? = some (St (ws.getD x.toNat [])) := fun x hx => by
    have hl : x.toNat < ws.length := by omega
    simp [List.getD_eq_getElem?_getD, hl]
  have hsh : ∀ x : Int, (0 ≤ x ∧ (x < (ws.length : Int) ∨ x = 0)) → short (ws.getD x.toNat []) := fun x hx => by
    have hl : x.toNat < ws.length := by omega
    rw [List.getD_eq_getElem?_getD, List.getElem?_eq_getElem hl]
    exact hs _ (List.getElem_mem hl)
  refine Tri.perm ?_ hL
  refine Tri.of Tryz.func60 rfl rfl Tryz.ntmps60 rfl rfl ?_
  (repeat' (first | refine nX ?_ | (refine nA ?_; intro _) | (refine nW ?_; first | (refine op_load_id ?_; refine op_val rfl (by exact val_load1 rfl rfl rfl (by exact kM) (hget x hx)) ?_) | (refine op_call_id ?_; refine op_call rfl (c_pick br sb bs p (ws.length : Int) (by exact kF) (hb.mono (by exact kS)) hp) rfl ?_; rintro _ _ ⟨x, rfl, hx, rfl⟩)) | refine nY ?_ | refine nR ?_))
  refine ret_ret (by exact kR) ?_; exact ⟨(br, rdO sb (p + 1)) :: L1, by exact kP, ws.getD x.toNat [], rfl, hsh x hx, rfl⟩
theorem c_l72Line {L L1 : List Ent} (br : Nat) (sb : Sl) (bs : List Int) (p : Int) (hL : L.Perm ((br, rdO sb p) :: L1)) (hb : Code8 L1 sb bs) (hp : 0 ≤ p ∧ p ≤ 900000) :
    Tri Tryz.prog 30 [.pointer (some ⟨br, 0, none⟩)] L (fun v L' => ∃ s q, v = St s ∧ short s ∧ (p ≤ q ∧ q ≤ p + 4) ∧ L' = (br, rdO sb q) :: L1) := by
  refine Tri.perm ?_ hL
  refine Tri.of Tryz.func30 rfl rfl Tryz.ntmps30 rfl rfl ?_
  (repeat' (first | refine nX ?_ | (refine nA ?_; intro _) | (refine nW ?_; first | (refine op_call_id ?_; refine op_ro rfl rfl (by exact c_l6Dec _ (by omega) (by omega)) ?_) | (refine op_call_id ?_; refine op_call rfl (c_pick br sb bs _ _ (by exact kF) (hb.mono (by exact kS)) (by omega)) rfl ?_; rintro _ _ ⟨x1, rfl, hx1, rfl⟩)) | refine nY ?_ | refine WC_regionN [2] rfl ?_ | refine WC_block ?_))
  have d1 := dec_len (1 + x1)
  (repeat' (first | refine nX ?_ | (refine nA ?_; intro _) | (refine nW ?_; first | (refine op_call_id ?_; refine op_ro rfl rfl (by exact c_l6Dec _ (by omega) (by omega)) ?_) | (refine op_call_id ?_; refine op_call rfl (c_pick br sb bs _ _ (by exact kF) (hb.mono (by exact kS)) (by omega)) rfl ?_; rintro _ _ ⟨x2, rfl, hx2, rfl⟩)) | refine nY ?_ | refine WC_regionN [3] rfl ?_ | refine WC_block ?_))
  have d2 := dec_len (4 + x2)
  (repeat' (first | refine nX ?_ | (refine nA ?_; intro _) | (refine nW ?_; first | (refine op_call_id ?_; refine op_call rfl (c_pick br sb bs _ _ (by exact kF) (hb.mono (by exact kS)) (by omega)) rfl ?_; rintro _ _ ⟨x3, rfl, hx3, rfl⟩)) | refine nY ?_ | refine WC_regionN [4] rfl ?_ | refine WC_block ?_))
  have e3 : x3 = 0 ∨ x3 = 1 ∨ x3 = 2 ∨ x3 = 3 ∨ x3 = 4 ∨ x3 = 5 ∨ x3 = 6 ∨ x3 = 7 ∨ x3 = 8 ∨ x3 = 9 ∨ x3 = 10 ∨ x3 = 11 := by omega
  clear hx3
  rcases e3 with rfl | rfl | rfl | rfl | rfl | rfl | rfl | rfl | rfl | rfl | rfl | rfl
  · (repeat' (first | refine nI ?_ | (refine nA ?_; intro _) | (refine nW ?_; first | refine op_val rfl (by exact kStr) ?_) | refine nY ?_ | refine nR ?_ | refine WC_cond rfl (fun hc => ?_) (fun hc => ?_)))
    refine ret_ret (by exact kR) ?_; exact ⟨_, by exact kP, _, _, rfl, short1 (by decide), by omega, rfl⟩
  · (repeat' (first | refine nI ?_ | (refine nA ?_; intro _) | (refine nW ?_; first | refine op_val rfl (by exact kStr) ?_) | refine nY ?_ | refine nR ?_ | refine WC_cond rfl (fun hc => ?_) (fun hc => ?_)))
    refine ret_ret (by exact kR) ?_; exact ⟨_, by exact kP, _, _, rfl, short2 (by decide) (by decide), by omega, rfl⟩
  · (repeat' (first | refine nI ?_ | (refine nA ?_; intro _) | (refine nW ?_; first | refine op_val rfl (by exact kStr) ?_) | refine nY ?_ | refine nR ?_ | refine WC_cond rfl (fun hc => ?_) (fun hc => ?_)))
    refine ret_ret (by exact kR) ?_; exact ⟨_, by exact kP, _, _, rfl, short2 (by decide) (by decide), by omega, rfl⟩
  · (repeat' (first | refine nI ?_ | (refine nA ?_; intro _) | (refine nW ?_; first | (refine op_call_id ?_; refine op_ro rfl rfl (by exact c_l6Dec _ (by omega) (by omega)) ?_) | (refine op_call_id ?_; refine op_call rfl (c_pick br sb bs _ _ (by exact kF) (hb.mono (by exact kS)) (by omega)) rfl ?_; rintro _ _ ⟨x4, rfl, hx4, rfl⟩) | refine op_val rfl (by first | exact kStr | (apply gv_bin; refine val_addS rfl rfl ?_; have := dec_len x4; exact kLen)) ?_) | refine nY ?_ | refine nR ?_ | refine WC_cond rfl (fun hc => ?_) (fun hc => ?_)))
    refine ret_ret (by exact kR) ?_; exact ⟨_, by exact kP, _, _, rfl, short1 (by decide), by omega, rfl⟩
  · (repeat' (first | refine nI ?_ | (refine nA ?_; intro _) | (refine nW ?_; first | (refine op_call_id ?_; refine op_ro rfl rfl (by exact c_l6Dec _ (by omega) (by omega)) ?_) | (refine op_call_id ?_; refine op_call rfl (c_pick br sb bs _ _ (by exact kF) (hb.mono (by exact kS)) (by omega)) rfl ?_; rintro _ _ ⟨x4, rfl, hx4, rfl⟩) | refine op_val rfl (by first | exact kStr | (apply gv_bin; refine val_addS rfl rfl ?_; have := dec_len x4; exact kLen)) ?_) | refine nY ?_ | refine nR ?_ | refine WC_cond rfl (fun hc => ?_) (fun hc => ?_)))
    refine ret_ret (by exact kR) ?_; exact ⟨_, by exact kP, _, _, rfl, short1 (by decide), by omega, rfl⟩
  · (repeat' (first | refine nI ?_ | (refine nA ?_; intro _) | (refine nW ?_; first | (refine op_call_id ?_; refine op_call rfl (c_of br sb bs _ (by exact kF) (hb.mono (by exact kS)) (by omega) _ _ [wTick, [102, 97, 108, 108, 32] ++ dec (4 + x2), wTick, wLog] _ _ (by exact kM) rfl rfl (by simp) (by simp only [List.mem_cons, List.not_mem_nil, or_false]; rintro w (rfl | rfl | rfl | rfl) <;> first | exact short1 (by decide) | (simp only [short]; decide))) rfl ?_; rintro _ _ ⟨w4, rfl, hw4, rfl⟩) | refine op_val rfl (by exact kStr) ?_) | refine nY ?_ | refine nR ?_ | refine WC_cond rfl (fun hc => ?_) (fun hc => ?_)))
    refine ret_ret (by exact kR) ?_; exact ⟨_, by exact kP, _, _, rfl, hw4, by omega, rfl⟩
  · (repeat' (first | refine nI ?_ | (refine nA ?_; intro _) | (refine nW ?_; first | refine op_val rfl (by exact kStr) ?_) | refine nY ?_ | refine nR ?_ | refine WC_cond rfl (fun hc => ?_) (fun hc => ?_)))
    refine ret_ret (by exact kR) ?_; exact ⟨_, by exact kP, _, _, rfl, short2 (by decide) (by decide), by omega, rfl⟩
  · (repeat' (first | refine nI ?_ | (refine nA ?_; intro _) | (refine nW ?_; first | refine op_val rfl (by exact kStr) ?_) | refine nY ?_ | refine nR ?_ | refine WC_cond rfl (fun hc => ?_) (fun hc => ?_)))
    refine ret_ret (by exact kR) ?_; exact ⟨_, by exact kP, _, _, rfl, short2 (by decide) (by decide), by omega, rfl⟩
  · (repeat' (first | refine nI ?_ | (refine nA ?_; intro _) | (refine nW ?_; first | (refine op_call_id ?_; refine op_call rfl (c_of br sb bs _ (by exact kF) (hb.mono (by exact kS)) (by omega) _ _ [wLog, wKeys] _ _ (by exact kM) rfl rfl (by decide) (by simp only [List.mem_cons, List.not_mem_nil, or_false]; rintro w (rfl | rfl) <;> (simp only [short]; decide))) rfl ?_; rintro _ _ ⟨w4, rfl, hw4, rfl⟩) | refine op_val rfl (by exact kStr) ?_) | refine nY ?_ | refine nR ?_ | refine WC_cond rfl (fun hc => ?_) (fun hc => ?_)))
    refine ret_ret (by exact kR) ?_; exact ⟨_, by exact kP, _, _, rfl, hw4, by omega, rfl⟩
  · (repeat' (first | refine nI ?_ | (refine nA ?_; intro _) | (refine nW ?_; first | refine op_val rfl (by exact kStr) ?_) | refine nY ?_ | refine nR ?_ | refine WC_cond rfl (fun hc => ?_) (fun hc => ?_)))
    refine ret_ret (by exact kR) ?_; exact ⟨_, by exact kP, _, _, rfl, by simp [short], by omega, rfl⟩
  · (repeat' (first | refine nI ?_ | (refine nA ?_; intro _) | (refine nW ?_; first | (refine op_call_id ?_; refine op_call rfl (c_of br sb bs _ (by exact kF) (hb.mono (by exact kS)) (by omega) _ _ [[119, 104, 97, 116], [], wMeet, [97, 115, 32, 57], [102, 111, 114, 103, 101]] _ _ (by exact kM) rfl rfl (by decide) (by simp only [List.mem_cons, List.not_mem_nil, or_false]; rintro w (rfl | rfl | rfl | rfl | rfl) <;> (simp only [short]; decide))) rfl ?_; rintro _ _ ⟨w4, rfl, hw4, rfl⟩) | refine op_val rfl (by exact kStr) ?_) | refine nY ?_ | refine nR ?_ | refine WC_cond rfl (fun hc => ?_) (fun hc => ?_)))
    refine ret_ret (by exact kR) ?_; exact ⟨_, by exact kP, _, _, rfl, hw4, by omega, rfl⟩
  · (repeat' (first | refine nI ?_ | (refine nA ?_; intro _) | (refine nW ?_; first | (refine op_call_id ?_; refine op_ro rfl rfl (by exact c_l6Dec _ (by omega) (by omega)) ?_) | (refine op_call_id ?_; refine op_call rfl (c_pick br sb bs _ _ (by exact kF) (hb.mono (by exact kS)) (by omega)) rfl ?_; rintro _ _ ⟨x4, rfl, hx4, rfl⟩) | refine op_val rfl (by first | exact kStr | (apply gv_bin; refine val_addS rfl rfl ?_; have := dec_len x4; exact kLen)) ?_) | refine nY ?_ | refine nR ?_ | refine WC_cond rfl (fun hc => ?_) (fun hc => ?_)))
    refine ret_ret (by exact kR) ?_; exact ⟨_, by exact kP, _, _, rfl, short1 (by decide), by omega, rfl⟩
/-! ### A text many times -/
theorem ticks_add (n : Nat) : ∀ m, ticks (n + m) = ticks n ++ ticks m
  | 0 => by simp [ticks]
  | m + 1 => by
    rw [← Nat.add_assoc, ticks, ticks_add n m, ticks, List.append_assoc]
theorem ticks_len : ∀ n, (ticks n).length = 5 * n
  | 0 => rfl
  | n + 1 => by rw [ticks, List.length_append, ticks_len n]; simp; omega
theorem ticks_whole (n : Nat) : whole (ticks n) := by
  cases n with
  | zero => exact .inl rfl
  | succ n => exact .inr ⟨ticks n ++ [116, 105, 99, 107], by simp [ticks]⟩
theorem whole_app {s t : Str} (h : ∃ u, t = u ++ [10]) : whole (s ++ t) := by
  obtain ⟨u, rfl⟩ := h
  exact .inr ⟨s ++ u, by rw [List.append_assoc]⟩
theorem ticks_tail (n : Nat) : ∃ u, ticks (n + 1) = u ++ [10] := ⟨ticks n ++ [116, 105, 99, 107], by rw [ticks]; simp⟩
theorem c_l6Many {L : List Ent} : RO Tryz.prog 31 [St [116, 105, 99, 107, 10], I 130] L (St (ticks 130)) := by
  refine Tri.of Tryz.func31 rfl rfl Tryz.ntmps31 rfl rfl ?_
  (repeat' (first | refine nI ?_ | (refine nA ?_; intro _) | (refine nW ?_; first | refine op_val rfl (by exact kStr) ?_) | refine nY ?_ | refine nR ?_ | refine WC_cond rfl (fun hc => ?_) (fun hc => ?_)))
  have hlr : (List.range 8).length = 8 := List.length_range
  refine WC_loop (fun mz Ez Mz => ∃ (k : Nat) (i j m : Nat) (si sj : Str), k + mz = (List.range 8).length ∧ Ez = [(0, St sj), (1, I (m : Int)), (5, St si)] ∧ Mz = L ∧ (si = ticks i ∧ sj = ticks j ∧ i + j * m = 130 ∧ m * 2 ^ k ≤ 130 ∧ (m = 0 ∨ j ≤ 130))) (List.range 8).length (by exact kQ) (by exact kL) ⟨0, 0, 1, 130, [], [116, 105, 99, 107, 10], by omega, rfl, rfl, by exact ⟨rfl, rfl, rfl, by decide, .inr (by decide)⟩⟩ ?_
  rintro mz Ez Mz ⟨k, i, j, m, si, sj, hk, rfl, rfl, hin⟩
  rcases Nat.lt_or_ge k (List.range 8).length with hlt | hge
  · obtain ⟨hsi, hsj, h1, h2, h3⟩ := hin
    by_cases hm : m = 0
    · subst hm
      have hi : i = 130 := by omega
      subst hi
      (repeat' (first | refine nI ?_ | (refine nA ?_; intro _) | (refine nW ?_; first | refine op_val rfl (by exact kStr) ?_) | refine nY ?_ | refine nR ?_ | refine WC_cond rfl (fun hc => ?_) (fun hc => ?_)))
      refine ro_ret (by exact kR) (by exact kL) ?_; rw [hsi]; rfl
    · have h3' : j ≤ 130 := h3.resolve_left hm
      have hm130 : m ≤ 130 := Nat.le_trans (Nat.le_mul_of_pos_right m (Nat.two_pow_pos k)) h2
      have hji : i ≤ 130 := by omega
      have l1 := ticks_len i
      have l2 := ticks_len j
      rw [← hsi] at l1
      rw [← hsj] at l2
      obtain ⟨q, r, hq, hr⟩ : ∃ q r, m = 2 * q + r ∧ (r = 0 ∨ r = 1) := ⟨m / 2, m % 2, by omega, by omega⟩
      have hdiv : ((m : Int) / 2) = (q : Int) := by omega
      have hp : m * 2 ^ k = q * 2 ^ (k + 1) + r * 2 ^ k := by rw [hq, Nat.pow_succ, Nat.add_mul]; congr 1; rw [Nat.mul_comm 2 q, Nat.mul_assoc, Nat.mul_comm 2]
      have hjm : j * m = 2 * (j * q) + j * r := by rw [hq, Nat.mul_add]; congr 1; rw [Nat.mul_left_comm]
      have h5 : q = 0 ∨ j + j ≤ 130 := by
        rcases Nat.eq_zero_or_pos q with h | h
        · exact .inl h
        · right
          have := Nat.le_mul_of_pos_right j h
          omega
      have hjq : (j + j) * q = 2 * (j * q) := by rw [Nat.add_mul]; omega
      have hq1 : q * 2 ^ (k + 1) ≤ 130 := by rw [hp] at h2; exact Nat.le_trans (Nat.le_add_right _ _) h2
      have hjj : sj ++ sj = ticks (j + j) := by rw [ticks_add, hsj]
      have hij : si ++ sj = ticks (i + j) := by rw [ticks_add, hsi, hsj]
      rcases hr with rfl | rfl
      · have hmod : ((m : Int) % 2) = 0 := by omega
        (repeat' (first | refine nI ?_ | (refine nA ?_; intro _) | (refine nW ?_; first | refine op_val rfl (by first | exact val_quoE rfl rfl (by omega) (by omega) (by omega) hdiv | exact val_remE rfl rfl (by omega) (by omega) hmod | exact kStr) ?_) | refine nY ?_ | refine nR ?_ | refine WC_cond rfl (fun hc => ?_) (fun hc => ?_)))
        exact loopQ_next ⟨mz - 1, _, _, by omega, by exact kQ, by exact kL, k + 1, i, j + j, q, si, sj ++ sj, by omega, rfl, rfl, by exact ⟨hsi, hjj, by omega, hq1, h5⟩⟩
      · have hmod : ((m : Int) % 2) = 1 := by omega
        (repeat' (first | refine nI ?_ | (refine nA ?_; intro _) | (refine nW ?_; first | refine op_val rfl (by first | exact val_quoE rfl rfl (by omega) (by omega) (by omega) hdiv | exact val_remE rfl rfl (by omega) (by omega) hmod | exact kStr) ?_) | refine nY ?_ | refine nR ?_ | refine WC_cond rfl (fun hc => ?_) (fun hc => ?_)))
        exact loopQ_next ⟨mz - 1, _, _, by omega, by exact kQ, by exact kL, k + 1, i + j, j + j, q, si ++ sj, sj ++ sj, by omega, rfl, rfl, by exact ⟨hij, hjj, by omega, hq1, h5⟩⟩
  · obtain ⟨hsi, hsj, h1, h2, h3⟩ := hin
    have hk8 : k = 8 := by omega
    subst hk8
    have hm : m = 0 := by omega
    subst hm
    have hi : i = 130 := by omega
    subst hi
    (repeat' (first | refine nI ?_ | (refine nA ?_; intro _) | (refine nW ?_; first | refine op_val rfl (by exact kStr) ?_) | refine nY ?_ | refine nR ?_ | refine WC_cond rfl (fun hc => ?_) (fun hc => ?_)))
    refine ro_ret (by exact kR) (by exact kL) ?_; rw [hsi]; rfl
theorem c_drawLinesRun {L : List Ent} (sb : Sl) (bs : List Int) (h : SliceAt L encByte sb bs) (hby : ∀ x ∈ bs, 0 ≤ x ∧ x ≤ 255) : Tri Tryz.prog 11 [sb.v] L (fun v L' => ∃ (bad : Int) (s : Str), v = .tuple [I bad, St s].toArray ∧ (0 ≤ bad ∧ bad ≤ 7) ∧ whole s ∧ s.length ≤ 1500 ∧ ∃ e : Ent, L' = e :: L) := by
  obtain ⟨a, n, c⟩ := sb
  obtain ⟨tk, htk⟩ : ∃ tk, ticks 130 = tk := ⟨_, rfl⟩
  have hmany : ∀ {L : List Ent}, RO Tryz.prog 31 [St [116, 105, 99, 107, 10], I 130] L (St tk) := fun {L} => htk ▸ c_l6Many
  have hwt : ∃ u, tk = u ++ [10] := htk ▸ ticks_tail 129
  have l130 : tk.length = 650 := by rw [← htk, ticks_len]
  clear htk
  refine Tri.of Tryz.func11 rfl rfl Tryz.ntmps11 rfl rfl ?_
  (repeat' (first | refine nI ?_ | (refine nA ?_; intro _) | (refine nW ?_; first | (refine op_call_id ?_; refine op_call rfl (c_l6Open _ bs h hby) rfl ?_; rintro _ _ ⟨br, sb', bs', rfl, hb, rfl⟩) | (refine op_call_id ?_; refine op_call rfl (c_pick br sb' bs' _ _ (by exact kF) (hb.mono (by exact kS)) (by omega)) rfl ?_; rintro _ _ ⟨x, rfl, hx, rfl⟩) | refine op_val rfl (by exact kStr) ?_) | refine nY ?_ | refine nR ?_ | refine WC_cond rfl (fun hc => ?_) (fun hc => ?_)))
  have hlr : (List.range x.toNat).length = x.toNat := List.length_range
  refine WC_loop (fun mz Ez Mz => ∃ (k : Nat) (s : Str) (p m : Int), k + mz = (List.range x.toNat).length ∧ Ez = [(4, .pointer (some ⟨br, 0, none⟩)), (5, St s), (6, I m)] ∧ Mz = (br, rdO sb' p) :: L ∧ (whole s ∧ s.length ≤ 61 * k ∧ m + k = x ∧ (0 ≤ p ∧ p ≤ 10 + 5 * k))) (List.range x.toNat).length (by exact kQ) (by exact kL) ⟨0, [], 0 + 1, x, by omega, rfl, rfl, by exact ⟨.inl rfl, by simp, by simp, by omega⟩⟩ ?_
  rintro mz Ez Mz ⟨k, s, p, m, hk, rfl, rfl, hin⟩
  rcases Nat.lt_or_ge k (List.range x.toNat).length with hlt | hge
  · obtain ⟨h1, h2, h3, h4⟩ := hin
    (repeat' (first | refine nI ?_ | (refine nA ?_; intro _) | (refine nW ?_; first | (refine op_call_id ?_; refine op_call rfl (c_l72Line br sb' bs' _ (by exact kF) (hb.mono (by exact kS)) (by omega)) rfl ?_; rintro _ _ ⟨l, q, rfl, hl, hq, rfl⟩) | refine op_val rfl (by first | (apply gv_bin; refine val_addS rfl rfl ?_; have hl9 : l.length ≤ 60 := hl; exact kLen) | exact kStr) ?_) | refine nY ?_ | refine nR ?_ | refine WC_cond rfl (fun hc => ?_) (fun hc => ?_)))
    exact loopQ_next ⟨mz - 1, _, _, by omega, by exact kQ, by exact kL, k + 1, s ++ l ++ [10], q, m - 1, by omega, rfl, rfl, by exact ⟨.inr ⟨_, rfl⟩, by have hl9 : l.length ≤ 60 := hl; simp only [List.length_append, List.length_cons, List.length_nil]; omega, by omega, by omega⟩⟩
  · obtain ⟨h1, h2, h3, h4⟩ := hin
    have hs9 : s.length ≤ 800 := by omega
    (repeat' (first | refine nI ?_ | (refine nA ?_; intro _) | (refine nW ?_; first | (refine op_call_id ?_; refine op_ro rfl rfl (by exact hmany) ?_) | (refine op_call_id ?_; refine op_call rfl (c_pick br sb' bs' _ _ (by exact kF) (hb.mono (by exact kS)) (by omega)) rfl ?_; rintro _ _ ⟨x2, rfl, hx2, rfl⟩) | refine op_val rfl (by exact kStr) ?_) | refine nY ?_ | refine WC_regionN [9] rfl ?_ | refine WC_block ?_ | refine WC_cond rfl (fun hc => ?_) (fun hc => ?_)))
    · (repeat' (first | refine nI ?_ | (refine nA ?_; intro _) | (refine nW ?_; first | (refine op_call_id ?_; refine op_call rfl (c_pick br sb' bs' _ _ (by exact kF) (hb.mono (by exact kS)) (by omega)) rfl ?_; rintro _ _ ⟨x3, rfl, hx3, rfl⟩) | refine op_val rfl (by first | (apply gv_bin; refine val_quo rfl rfl ?_ ?_ ?_ <;> omega) | (apply gv_bin; refine val_mul rfl rfl ?_ ?_ <;> omega) | exact kStr) ?_) | refine nY ?_ | refine nR ?_ | refine WC_cond rfl (fun hc => ?_) (fun hc => ?_)))
      refine ret_ret (by exact kR) ?_; exact ⟨(br, _) :: L, by exact kP, _, _, rfl, by omega, whole_app hwt, by rw [List.length_append]; omega, _, rfl⟩
    · (repeat' (first | refine nI ?_ | (refine nA ?_; intro _) | (refine nW ?_; first | (refine op_call_id ?_; refine op_call rfl (c_pick br sb' bs' _ _ (by exact kF) (hb.mono (by exact kS)) (by omega)) rfl ?_; rintro _ _ ⟨x3, rfl, hx3, rfl⟩) | refine op_val rfl (by first | (apply gv_bin; refine val_quo rfl rfl ?_ ?_ ?_ <;> omega) | (apply gv_bin; refine val_mul rfl rfl ?_ ?_ <;> omega) | exact kStr) ?_) | refine nY ?_ | refine nR ?_ | refine WC_cond rfl (fun hc => ?_) (fun hc => ?_)))
      refine ret_ret (by exact kR) ?_; exact ⟨(br, _) :: L, by exact kP, _, _, rfl, by omega, h1, by omega, _, rfl⟩
end Go.Proofs.YtoledfhjmdpihaaGreatDoor
