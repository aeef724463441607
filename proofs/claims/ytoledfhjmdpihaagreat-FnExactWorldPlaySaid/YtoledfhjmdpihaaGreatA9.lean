/- The reference: what is known. -/
import Derived.Test.YtoledfhjmdpihaaGreatA6
import Derived.Test.YtoledfhjmdpihaaGreatA5
import Derived.Test.YtoledfhjmdpihaaGreatA8
import Derived.Test.YtoledfhjmdpihaaGreatA7
import Derived.Test.YtoledfhjmdpihaaGreatA1
set_option linter.unusedVariables false
set_option linter.unusedSectionVars false
set_option linter.unusedSimpArgs false
namespace Go.Proofs.YtoledfhjmdpihaaGreat
open Go Go.Proofs Go.Proofs.YtoledfhjmdpihaaGreat.VE
attribute [local irreducible] Val Op1 WO WR WA WC seqQ blockQ loopQ retQ
set_option maxHeartbeats 4000000
theorem c_l21MsgCopy {L : List Ent} (m : Msg) (sm : Sl) (h : MsgAt L m sm) (hl : m.seals.length ≤ lim) : Tri Tryz.prog 71 [msgV m sm] L (fun v L' => ∃ s' es', v = msgV m s' ∧ Row encSeal 155 s' m.seals es' ∧ L' = es' ++ L) := by
  refine Tri.of Tryz.func71 rfl rfl Tryz.ntmps71 rfl rfl ?_
  (repeat' (first | refine nX ?_ | (refine nA ?_; intro _) | (refine nW ?_; first | (refine go_append ?_; refine op_appendRow (sl := ⟨_, _, _⟩) (sx := ⟨_, _, _⟩) rfl rfl rfl rfl rfl rfl rfl rfl rfl (Row.nil) (by exact kE) ((h.mono (by exact kS))) (by (simp only [List.length_nil, lim] at *; omega)) ?_; intro sl' es' hrow' hst')) | refine nY ?_ | refine nR ?_))
  rw [List.nil_append] at hrow'
  refine ret_ret (by exact kR) ?_; exact ⟨es' ++ L, by exact kP, sl', es', rfl, hrow', rfl⟩
theorem c_l21Bad {L : List Ent} (w : World) (q : WSl) : Tri Tryz.prog 73 [worldV w q] L (fun v L' => ∃ s es, v = s.v ∧ Row encInt 3 s (own w) es ∧ L' = es ++ L) := by
  by_cases hb : w.bad = 0
  · have he : own w = [] := by unfold own; exact if_pos hb
    rw [he]
    refine Tri.of Tryz.func73 rfl rfl Tryz.ntmps73 rfl rfl ?_
    (repeat' (first | refine nI ?_ | (refine nA ?_; intro _) | refine nY ?_ | refine nR ?_ | refine WC_cond rfl (fun hc => ?_) (fun hc => ?_)))
    refine ret_ret (by exact kR) ?_; exact ⟨L, by exact kP, ⟨_, 0, 0⟩, [], rfl, Row.nil, rfl⟩
  · have he : own w = [w.bad] := by unfold own; exact if_neg hb
    rw [he]
    refine Tri.of Tryz.func73 rfl rfl Tryz.ntmps73 rfl rfl ?_
    (repeat' (first | refine nI ?_ | (refine nA ?_; intro _) | refine nY ?_ | refine nR ?_ | refine WC_cond rfl (fun hc => ?_) (fun hc => ?_)))
    rename_i b0 b1
    refine ret_ret (by exact kR) ?_; exact ⟨[(b1, cellsO [I w.bad] 3)] ++ L, by exact kP, ⟨_, _, _⟩, _, rfl, Row.lit (xs := [w.bad]) (by simp [Enc.row, encInt]) (by simp [lim]), rfl⟩
theorem c_l21Seals {L : List Ent} (w : World) (q : WSl) (ms : List (Msg × Sl)) (hr : SliceAt L encMsg q.ls ms) (hms : ms.map Prod.fst = w.log) (ha : ∀ p ∈ ms, MsgAt L p.1 p.2) (hl : (w.log.flatMap Msg.seals).length ≤ 1000) :
    Tri Tryz.prog 74 [worldV w q] L (fun v L' => ∃ s es', v = s.v ∧ Row encSeal 155 s (worldSeals w) es' ∧ L' = es' ++ L) := by
  obtain ⟨kc, cs, ss', ⟨al, nl, cl⟩⟩ := q
  have hws : worldSeals w = addNew [] (sealsOf ms) := by unfold worldSeals; rw [sealsOf_log hms]
  rw [← sealsOf_log hms] at hl
  obtain ⟨hn, hcap, hbig, hat⟩ := hr
  dsimp only at hn hcap hat
  subst hn
  simp only [big] at hbig
  refine Tri.of Tryz.func74 rfl rfl Tryz.ntmps74 rfl rfl ?_
  (repeat' (first | refine nX ?_ | (refine nA ?_; intro _) | refine nY ?_ | refine nR ?_))
  rename_i b1 b0
  refine WC_loop (fun mz Ez Mz => ∃ (k : Nat) (xs : List Seal) (a2 : Option Addr) (n2 c2 : Nat) (eo : List Ent), k + mz = (ms).length ∧ Ez = [(1, .pointer (some ⟨b1, 0, none⟩)), (3, .slice a2 n2 c2), (4, I k)] ∧ Mz = (b1, cellsO (worldC w ⟨kc, cs, ss', ⟨al, ms.length, cl⟩⟩) 43) :: (eo ++ L) ∧ (Row encSeal 155 ⟨a2, n2, c2⟩ xs eo ∧ xs = addNew [] (sealsOf (ms.take k)))) (ms).length (by exact kQ) (by exact kL) ⟨0, [], some ⟨b0, 0, none⟩, 0, 0, [], by omega, rfl, rfl, by exact ⟨Row.nil, rfl⟩⟩ ?_
  rintro mz Ez Mz ⟨k, xs, a2, n2, c2, eo, hk, rfl, rfl, hin⟩
  rcases Nat.lt_or_ge k (ms).length with hlt | hge
  · obtain ⟨hrow0, hxs⟩ := hin
    obtain ⟨ko, rfl⟩ : ∃ ko, ko = k := ⟨k, rfl⟩
    obtain ⟨mo, rfl⟩ : ∃ mo, mo = mz := ⟨mz, rfl⟩
    obtain ⟨⟨m, ⟨sa', sn, sc⟩⟩, hy2⟩ : ∃ y, ms[ko]? = some y := ⟨ms[ko]'(by omega), by simp [hlt]⟩
    obtain ⟨b'2, o2, cs2, T2, fr2, rfl, hm2, hrow2⟩ := hat (by omega)
    have hrow'2 := hrow2 ko _ hy2
    have hma := ha _ (List.mem_of_getElem? hy2)
    have hsn : sn = m.seals.length := hma.1
    subst hsn
    have hsb := hma.2.2.1
    have hsr := hma.2.2.2
    dsimp only at hsb hsr
    simp only [big] at hsb
    have hlen1 := addNew_len (sealsOf (ms.take ko)) []
    have hlen2 := sealsOf_take ms (ko + 1)
    rw [sealsOf_next hy2, List.length_append] at hlen2
    rw [← hxs] at hlen1
    simp only [List.length_nil, Nat.zero_add] at hlen1
    dsimp only at hlen2
    (repeat' (first | refine nI ?_ | (refine nA ?_; intro _) | refine nY ?_ | refine nR ?_ | refine WC_cond rfl (fun hc => ?_) (fun hc => ?_)))
    refine WC_loop (fun mz Ez Mz => ∃ (k : Nat) (ys : List Seal) (a3 : Option Addr) (n3 c3 : Nat) (eq : List Ent), k + mz = (m.seals).length ∧ Ez = [(1, .pointer (some ⟨b1, 0, none⟩)), (3, .slice a3 n3 c3), (4, I ko), (5, I k)] ∧ Mz = (b1, cellsO (worldC w ⟨kc, cs, ss', ⟨some ⟨b'2, o2, none⟩, ms.length, cl⟩⟩) 43) :: (eq ++ L) ∧ (Row encSeal 155 ⟨a3, n3, c3⟩ ys eq ∧ ys = addNew xs (m.seals.take k))) (m.seals).length (by exact kQ) (by exact kL) ⟨0, xs, a2, n2, c2, eo, by omega, rfl, rfl, by exact ⟨hrow0, rfl⟩⟩ ?_
    rintro mz Ez Mz ⟨k, ys, a3, n3, c3, eq, hk, rfl, rfl, hin⟩
    rcases Nat.lt_or_ge k (m.seals).length with hlt | hge
    · obtain ⟨hrow1, hys⟩ := hin
      obtain ⟨y3, hy3⟩ : ∃ y, (m.seals)[k]? = some y := ⟨(m.seals)[k]'(by omega), by simp [hlt]⟩; obtain ⟨b'3, o3, cs3, T3, fr3, rfl, hm3, hrow3⟩ := hsr (by omega); have hrow'3 := hrow3 k y3 hy3; have htk3 := take_next hy3
      have hlen3 := addNew_len (m.seals.take k) xs
      rw [← hys, List.length_take] at hlen3
      have hsnoc : addNew xs (m.seals.take (k + 1)) = if y3 ∈ ys then ys else ys ++ [y3] := by rw [htk3, addNew_append, ← hys]; rfl
      by_cases hin3 : y3 ∈ ys
      · (repeat' (first | refine nI ?_ | (refine nA ?_; intro _) | (refine nW ?_; first | (refine op_call_id ?_; refine op_ro rfl rfl (by exact (c_spec.l3Among ⟨a3, n3, c3⟩ ys y3 (hrow1.atL (by exact kS))).eq (congrArg B (decide_eq_true hin3))) ?_)) | refine nY ?_ | refine nR ?_ | refine WC_cond rfl (fun hc => ?_) (fun hc => ?_)))
        exact loopQ_next ⟨mz - 1, _, _, by omega, by exact kQ, by exact kL, k + 1, ys, a3, n3, c3, eq, by omega, rfl, rfl, by exact ⟨hrow1, by rw [hsnoc, if_pos hin3]⟩⟩
      · (repeat' (first | refine nI ?_ | (refine nA ?_; intro _) | (refine nW ?_; first | (refine op_call_id ?_; refine op_ro rfl rfl (by exact (c_spec.l3Among ⟨a3, n3, c3⟩ ys y3 (hrow1.atL (by exact kS))).eq (congrArg B (decide_eq_false hin3))) ?_) | (refine go_append ?_; refine op_appendRow (sl := ⟨_, _, _⟩) (sx := ⟨_, _, _⟩) rfl rfl rfl rfl rfl rfl rfl rfl rfl (hrow1) (by exact kE) (SliceAt.one (x := y3) (by exact kM) rfl) (by exact kN) ?_; intro sl' es' hrow' hst')) | refine nY ?_ | refine nR ?_ | refine WC_cond rfl (fun hc => ?_) (fun hc => ?_)))
        obtain ⟨a9, n9, c9⟩ := sl'
        exact loopQ_next ⟨mz - 1, _, _, by omega, by exact kQ, by exact kL, k + 1, ys ++ [y3], a9, n9, c9, es', by omega, rfl, rfl, by exact ⟨hrow', by rw [hsnoc, if_neg hin3]⟩⟩
    · obtain ⟨hrow1, hys⟩ := hin
      rw [take_all hge] at hys
      (repeat' (first | refine nI ?_ | (refine nA ?_; intro _) | refine nY ?_ | refine nR ?_ | refine WC_cond rfl (fun hc => ?_) (fun hc => ?_)))
      have hfin : ys = addNew [] (sealsOf (ms.take (ko + 1))) := by rw [sealsOf_next hy2, addNew_append, ← hxs, hys]
      exact loopQ_next ⟨mo - 1, _, _, by omega, by exact kQ, by exact kL, ko + 1, ys, a3, n3, c3, eq, by omega, rfl, rfl, hrow1, hfin⟩
  · obtain ⟨hrow0, hxs⟩ := hin
    rw [take_all hge, ← hws] at hxs
    subst hxs
    (repeat' (first | refine nI ?_ | (refine nA ?_; intro _) | refine nY ?_ | refine nR ?_ | refine WC_cond rfl (fun hc => ?_) (fun hc => ?_)))
    refine ret_ret (by exact kR) ?_; exact ⟨eo ++ L, by exact kP, ⟨_, _, _⟩, eo, rfl, hrow0, rfl⟩
theorem sealOk_key {s : Seal} (h : sealOk s = true) : 1 ≤ s.key ∧ s.key ≤ 60 := by
  have := sealOk_cases h
  omega
theorem holds_range {s : Seal} (h : sealOk s = true) : 0 ≤ holds s ∧ holds s ≤ 60 := by
  have := sealOk_cases h
  unfold holds
  split
  · omega
  split <;> omega
theorem zeros_rep (v : Value) : ∀ n, zerosOf [v] n = List.replicate n v
  | 0 => rfl
  | n + 1 => by simp only [zerosOf, zeros_rep v n, List.replicate_succ]; rfl
theorem ring_zeros : zerosOf [B false] 61 = ringC (fun _ => false) := by rw [zeros_rep, ringC, List.map_const', List.length_range]
theorem c_l3All {L : List Ent} (sk ss : Sl) (keys : List Int) (seals : List Seal) (hk : SliceAt L encInt sk keys) (hs : SliceAt L encSeal ss seals) :
    Tri Tryz.prog 142 [sk.v, ss.v] L (fun v L' => ∃ b f, v = .slice (some ⟨b, 0, none⟩) 61 61 ∧ Ring keys seals f ∧ f 0 = false ∧ L' = (b, cellsO (ringC f) 4) :: L) := by
  obtain ⟨ak, nk, ck⟩ := sk
  obtain ⟨as_, ns, cs⟩ := ss
  obtain ⟨hn1, hc1, hb1, hat1⟩ := hk
  obtain ⟨hn2, hc2, hb2, hat2⟩ := hs
  dsimp only at hn1 hn2 hat1 hat2
  subst hn1 hn2
  simp only [big] at hb1 hb2
  refine Tri.of Tryz.func142 rfl rfl Tryz.ntmps142 rfl rfl ?_
  (repeat' (first | refine nX ?_ | (refine nA ?_; intro _) | (refine nW ?_; first | (refine op_makeSlice (l := 61) (c := 61) rfl rfl rfl rfl rfl rfl rfl rfl rfl rfl ?_; intro _)) | refine nY ?_ | refine nR ?_))
  rw [ring_zeros]
  rename_i br
  refine WC_loop (fun mz Ez Mz => ∃ (k : Nat) (f : Nat → Bool), k + mz = (keys).length ∧ Ez = [(0, .slice ak keys.length ck), (1, .slice as_ seals.length cs), (5, .slice (some ⟨br, 0, none⟩) 61 61), (6, I k)] ∧ Mz = (br, cellsO (ringC f) 4) :: L ∧ (RingIn keys seals f ∧ (∀ x ∈ keys.take k, within x 1 60 = true → f x.toNat = true))) (keys).length (by exact kQ) (by exact kL) ⟨0, (fun _ => false), by omega, rfl, rfl, by exact ⟨⟨by simp, by simp⟩, by simp⟩⟩ ?_
  rintro mz Ez Mz ⟨k, f, hk, rfl, rfl, hin⟩
  rcases Nat.lt_or_ge k (keys).length with hlt | hge
  · obtain ⟨hri, hks⟩ := hin
    obtain ⟨y2, hy2⟩ : ∃ y, (keys)[k]? = some y := ⟨(keys)[k]'(by omega), by simp [hlt]⟩; obtain ⟨b'2, o2, cs2, T2, fr2, rfl, hm2, hrow2⟩ := hat1 (by omega); have hrow'2 := hrow2 k y2 hy2; have htk2 := take_next hy2
    cases hw : within y2 1 60 with
    | false =>
      (repeat' (first | refine nI ?_ | (refine nA ?_; intro _) | (refine nW ?_; first | (refine op_call_id ?_; refine op_ro rfl rfl (by exact (c_l6In _ _ _).eq (congrArg B hw)) ?_)) | refine nY ?_ | refine nR ?_ | refine WC_cond rfl (fun hc => ?_) (fun hc => ?_)))
      exact loopQ_next ⟨mz - 1, _, _, by omega, by exact kQ, by exact kL, k + 1, f, by omega, rfl, rfl, by (refine ⟨hri, ?_⟩; rw [htk2]; exact all_next hks (fun h => by rw [hw] at h; cases h))⟩
    | true =>
      have hy := within_iff.1 hw
      have hy' : 0 ≤ y2 ∧ y2 ≤ 60 := by omega
      (repeat' (first | refine nI ?_ | (refine nA ?_; intro _) | (refine nW ?_; first | (refine op_call_id ?_; refine op_ro rfl rfl (by exact (c_l6In _ _ _).eq (congrArg B hw)) ?_) | (refine op_store_id ?_; (refine op_store1 rfl rfl rfl rfl rfl (by exact kF) (ring_blt f hy') (ring_set f hy') ?_))) | refine nY ?_ | refine nR ?_ | refine WC_cond rfl (fun hc => ?_) (fun hc => ?_)))
      exact loopQ_next ⟨mz - 1, _, _, by omega, by exact kQ, by exact kL, k + 1, ringPut f y2.toNat, by omega, rfl, rfl, by (refine ⟨ringIn_put hri hy (.has (List.mem_of_getElem? hy2) hw), ?_⟩; rw [htk2]; exact all_next (fun x hx h => ringPut_keep (hks x hx h)) (fun _ => by simp [ringPut]))⟩
  obtain ⟨hri0, hks0⟩ := hin
  rw [take_all hge] at hks0
  (repeat' (first | refine nI ?_ | (refine nA ?_; intro _) | refine nY ?_ | refine nR ?_ | refine WC_cond rfl (fun hc => ?_) (fun hc => ?_)))
  clear hk hge
  refine WC_loop (fun mz Ez Mz => ∃ (f : Nat → Bool) (k : Nat), cnt f * (seals.length + 1) + (seals.length - k) = mz ∧ k ≤ seals.length ∧ Ez = [(1, .slice as_ seals.length cs), (5, .slice (some ⟨br, 0, none⟩) 61 61), (7, I k)] ∧ Mz = (br, cellsO (ringC f) 4) :: L ∧ RingIn keys seals f ∧ (∀ x ∈ keys, within x 1 60 = true → f x.toNat = true) ∧ (∀ s ∈ seals.take k, closedAt f s)) (cnt f * (seals.length + 1) + (seals.length - 0)) (by exact kQ) (by exact kL) ⟨f, 0, rfl, Nat.zero_le _, rfl, rfl, hri0, hks0, by simp⟩ ?_
  rintro mo Eo Mo ⟨f0, k, hmo, hkl, rfl, rfl, hri1, hks1, hcl1⟩
  rcases Nat.lt_or_ge k seals.length with hlt | hge
  rotate_left
  · rw [take_all hge] at hcl1
    (repeat' (first | refine nI ?_ | (refine nA ?_; intro _) | refine nY ?_ | refine nR ?_ | refine WC_cond rfl (fun hc => ?_) (fun hc => ?_)))
    refine ret_ret (by exact kR) ?_; exact ⟨(br, cellsO (ringC f0) 4) :: L, by exact kP, br, f0, rfl, ring_of hri1 hks1 hcl1, Bool.eq_false_iff.2 (fun h => by have := (hri1.range 0 h).1; omega), rfl⟩
  obtain ⟨y2, hy2⟩ : ∃ y, (seals)[k]? = some y := ⟨(seals)[k]'(by omega), by simp [hlt]⟩; obtain ⟨b'2, o2, cs2, T2, fr2, rfl, hm2, hrow2⟩ := hat2 (by omega); have hrow'2 := hrow2 k y2 hy2; have htk2 := take_next hy2
  by_cases hpos : 0 < sealHolds y2
  rotate_left
  · (repeat' (first | refine nI ?_ | (refine nA ?_; intro _) | (refine nW ?_; first | (refine op_call_id ?_; refine op_ro rfl rfl (by exact c_sSealHolds y2) ?_)) | refine nY ?_ | refine nR ?_ | refine WC_cond rfl (fun hc => ?_) (fun hc => ?_)))
    exact loopQ_next ⟨cnt f0 * (seals.length + 1) + (seals.length - (k + 1)), _, _, by omega, by exact kQ, by exact kL, f0, k + 1, rfl, hlt, rfl, rfl, hri1, hks1, by rw [htk2]; exact all_next hcl1 (fun h1 => (hpos h1).elim)⟩
  have hr := sealHolds_range hpos
  have hr' : 0 ≤ sealHolds y2 ∧ sealHolds y2 ≤ 60 := by omega
  have hky := sealOk_key hr.2
  have hky' : 0 ≤ y2.key ∧ y2.key ≤ 60 := by omega
  have hkw : within y2.key 1 60 = true := within_iff.2 hky
  have hgk := ring_get f0 hky'
  cases hh : f0 y2.key.toNat with
  | false =>
    rw [hh] at hgk
    (repeat' (first | refine nI ?_ | (refine nA ?_; intro _) | (refine nW ?_; first | (refine op_call_id ?_; refine op_ro rfl rfl (by exact c_sSealHolds y2) ?_) | (refine op_load_id ?_; refine op_val rfl (by exact val_load1 rfl rfl rfl (by exact kM) hgk) ?_)) | refine nY ?_ | refine nR ?_ | refine WC_cond rfl (fun hc => ?_) (fun hc => ?_)))
    exact loopQ_next ⟨cnt f0 * (seals.length + 1) + (seals.length - (k + 1)), _, _, by omega, by exact kQ, by exact kL, f0, k + 1, rfl, hlt, rfl, rfl, hri1, hks1, by rw [htk2]; exact all_next hcl1 (fun _ h2 => by rw [hh, Bool.and_false] at h2; cases h2)⟩
  | true =>
    rw [hh] at hgk
    have hget := ring_get f0 hr'
    cases hf : f0 (sealHolds y2).toNat with
    | true =>
      rw [hf] at hget
      (repeat' (first | refine nI ?_ | (refine nA ?_; intro _) | (refine nW ?_; first | (refine op_call_id ?_; refine op_ro rfl rfl (by exact c_sSealHolds y2) ?_) | (refine op_load_id ?_; refine op_val rfl (by first | exact val_load1 rfl rfl rfl (by exact kM) hgk | exact val_load1 rfl rfl rfl (by exact kM) hget) ?_)) | refine nY ?_ | refine nR ?_ | refine WC_cond rfl (fun hc => ?_) (fun hc => ?_)))
      exact loopQ_next ⟨cnt f0 * (seals.length + 1) + (seals.length - (k + 1)), _, _, by omega, by exact kQ, by exact kL, f0, k + 1, rfl, hlt, rfl, rfl, hri1, hks1, by rw [htk2]; exact all_next hcl1 (fun _ _ => hf)⟩
    | false =>
      rw [hf] at hget
      have hcm : Comes keys seals (sealHolds y2) := by
        have h3 := hri1.sound _ hh
        rw [show ((y2.key.toNat : Nat) : Int) = y2.key by omega] at h3
        exact .opens (List.mem_of_getElem? hy2) h3 hpos
      have hcnt := cnt_put (f := f0) (k := (sealHolds y2).toNat) (by omega) hf
      have hmul := Nat.mul_le_mul_right (seals.length + 1) (Nat.succ_le_of_lt hcnt)
      rw [Nat.succ_mul] at hmul
      (repeat' (first | refine nI ?_ | (refine nA ?_; intro _) | (refine nW ?_; first | (refine op_call_id ?_; refine op_ro rfl rfl (by exact c_sSealHolds y2) ?_) | (refine op_store_id ?_; (refine op_store1 rfl rfl rfl rfl rfl (by exact kF) (ring_blt f0 hr') (ring_set f0 hr') ?_)) | (refine op_load_id ?_; refine op_val rfl (by first | exact val_load1 rfl rfl rfl (by exact kM) hgk | exact val_load1 rfl rfl rfl (by exact kM) hget) ?_)) | refine nY ?_ | refine nR ?_ | refine WC_cond rfl (fun hc => ?_) (fun hc => ?_)))
      exact loopQ_next ⟨cnt (ringPut f0 (sealHolds y2).toNat) * (seals.length + 1) + (seals.length - 0), _, _, by omega, by exact kQ, by exact kL, ringPut f0 (sealHolds y2).toNat, 0, rfl, Nat.zero_le _, rfl, rfl, ringIn_put hri1 (by omega) hcm, fun x hx h => ringPut_keep (hks1 x hx h), by simp⟩
theorem c_sKnowBuild {L : List Ent} (sk ss sm : Sl) (keys : List Int) (seals : List Seal) (m : Msg) (hk : SliceAt L encInt sk keys) (hs : SliceAt L encSeal ss seals) (hm : MsgAt L m sm) :
    RO Tryz.prog 72 [sk.v, ss.v, msgV m sm] L (B (knowBuild keys seals m)) := by
  cases hok : msgOk m with
  | false =>
    have he : knowBuild keys seals m = false := by simp [knowBuild, hok]
    rw [he]
    refine Tri.of Tryz.func72 rfl rfl Tryz.ntmps72 rfl rfl ?_
    (repeat' (first | refine nI ?_ | (refine nA ?_; intro _) | (refine nW ?_; first | (refine op_call_id ?_; refine op_ro rfl rfl (by exact (c_sMsgOk m _ (hm.mono (by exact kS))).eq (congrArg B hok)) ?_)) | refine nY ?_ | refine nR ?_ | refine WC_cond rfl (fun hc => ?_) (fun hc => ?_)))
    refine ro_ret (by exact kR) (by exact kL) ?_; rfl
  | true =>
    have hsok := msgOk_seals hok
    obtain ⟨a, n, c⟩ := sm
    have hmm := hm
    obtain ⟨hn, hc, hbig, hat⟩ := hm
    dsimp only at hn hc hat
    subst hn
    simp only [big] at hbig
    refine Tri.of Tryz.func72 rfl rfl Tryz.ntmps72 rfl rfl ?_
    (repeat' (first | refine nI ?_ | (refine nA ?_; intro _) | (refine nW ?_; first | (refine op_call_id ?_; refine op_ro rfl rfl (by exact (c_sMsgOk m _ (hmm.mono (by exact kS))).eq (congrArg B hok)) ?_) | (refine op_call_id ?_; refine op_call rfl (c_l3All sk ss keys seals (hk.mono (by exact kS)) (hs.mono (by exact kS))) rfl ?_; rintro _ _ ⟨br, f, rfl, hf, hf0, rfl⟩)) | refine nY ?_ | refine nR ?_ | refine WC_cond rfl (fun hc => ?_) (fun hc => ?_)))
    rename_i b5
    refine WC_loop (fun mz Ez Mz => ∃ k : Nat, k + mz = (m.seals).length ∧ Ez = [(1, ss.v), (5, .pointer (some ⟨b5, 0, none⟩)), (7, .slice (some ⟨br, 0, none⟩) 61 61), (8, I k)] ∧ Mz = (br, cellsO (ringC f) 4) :: (b5, cellsO (msgC m ⟨a, m.seals.length, c⟩) 47) :: L ∧ (∀ x ∈ m.seals.take k, canMake keys seals x = true)) (m.seals).length (by exact kQ) (by exact kL) ⟨0, by omega, rfl, rfl, by simp⟩ ?_
    rintro mz Ez Mz ⟨k, hk, rfl, rfl, hin⟩
    rcases Nat.lt_or_ge k (m.seals).length with hlt | hge
    · obtain ⟨y2, hy2⟩ : ∃ y, (m.seals)[k]? = some y := ⟨(m.seals)[k]'(by omega), by simp [hlt]⟩; obtain ⟨b'2, o2, cs2, T2, fr2, rfl, hm2, hrow2⟩ := hat (by omega); have hrow'2 := hrow2 k y2 hy2; have htk2 := take_next hy2
      have hso := hsok y2 (List.mem_of_getElem? hy2)
      have hky := sealOk_key hso
      have hky' : 0 ≤ y2.key ∧ y2.key ≤ 60 := by omega
      have hho := holds_range hso
      have hsh : sealHolds y2 = holds y2 := by unfold sealHolds; rw [if_pos hso]
      have hgk := ring_get f hky'
      have hgh := ring_get f hho
      have hfk : f y2.key.toNat = comes keys seals y2.key := by rw [← hf y2.key, within_iff.2 hky]; rfl
      by_cases hin2 : y2 ∈ seals
      · (repeat' (first | refine nI ?_ | (refine nA ?_; intro _) | (refine nW ?_; first | (refine op_call_id ?_; refine op_ro rfl rfl (by first | exact c_l1Holds y2 | exact (c_spec.l3Among ss seals y2 (hs.mono (by exact kS))).eq (congrArg B (decide_eq_true hin2))) ?_)) | refine nY ?_ | refine nR ?_ | refine WC_cond rfl (fun hc => ?_) (fun hc => ?_)))
        exact loopQ_next ⟨mz - 1, _, _, by omega, by exact kQ, by exact kL, k + 1, by omega, rfl, rfl, by rw [htk2]; exact all_next hin (by simp [canMake, hin2])⟩
      cases hc1 : comes keys seals y2.key with
      | false =>
        rw [hfk, hc1] at hgk
        have he : knowBuild keys seals m = false := by
          have : m.seals.all (canMake keys seals) = false := List.all_eq_false.2 ⟨y2, List.mem_of_getElem? hy2, by simp [canMake, hin2, hc1]⟩
          simp [knowBuild, this]
        rw [he]
        (repeat' (first | refine nI ?_ | (refine nA ?_; intro _) | (refine nW ?_; first | (refine op_call_id ?_; refine op_ro rfl rfl (by first | exact c_l1Holds y2 | exact (c_spec.l3Among ss seals y2 (hs.mono (by exact kS))).eq (congrArg B (decide_eq_false hin2))) ?_) | (refine op_load_id ?_; refine op_val rfl (by exact val_load1 rfl rfl rfl (by exact kM) hgk) ?_)) | refine nY ?_ | refine nR ?_ | refine WC_cond rfl (fun hc => ?_) (fun hc => ?_)))
        refine ro_ret (by exact kR) (by exact kL) ?_; rfl
      | true =>
        rw [hfk, hc1] at hgk
        by_cases h0 : 0 < holds y2
        rotate_left
        · have h0' : holds y2 = 0 := by omega
          (repeat' (first | refine nI ?_ | (refine nA ?_; intro _) | (refine nW ?_; first | (refine op_call_id ?_; refine op_ro rfl rfl (by first | exact c_l1Holds y2 | exact (c_spec.l3Among ss seals y2 (hs.mono (by exact kS))).eq (congrArg B (decide_eq_false hin2))) ?_) | (refine op_load_id ?_; refine op_val rfl (by exact val_load1 rfl rfl rfl (by exact kM) hgk) ?_)) | refine nY ?_ | refine nR ?_ | refine WC_cond rfl (fun hc => ?_) (fun hc => ?_)))
          exact loopQ_next ⟨mz - 1, _, _, by omega, by exact kQ, by exact kL, k + 1, by omega, rfl, rfl, by rw [htk2]; exact all_next hin (by simp [canMake, hc1, hsh, h0'])⟩
        have hr2 := sealHolds_range (s := y2) (by omega)
        have hfh : f (holds y2).toNat = comes keys seals (holds y2) := by rw [← hf (holds y2), within_iff.2 (show 1 ≤ holds y2 ∧ holds y2 ≤ 60 by omega)]; rfl
        cases hc2 : comes keys seals (holds y2) with
        | false =>
          rw [hfh, hc2] at hgh
          have he : knowBuild keys seals m = false := by
            have : m.seals.all (canMake keys seals) = false := List.all_eq_false.2 ⟨y2, List.mem_of_getElem? hy2, by simp [canMake, hin2, hsh, hc2]; intro _; omega⟩
            simp [knowBuild, this]
          rw [he]
          (repeat' (first | refine nI ?_ | (refine nA ?_; intro _) | (refine nW ?_; first | (refine op_call_id ?_; refine op_ro rfl rfl (by first | exact c_l1Holds y2 | exact (c_spec.l3Among ss seals y2 (hs.mono (by exact kS))).eq (congrArg B (decide_eq_false hin2))) ?_) | (refine op_load_id ?_; refine op_val rfl (by first | exact val_load1 rfl rfl rfl (by exact kM) hgk | exact val_load1 rfl rfl rfl (by exact kM) hgh) ?_)) | refine nY ?_ | refine nR ?_ | refine WC_cond rfl (fun hc => ?_) (fun hc => ?_)))
          refine ro_ret (by exact kR) (by exact kL) ?_; rfl
        | true =>
          rw [hfh, hc2] at hgh
          (repeat' (first | refine nI ?_ | (refine nA ?_; intro _) | (refine nW ?_; first | (refine op_call_id ?_; refine op_ro rfl rfl (by first | exact c_l1Holds y2 | exact (c_spec.l3Among ss seals y2 (hs.mono (by exact kS))).eq (congrArg B (decide_eq_false hin2))) ?_) | (refine op_load_id ?_; refine op_val rfl (by first | exact val_load1 rfl rfl rfl (by exact kM) hgk | exact val_load1 rfl rfl rfl (by exact kM) hgh) ?_)) | refine nY ?_ | refine nR ?_ | refine WC_cond rfl (fun hc => ?_) (fun hc => ?_)))
          exact loopQ_next ⟨mz - 1, _, _, by omega, by exact kQ, by exact kL, k + 1, by omega, rfl, rfl, by rw [htk2]; exact all_next hin (by simp [canMake, hc1, hsh, hc2])⟩
    · rw [take_all hge] at hin
      have he : knowBuild keys seals m = true := by simp [knowBuild, hok, List.all_eq_true]; exact hin
      rw [he]
      (repeat' (first | refine nI ?_ | (refine nA ?_; intro _) | refine nY ?_ | refine nR ?_ | refine WC_cond rfl (fun hc => ?_) (fun hc => ?_)))
      refine ro_ret (by exact kR) (by exact kL) ?_; rfl
end Go.Proofs.YtoledfhjmdpihaaGreat
/- The reference: what one can read; the begin of a world; what is sent. -/
set_option linter.unusedVariables false
set_option linter.unusedSectionVars false
set_option linter.unusedSimpArgs false
namespace Go.Proofs.YtoledfhjmdpihaaGreat
open Go Go.Proofs Go.Proofs.YtoledfhjmdpihaaGreat.VE
attribute [local irreducible] Val Op1 WO WR WA WC seqQ blockQ loopQ retQ
set_option maxHeartbeats 4000000
/-- A world that is handed on whole. -/
def WldV (L0 : List Ent) (w : World) (v : Value) (L' : List Ent) : Prop := ∃ q ps ss ms ek ec ca es sa el la, v = worldV w q ∧ WldOwn w q ps ss ms ek ec ca es sa el la ∧ L' = wldE ek ec ca es sa el la ++ L0
theorem WldV.sub {A L0 : List Ent} {w : World} {v : Value} {L : List Ent} (h : WldV A w v L) (hs : SubP A L0) : ∃ M, SubP L M ∧ WldV L0 w v M := by
  obtain ⟨q, ps, ss, ms, ek, ec, ca, es, sa, el, la, h0, h1, rfl⟩ := h
  exact ⟨wldE ek ec ca es sa el la ++ L0, SubP.front (.refl _) hs, q, ps, ss, ms, ek, ec, ca, es, sa, el, la, h0, h1, rfl⟩
theorem c_l21Send {L L0 em : List Ent} (w : World) (q : WSl) (ps : List (Client × CSl)) (ss : List (Serv × (Sl × Sl))) (ms : List (Msg × Sl)) (ek ec ca es sa el la : List Ent) (hL : SubP L (wldE ek ec ca es sa el la ++ (em ++ L0))) (hown : WldOwn w q ps ss ms ek ec ca es sa el la) (m : Msg) (sm : Sl) (ok : Bool) (hll : w.log.length ≤ 80) (hm : Row encSeal 155 sm m.seals em) :
    Tri Tryz.prog 75 [worldV w q, msgV m sm, B ok] L (WldV L0 (send w (if ok then some m else none))) := by
  refine Tri.pre ?_ hL.lsub
  have hl := ms_len hown
  obtain ⟨kc, cs, ss', ⟨a, n, cap⟩⟩ := q
  have hn := hown.mr.n
  dsimp only at hn
  subst hn
  have hmr := hown.mr
  dsimp only at hmr
  cases ok with
  | false =>
    refine Tri.of Tryz.func75 rfl rfl Tryz.ntmps75 rfl rfl ?_
    (repeat' (first | refine nX ?_ | (refine nA ?_; intro _) | refine nY ?_ | refine nR ?_ | refine WC_cond rfl (fun hc => ?_) (fun hc => ?_)))
    refine ret_ret (by exact kR) ?_; exact ⟨wldE ek ec ca es sa el la ++ L0, by exact kP, _, ps, ss, ms, ek, ec, ca, es, sa, el, la, rfl, hown, rfl⟩
  | true =>
    by_cases hr : w.log.length < 80
    rotate_left
    · have he : send w (if true = true then some m else none) = w := by simp [send, hr]
      rw [he]
      refine Tri.of Tryz.func75 rfl rfl Tryz.ntmps75 rfl rfl ?_
      (repeat' (first | refine nI ?_ | (refine nA ?_; intro _) | refine nY ?_ | refine nR ?_ | refine WC_cond rfl (fun hc => ?_) (fun hc => ?_)))
      refine ret_ret (by exact kR) ?_; exact ⟨wldE ek ec ca es sa el la ++ L0, by exact kP, _, ps, ss, ms, ek, ec, ca, es, sa, el, la, rfl, hown, rfl⟩
    · have he : send w (if true = true then some m else none) = { w with log := w.log ++ [m] } := by simp [send, hr]
      rw [he]
      simp only [wldE, List.append_assoc]
      refine Tri.of Tryz.func75 rfl rfl Tryz.ntmps75 rfl rfl ?_
      (repeat' (first | refine nI ?_ | (refine nA ?_; intro _) | (refine nW ?_; first | (refine go_append ?_; refine op_appendRow (sl := ⟨_, _, _⟩) (sx := ⟨_, _, _⟩) rfl rfl rfl rfl rfl rfl rfl rfl rfl (hmr) (by exact kE) (SliceAt.one (E := encMsg) (x := (m, sm)) (by exact kM) rfl) (by exact kN) ?_; intro sl' es' hrow' hst')) | refine nY ?_ | refine nR ?_ | refine WC_cond rfl (fun hc => ?_) (fun hc => ?_)))
      refine ret_ret (by exact kR) ?_; exact ⟨ek ++ (ec ++ (ca ++ (es ++ (sa ++ (es' ++ (la ++ (em ++ L0))))))), by exact kP, ⟨kc, cs, ss', sl'⟩, ps, ss, ms ++ [(m, sm)], ek, ec, ca, es, sa, es', la ++ em, rfl, ⟨hown.kc, hown.pe, hown.pr, hown.pa, hown.se, hown.sr, hown.sa, by simp [hown.me], hrow', hown.ma.snoc hm⟩, by simp [wldE]⟩
theorem c_sKdcNew {L : List Ent} : Tri Tryz.prog 117 [] L (fun v L' => ∃ b, v = .agg [I 10, .slice (some ⟨b, 0, none⟩) 0 0].toArray ∧ L' = L) := by
  refine Tri.of Tryz.func117 rfl rfl Tryz.ntmps117 rfl rfl ?_
  (repeat' (first | refine nX ?_ | (refine nA ?_; intro _) | refine nY ?_ | refine nR ?_))
  refine ret_ret (by exact kR) ?_; exact ⟨L, by exact kP, _, rfl, rfl⟩
theorem c_sClientNew {L : List Ent} (id : Int) (h : userOk id = true) : Tri Tryz.prog 118 [I id] L (fun v L' => ∃ s, v = .tuple [clientV (clientNew id) s, B true].toArray ∧ CliOwn (clientNew id, s) [] ∧ L' = L) := by
  refine Tri.of Tryz.func118 rfl rfl Tryz.ntmps118 rfl rfl ?_
  (repeat' (first | refine nX ?_ | (refine nA ?_; intro _) | (refine nW ?_; first | (refine op_call_id ?_; refine op_ro rfl rfl (by exact (c_l1User _).eq (congrArg B h)) ?_)) | refine nY ?_ | refine nR ?_ | refine WC_cond rfl (fun hc => ?_) (fun hc => ?_)))
  all_goals (refine ret_ret (by exact kR) ?_; exact ⟨L, by exact kP, ⟨⟨_, 0, 0⟩, ⟨_, 0, 0⟩, ⟨_, 0, 0⟩, ⟨_, 0, 0⟩⟩, rfl, ⟨[], [], [], [], rfl, Row.nil, Row.nil, Row.nil, Row.nil⟩, rfl⟩)
theorem c_sServNew {L : List Ent} (id : Int) (h : servOk id = true) : Tri Tryz.prog 119 [I id] L (fun v L' => ∃ c t, v = .tuple [servV (servNew id) c t, B true].toArray ∧ SrvOwn (servNew id, c, t) [] ∧ L' = L) := by
  refine Tri.of Tryz.func119 rfl rfl Tryz.ntmps119 rfl rfl ?_
  (repeat' (first | refine nX ?_ | (refine nA ?_; intro _) | (refine nW ?_; first | (refine op_call_id ?_; refine op_ro rfl rfl (by exact (c_l1Serv _).eq (congrArg B h)) ?_)) | refine nY ?_ | refine nR ?_ | refine WC_cond rfl (fun hc => ?_) (fun hc => ?_)))
  all_goals (refine ret_ret (by exact kR) ?_; exact ⟨L, by exact kP, ⟨_, 0, 0⟩, ⟨_, 0, 0⟩, rfl, ⟨[], [], rfl, Row.nil, Row.nil⟩, rfl⟩)
theorem c_sWorldNew0 {L : List Ent} (bad : Int) (h : within bad 0 3 = false) : RO Tryz.prog 55 [I bad] L (.tuple [worldV World.zero WSl.nil, B false].toArray) := by
  refine Tri.of Tryz.func55 rfl rfl Tryz.ntmps55 rfl rfl ?_
  (repeat' (first | refine nX ?_ | (refine nA ?_; intro _) | (refine nW ?_; first | (refine op_call_id ?_; refine op_ro rfl rfl (by exact (c_l6In _ _ _).eq (congrArg B h)) ?_)) | refine nY ?_ | refine nR ?_ | refine WC_cond rfl (fun hc => ?_) (fun hc => ?_)))
  refine ro_ret (by exact kR) (by exact kL) ?_; rfl
theorem c_sWorldNew1 {L : List Ent} (bad : Int) (h : within bad 0 3 = true) : Tri Tryz.prog 55 [I bad] L (fun v L' => ∃ q ps ss ms ek ec ca es sa el la, v = .tuple [worldV (worldNew bad) q, B true].toArray ∧ WldOwn (worldNew bad) q ps ss ms ek ec ca es sa el la ∧ L' = wldE ek ec ca es sa el la ++ L) := by
  refine Tri.of Tryz.func55 rfl rfl Tryz.ntmps55 rfl rfl ?_
  (repeat' (first | refine nX ?_ | (refine nA ?_; intro _) | (refine nW ?_; first | (refine op_call_id ?_; refine op_ro rfl rfl (by exact (c_l6In _ _ _).eq (congrArg B h)) ?_) | (refine op_call_id ?_; refine op_call rfl (c_sKdcNew) rfl ?_; rintro _ _ ⟨bk, rfl, rfl⟩)) | refine nY ?_ | refine nR ?_ | refine WC_cond rfl (fun hc => ?_) (fun hc => ?_)))
  rename_i b2 bl b4
  refine WC_loop (fun mz Ez Mz => ∃ (k : Nat) (qs : List (Client × CSl)) (a2 : Option Addr) (n2 c2 : Nat) (ec : List Ent), k + mz = (List.range 3).length ∧ Ez = [(2, .pointer (some ⟨b2, 0, none⟩)), (4, .pointer (some ⟨b4, 0, none⟩)), (5, I ((k : Int) + 1))] ∧ Mz = (b2, cellsO (worldC World.zero WSl.nil) 43) :: (b4, cellsO (worldC ⟨0, kdcNew, [], [], [], bad⟩ ⟨⟨some ⟨bk, 0, none⟩, 0, 0⟩, ⟨a2, n2, c2⟩, Sl.nil, ⟨some ⟨bl, 0, none⟩, 0, 0⟩⟩) 43) :: (ec ++ L) ∧ (Row encClient 112 ⟨a2, n2, c2⟩ qs ec ∧ All CliOwn qs [] ∧ qs.map Prod.fst = (List.range k).map (fun i : Nat => clientNew ((i : Int) + 1)))) (List.range 3).length (by exact kQ) (by exact kL) ⟨0, [], none, 0, 0, [], by omega, rfl, rfl, by exact ⟨Row.nil, rfl, rfl⟩⟩ ?_
  rintro mz Ez Mz ⟨k, qs, a2, n2, c2, ec, hk, rfl, rfl, hin⟩
  rcases Nat.lt_or_ge k (List.range 3).length with hlt | hge
  · obtain ⟨hrow0, hall0, hmap0⟩ := hin
    have hl3 : (List.range 3).length = 3 := List.length_range
    have hql : qs.length = k := by have := congrArg List.length hmap0; simpa using this
    have hu : userOk ((k : Int) + 1) = true := within_iff.2 (by omega)
    (repeat' (first | refine nI ?_ | (refine nA ?_; intro _) | (refine nW ?_; first | (refine op_call_id ?_; refine op_call rfl (c_sClientNew _ hu) rfl ?_; rintro _ _ ⟨s9, rfl, ho9, rfl⟩) | (refine go_append ?_; refine op_appendRow (sl := ⟨_, _, _⟩) (sx := ⟨_, _, _⟩) rfl rfl rfl rfl rfl rfl rfl rfl rfl (hrow0) (by exact kE) (SliceAt.one (E := encClient) (x := (clientNew ((k : Int) + 1), s9)) (by exact kM) rfl) (by (simp only [hql, List.length_cons, List.length_nil, lim]; omega)) ?_; intro sl' es' hrow' hst')) | refine nY ?_ | refine nR ?_ | refine WC_cond rfl (fun hc => ?_) (fun hc => ?_)))
    obtain ⟨a9, n9, c9⟩ := sl'
    exact loopQ_next ⟨mz - 1, _, _, by omega, by exact kQ, by exact kL, k + 1, qs ++ [(clientNew ((k : Int) + 1), s9)], a9, n9, c9, es', by omega, rfl, rfl, by exact ⟨hrow', by have := hall0.snoc ho9; simpa using this, by rw [List.map_append, hmap0, List.range_succ]; simp⟩⟩
  obtain ⟨hrow1, hall1, hmap1⟩ := hin
  have hl3 : (List.range 3).length = 3 := List.length_range
  have hk3 : k = 3 := by omega
  subst hk3
  (repeat' (first | refine nI ?_ | (refine nA ?_; intro _) | refine nY ?_ | refine nR ?_ | refine WC_cond rfl (fun hc => ?_) (fun hc => ?_)))
  refine WC_loop (fun mz Ez Mz => ∃ (k : Nat) (rs : List (Serv × (Sl × Sl))) (a3 : Option Addr) (n3 c3 : Nat) (ed : List Ent), k + mz = (List.range 2).length ∧ Ez = [(2, .pointer (some ⟨b2, 0, none⟩)), (4, .pointer (some ⟨b4, 0, none⟩)), (8, I ((k : Int) + 4))] ∧ Mz = (b2, cellsO (worldC World.zero WSl.nil) 43) :: (b4, cellsO (worldC ⟨0, kdcNew, [], [], [], bad⟩ ⟨⟨some ⟨bk, 0, none⟩, 0, 0⟩, ⟨a2, n2, c2⟩, ⟨a3, n3, c3⟩, ⟨some ⟨bl, 0, none⟩, 0, 0⟩⟩) 43) :: (ec ++ (ed ++ L)) ∧ (Row encServ 115 ⟨a3, n3, c3⟩ rs ed ∧ All SrvOwn rs [] ∧ rs.map Prod.fst = (List.range k).map (fun i : Nat => servNew ((i : Int) + 4)))) (List.range 2).length (by exact kQ) (by exact kL) ⟨0, [], none, 0, 0, [], by omega, rfl, rfl, by exact ⟨Row.nil, rfl, rfl⟩⟩ ?_
  rintro mz Ez Mz ⟨k, rs, a3, n3, c3, ed, hk, rfl, rfl, hin⟩
  rcases Nat.lt_or_ge k (List.range 2).length with hlt | hge
  · obtain ⟨hrow0, hall0, hmap0⟩ := hin
    have hl2 : (List.range 2).length = 2 := List.length_range
    have hql : rs.length = k := by have := congrArg List.length hmap0; simpa using this
    have hu : servOk ((k : Int) + 4) = true := within_iff.2 (by omega)
    (repeat' (first | refine nI ?_ | (refine nA ?_; intro _) | (refine nW ?_; first | (refine op_call_id ?_; refine op_call rfl (c_sServNew _ hu) rfl ?_; rintro _ _ ⟨c9, t9, rfl, ho9, rfl⟩) | (refine go_append ?_; refine op_appendRow (sl := ⟨_, _, _⟩) (sx := ⟨_, _, _⟩) rfl rfl rfl rfl rfl rfl rfl rfl rfl (hrow0) (by exact kE) (SliceAt.one (E := encServ) (x := (servNew ((k : Int) + 4), c9, t9)) (by exact kM) rfl) (by (simp only [hql, List.length_cons, List.length_nil, lim]; omega)) ?_; intro sl' es' hrow' hst')) | refine nY ?_ | refine nR ?_ | refine WC_cond rfl (fun hc => ?_) (fun hc => ?_)))
    obtain ⟨a9, n9, c9'⟩ := sl'
    exact loopQ_next ⟨mz - 1, _, _, by omega, by exact kQ, by exact kL, k + 1, rs ++ [(servNew ((k : Int) + 4), c9, t9)], a9, n9, c9', es', by omega, rfl, rfl, by exact ⟨hrow', by have := hall0.snoc ho9; simpa using this, by rw [List.map_append, hmap0, List.range_succ]; simp⟩⟩
  obtain ⟨hrow2, hall2, hmap2⟩ := hin
  have hl2 : (List.range 2).length = 2 := List.length_range
  have hk2 : k = 2 := by omega
  subst hk2
  (repeat' (first | refine nI ?_ | (refine nA ?_; intro _) | refine nY ?_ | refine nR ?_ | refine WC_cond rfl (fun hc => ?_) (fun hc => ?_)))
  refine ret_ret (by exact kR) ?_; exact ⟨wldE [] ec [] ed [] [] [] ++ L, by simp only [wldE, List.nil_append, List.append_nil, List.append_assoc]; exact kP, ⟨⟨some ⟨bk, 0, none⟩, 0, 0⟩, ⟨a2, n2, c2⟩, ⟨a3, n3, c3⟩, ⟨some ⟨bl, 0, none⟩, 0, 0⟩⟩, qs, rs, [], [], ec, [], ed, [], [], [], rfl, ⟨Row.nil, hmap1, hrow1, hall1, hmap2, hrow2, hall2, rfl, Row.nil, rfl⟩, rfl⟩
end Go.Proofs.YtoledfhjmdpihaaGreat
/- The reference: whatever happens. -/
set_option linter.unusedVariables false
set_option linter.unusedSectionVars false
set_option linter.unusedSimpArgs false
namespace Go.Proofs.YtoledfhjmdpihaaGreat
open Go Go.Proofs Go.Proofs.YtoledfhjmdpihaaGreat.VE
attribute [local irreducible] Val Op1 WO WR WA WC seqQ blockQ loopQ retQ
set_option maxHeartbeats 4000000
section
variable {L0 : List Ent} (w : World) (q : WSl) (ps : List (Client × CSl)) (ss : List (Serv × (Sl × Sl))) (ms : List (Msg × Sl)) (ek ec ca es sa el la : List Ent) (hw : WOk w) (hown : WldOwn w q ps ss ms ek ec ca es sa el la) (hte : TookLe 1500000 w)
include hw hown
section
variable (e : Event) (se : Sl)
theorem c_l21Client0 (hu : userOk e.a = false ∨ e.a = w.bad) : Tri Tryz.prog 69 [worldV w q, eventV e se] (wldE ek ec ca es sa el la ++ L0) (WldV L0 (asks w e.kind e.a e.b)) := by
  have he : asks w e.kind e.a e.b = w := by unfold asks; rw [if_pos hu]
  rw [he]
  cases hu1 : userOk e.a with
  | false =>
    refine Tri.of Tryz.func69 rfl rfl Tryz.ntmps69 rfl rfl ?_
    (repeat' (first | refine nI ?_ | (refine nA ?_; intro _) | (refine nW ?_; first | (refine op_call_id ?_; refine op_ro rfl rfl (by exact (c_l1User _).eq (congrArg B hu1)) ?_)) | refine nY ?_ | refine nR ?_ | refine WC_cond rfl (fun hc => ?_) (fun hc => ?_)))
    refine ret_ret (by exact kR) ?_; exact ⟨wldE ek ec ca es sa el la ++ L0, by exact kP, q, ps, ss, ms, ek, ec, ca, es, sa, el, la, rfl, hown, rfl⟩
  | true =>
    have hb : e.a = w.bad := by
      rcases hu with h | h
      · rw [hu1] at h; cases h
      · exact h
    refine Tri.of Tryz.func69 rfl rfl Tryz.ntmps69 rfl rfl ?_
    (repeat' (first | refine nI ?_ | (refine nA ?_; intro _) | (refine nW ?_; first | (refine op_call_id ?_; refine op_ro rfl rfl (by exact (c_l1User _).eq (congrArg B hu1)) ?_)) | refine nY ?_ | refine nR ?_ | refine WC_cond rfl (fun hc => ?_) (fun hc => ?_)))
    refine ret_ret (by exact kR) ?_; exact ⟨wldE ek ec ca es sa el la ++ L0, by exact kP, q, ps, ss, ms, ek, ec, ca, es, sa, el, la, rfl, hown, rfl⟩
theorem c_l21Client1 (hk1 : e.kind = 1) (hu : userOk e.a = true) (hb : e.a ≠ w.bad) : Tri Tryz.prog 69 [worldV w q, eventV e se] (wldE ek ec ca es sa el la ++ L0) (WldV L0 (asks w e.kind e.a e.b)) := by
  have ha := within_iff.1 hu
  obtain ⟨cl, hcl, hcok, he⟩ := asks_open w q ps ss ms ek ec ca es sa el la hw hown e hu hb
  have hask : ask cl e.kind e.b w.now = clientAs cl := by unfold ask; simp [hk1]
  rw [he, hask]
  obtain ⟨s, g, cap, c, e1, e2, hq, hc, rfl, hperm, hown1, hback⟩ := hown.cli hcl
  rw [hw.cl] at hq
  obtain ⟨kc, cs, ss', ls⟩ := q
  dsimp only at hq; subst hq
  have htk : takeC (putC c (0 + (e.a - 1).toNat * 6) (clientC cl s)) (0 + (e.a - 1).toNat * 6) 6 = some (clientC cl s) := takeC_putC (cs := clientC cl s) hc
  refine Tri.perm ?_ (wldE_ca hperm)
  simp only [wldE, List.append_assoc, List.cons_append, List.nil_append]
  refine Tri.of Tryz.func69 rfl rfl Tryz.ntmps69 rfl rfl ?_
  (repeat' (first | refine nI ?_ | (refine nA ?_; intro _) | (refine nW ?_; first | (refine op_call_id ?_; refine op_ro rfl rfl (by exact (c_l1User _).eq (congrArg B hu)) ?_) | (refine op_store_id ?_; (refine op_storePut (cs := clientC cl s) rfl rfl rfl rfl rfl rfl (by exact kF) hc ?_)) | (refine op_call_id ?_; refine op_call rfl ((c_l12As cl s e1 hcok.num (by have := hcok.wl; omega) (by have := hcok.sl; omega) hown1 ).perm (by exact kE)) rfl ?_; rintro _ _ ⟨s9, e9, em9, m9, sm9, ok9, rfl, ho9, hr9, hk9, rfl⟩)) | refine nY ?_ | refine WC_regionN [23] rfl ?_ | refine WC_block ?_ | refine WC_cond rfl (fun hc => ?_) (fun hc => ?_)))
  rename_i b2 b3 b4 b5 b6 b8 b9
  obtain ⟨ps9, ca9, hp9, hown9⟩ := hback _ _ _ ho9
  (repeat' (first | refine nX ?_ | (refine nA ?_; intro _) | (refine nW ?_; first | (refine op_call_id ?_; refine op_call rfl (c_l21Send (L0 := (b4, cellsO (worldC World.zero WSl.nil) 43) :: L0) { w with clients := w.clients.set (e.a - 1).toNat (clientAs cl).1 } ⟨kc, ⟨some ⟨g, 0, none⟩, 3, cap⟩, ss', ls⟩ ps9 ss ms ek [(g, cellsO (putC c (0 + (e.a - 1).toNat * 6) (clientC (clientAs cl).1 s9)) 112)] ca9 es sa el la (SubP.trans (M := wldE ek [(g, cellsO (putC c (0 + (e.a - 1).toNat * 6) (clientC (clientAs cl).1 s9)) 112)] (e9 ++ e2) es sa el la ++ (em9 ++ ((b4, cellsO (worldC World.zero WSl.nil) 43) :: L0))) (by simp only [wldE, List.append_assoc, List.cons_append, List.nil_append]; exact kP) (Perm.sub (wldE_ca hp9.symm))) hown9 m9 sm9 ok9 hw.ll hr9) rfl ?_; rintro _ _ ⟨q8, ps8, ss8, ms8, ek8, ec8, ca8, es8, sa8, el8, la8, rfl, ho8, rfl⟩)) | refine nY ?_ | refine nR ?_))
  rw [hk9]
  refine ret_ret (by exact kR) ?_; exact ⟨wldE ek8 ec8 ca8 es8 sa8 el8 la8 ++ L0, by exact kP, q8, ps8, ss8, ms8, ek8, ec8, ca8, es8, sa8, el8, la8, rfl, ho8, rfl⟩
theorem c_l21Client2 (hk1 : e.kind = 2) (hu : userOk e.a = true) (hb : e.a ≠ w.bad) : Tri Tryz.prog 69 [worldV w q, eventV e se] (wldE ek ec ca es sa el la ++ L0) (WldV L0 (asks w e.kind e.a e.b)) := by
  have ha := within_iff.1 hu
  obtain ⟨cl, hcl, hcok, he⟩ := asks_open w q ps ss ms ek ec ca es sa el la hw hown e hu hb
  have hask : ask cl e.kind e.b w.now = clientTgs cl e.b w.now := by unfold ask; simp [hk1]
  rw [he, hask]
  obtain ⟨s, g, cap, c, e1, e2, hq, hc, rfl, hperm, hown1, hback⟩ := hown.cli hcl
  rw [hw.cl] at hq
  obtain ⟨kc, cs, ss', ls⟩ := q
  dsimp only at hq; subst hq
  have htk : takeC (putC c (0 + (e.a - 1).toNat * 6) (clientC cl s)) (0 + (e.a - 1).toNat * 6) 6 = some (clientC cl s) := takeC_putC (cs := clientC cl s) hc
  refine Tri.perm ?_ (wldE_ca hperm)
  simp only [wldE, List.append_assoc, List.cons_append, List.nil_append]
  refine Tri.of Tryz.func69 rfl rfl Tryz.ntmps69 rfl rfl ?_
  (repeat' (first | refine nI ?_ | (refine nA ?_; intro _) | (refine nW ?_; first | (refine op_call_id ?_; refine op_ro rfl rfl (by exact (c_l1User _).eq (congrArg B hu)) ?_) | (refine op_store_id ?_; (refine op_storePut (cs := clientC cl s) rfl rfl rfl rfl rfl rfl (by exact kF) hc ?_)) | (refine op_call_id ?_; refine op_call rfl ((c_l12Tgs cl s e1 hcok.num (by have := hcok.wl; omega) (by have := hcok.sl; omega) hown1 e.b w.now).perm (by exact kE)) rfl ?_; rintro _ _ ⟨s9, e9, em9, m9, sm9, ok9, rfl, ho9, hr9, hk9, rfl⟩)) | refine nY ?_ | refine WC_regionN [23] rfl ?_ | refine WC_block ?_ | refine WC_cond rfl (fun hc => ?_) (fun hc => ?_)))
  rename_i b2 b3 b4 b5 b6 b8 b9
  obtain ⟨ps9, ca9, hp9, hown9⟩ := hback _ _ _ ho9
  (repeat' (first | refine nX ?_ | (refine nA ?_; intro _) | (refine nW ?_; first | (refine op_call_id ?_; refine op_call rfl (c_l21Send (L0 := (b4, cellsO (worldC World.zero WSl.nil) 43) :: L0) { w with clients := w.clients.set (e.a - 1).toNat (clientTgs cl e.b w.now).1 } ⟨kc, ⟨some ⟨g, 0, none⟩, 3, cap⟩, ss', ls⟩ ps9 ss ms ek [(g, cellsO (putC c (0 + (e.a - 1).toNat * 6) (clientC (clientTgs cl e.b w.now).1 s9)) 112)] ca9 es sa el la (SubP.trans (M := wldE ek [(g, cellsO (putC c (0 + (e.a - 1).toNat * 6) (clientC (clientTgs cl e.b w.now).1 s9)) 112)] (e9 ++ e2) es sa el la ++ (em9 ++ ((b4, cellsO (worldC World.zero WSl.nil) 43) :: L0))) (by simp only [wldE, List.append_assoc, List.cons_append, List.nil_append]; exact kP) (Perm.sub (wldE_ca hp9.symm))) hown9 m9 sm9 ok9 hw.ll hr9) rfl ?_; rintro _ _ ⟨q8, ps8, ss8, ms8, ek8, ec8, ca8, es8, sa8, el8, la8, rfl, ho8, rfl⟩)) | refine nY ?_ | refine nR ?_))
  rw [hk9]
  refine ret_ret (by exact kR) ?_; exact ⟨wldE ek8 ec8 ca8 es8 sa8 el8 la8 ++ L0, by exact kP, q8, ps8, ss8, ms8, ek8, ec8, ca8, es8, sa8, el8, la8, rfl, ho8, rfl⟩
theorem c_l21Client3 (hk1 : e.kind = 3) (hu : userOk e.a = true) (hb : e.a ≠ w.bad) : Tri Tryz.prog 69 [worldV w q, eventV e se] (wldE ek ec ca es sa el la ++ L0) (WldV L0 (asks w e.kind e.a e.b)) := by
  have ha := within_iff.1 hu
  obtain ⟨cl, hcl, hcok, he⟩ := asks_open w q ps ss ms ek ec ca es sa el la hw hown e hu hb
  have hask : ask cl e.kind e.b w.now = clientAp cl e.b w.now := by unfold ask; simp [hk1]
  rw [he, hask]
  obtain ⟨s, g, cap, c, e1, e2, hq, hc, rfl, hperm, hown1, hback⟩ := hown.cli hcl
  rw [hw.cl] at hq
  obtain ⟨kc, cs, ss', ls⟩ := q
  dsimp only at hq; subst hq
  have htk : takeC (putC c (0 + (e.a - 1).toNat * 6) (clientC cl s)) (0 + (e.a - 1).toNat * 6) 6 = some (clientC cl s) := takeC_putC (cs := clientC cl s) hc
  refine Tri.perm ?_ (wldE_ca hperm)
  simp only [wldE, List.append_assoc, List.cons_append, List.nil_append]
  refine Tri.of Tryz.func69 rfl rfl Tryz.ntmps69 rfl rfl ?_
  (repeat' (first | refine nI ?_ | (refine nA ?_; intro _) | (refine nW ?_; first | (refine op_call_id ?_; refine op_ro rfl rfl (by exact (c_l1User _).eq (congrArg B hu)) ?_) | (refine op_store_id ?_; (refine op_storePut (cs := clientC cl s) rfl rfl rfl rfl rfl rfl (by exact kF) hc ?_)) | (refine op_call_id ?_; refine op_call rfl ((c_l12Ap cl s e1 hcok.num (by have := hcok.wl; omega) (by have := hcok.sl; omega) hown1 e.b w.now).perm (by exact kE)) rfl ?_; rintro _ _ ⟨s9, e9, em9, m9, sm9, ok9, rfl, ho9, hr9, hk9, rfl⟩)) | refine nY ?_ | refine WC_regionN [23] rfl ?_ | refine WC_block ?_ | refine WC_cond rfl (fun hc => ?_) (fun hc => ?_)))
  rename_i b2 b3 b4 b5 b6 b8 b9
  obtain ⟨ps9, ca9, hp9, hown9⟩ := hback _ _ _ ho9
  (repeat' (first | refine nX ?_ | (refine nA ?_; intro _) | (refine nW ?_; first | (refine op_call_id ?_; refine op_call rfl (c_l21Send (L0 := (b4, cellsO (worldC World.zero WSl.nil) 43) :: L0) { w with clients := w.clients.set (e.a - 1).toNat (clientAp cl e.b w.now).1 } ⟨kc, ⟨some ⟨g, 0, none⟩, 3, cap⟩, ss', ls⟩ ps9 ss ms ek [(g, cellsO (putC c (0 + (e.a - 1).toNat * 6) (clientC (clientAp cl e.b w.now).1 s9)) 112)] ca9 es sa el la (SubP.trans (M := wldE ek [(g, cellsO (putC c (0 + (e.a - 1).toNat * 6) (clientC (clientAp cl e.b w.now).1 s9)) 112)] (e9 ++ e2) es sa el la ++ (em9 ++ ((b4, cellsO (worldC World.zero WSl.nil) 43) :: L0))) (by simp only [wldE, List.append_assoc, List.cons_append, List.nil_append]; exact kP) (Perm.sub (wldE_ca hp9.symm))) hown9 m9 sm9 ok9 hw.ll hr9) rfl ?_; rintro _ _ ⟨q8, ps8, ss8, ms8, ek8, ec8, ca8, es8, sa8, el8, la8, rfl, ho8, rfl⟩)) | refine nY ?_ | refine nR ?_))
  rw [hk9]
  refine ret_ret (by exact kR) ?_; exact ⟨wldE ek8 ec8 ca8 es8 sa8 el8 la8 ++ L0, by exact kP, q8, ps8, ss8, ms8, ek8, ec8, ca8, es8, sa8, el8, la8, rfl, ho8, rfl⟩
theorem c_l21Client (hk : e.kind = 1 ∨ e.kind = 2 ∨ e.kind = 3) : Tri Tryz.prog 69 [worldV w q, eventV e se] (wldE ek ec ca es sa el la ++ L0) (WldV L0 (asks w e.kind e.a e.b)) := by
  by_cases hb : e.a = w.bad
  · exact c_l21Client0 w q ps ss ms ek ec ca es sa el la hw hown e se (.inr hb)
  cases hu : userOk e.a with
  | false => exact c_l21Client0 w q ps ss ms ek ec ca es sa el la hw hown e se (.inl hu)
  | true =>
    rcases hk with hk | hk | hk
    · exact c_l21Client1 w q ps ss ms ek ec ca es sa el la hw hown e se hk hu hb
    · exact c_l21Client2 w q ps ss ms ek ec ca es sa el la hw hown e se hk hu hb
    · exact c_l21Client3 w q ps ss ms ek ec ca es sa el la hw hown e se hk hu hb
end
end
end Go.Proofs.YtoledfhjmdpihaaGreat
/- The reference: what is brought. -/
set_option linter.unusedVariables false
set_option linter.unusedSectionVars false
set_option linter.unusedSimpArgs false
namespace Go.Proofs.YtoledfhjmdpihaaGreat
open Go Go.Proofs Go.Proofs.YtoledfhjmdpihaaGreat.VE
attribute [local irreducible] Val Op1 WO WR WA WC seqQ blockQ loopQ retQ
noncomputable def o70x12L40 : Array Oper := cops (cl (cr (cl (cr (cr (cr (cr (cr (cl (cr (cl (cr (codeOf Tryz.f70)))))))))))))
noncomputable def o70x16L40 : Array Oper := cops (cl (cr (cl (cr (cr (codeOf Tryz.f70))))))
noncomputable def r70x12L40 : Run := (.st 0 0 (.st 1 1 (.st 2 0 (.st 3 0 (.st 4 1 (.st 5 1 (.st 6 0 (.st 7 1 (.alt (.st 8 3 (.st 9 0 (.st 10 0 (.st 11 0 (.st 12 0 (.alt (.st 13 3 (.st 14 3 (.st 15 3 (.st 16 3 (.st 17 0 .done))))) (.st 14 3 (.st 13 3 (.st 15 3 (.st 16 3 (.st 17 0 .done))))))))))) (.alt (.st 13 2 (.alt (.st 8 3 (.st 9 0 (.st 10 0 (.st 11 0 (.st 12 0 (.st 14 3 (.st 15 3 (.st 16 3 (.st 17 0 .done))))))))) (.st 14 2 (.st 8 3 (.st 9 0 (.st 10 0 (.st 11 0 (.st 12 0 (.st 15 3 (.st 16 3 (.st 17 0 .done))))))))))) (.st 14 2 (.alt (.st 8 3 (.st 9 0 (.st 10 0 (.st 11 0 (.st 12 0 (.st 13 3 (.st 15 3 (.st 16 3 (.st 17 0 .done))))))))) (.st 13 2 (.st 8 3 (.st 9 0 (.st 10 0 (.st 11 0 (.st 12 0 (.st 15 3 (.st 16 3 (.st 17 0 .done)))))))))))))))))))))
noncomputable def r70x16L40 : Run := (.st 0 0 (.st 1 1 (.st 2 0 (.st 3 1 (.st 4 0 (.st 5 0 (.st 6 1 (.st 7 0 (.st 8 1 (.st 9 0 (.st 10 0 (.st 11 1 (.st 12 1 (.st 13 2 (.st 14 0 (.st 15 3 .done))))))))))))))))
set_option maxHeartbeats 4000000
theorem c_l11AsP {L L0 : List Ent} (k : Kdc) (s : Sl) (es : List Ent) (m : Msg) (sm : Sl) (now : Int) (hL : L.Perm (es ++ L0)) (hk : KOk k) (hn : 0 ≤ now ∧ now ≤ 100) (hr : Row encSeal 155 s k.cache es) (hm : MsgAt L0 m sm) : Tri Tryz.prog 138 [.agg [I k.next, s.v].toArray, msgV m sm, I now] L (KdcV L0 (kdcAs k m now)) := (c_l11As k s es m sm now hk hn hr hm).perm hL
theorem c_l11TgsP {L L0 : List Ent} (k : Kdc) (s : Sl) (es : List Ent) (m : Msg) (sm : Sl) (now : Int) (hL : L.Perm (es ++ L0)) (hk : KOk k) (hn : 0 ≤ now ∧ now ≤ 100) (hr : Row encSeal 155 s k.cache es) (hm : MsgAt L0 m sm) : Tri Tryz.prog 139 [.agg [I k.next, s.v].toArray, msgV m sm, I now] L (KdcV L0 (kdcTgs k m now)) := (c_l11Tgs k s es m sm now hk hn hr hm).perm hL
theorem c_l13HearP {L L0 : List Ent} (sv : Serv) (cs ts : Sl) (es : List Ent) (m : Msg) (sm : Sl) (now : Int) (hL : L.Perm (es ++ L0)) (hn : 0 ≤ now ∧ now ≤ 100) (hl : AOk sv.cache) (hl2 : sv.took.length + 1 ≤ lim) (hown : SrvOwn (sv, cs, ts) es) (hm : MsgAt L0 m sm) : Tri Tryz.prog 140 [servV sv cs ts, msgV m sm, I now] L (SrvV L0 (servHear sv m now)) := (c_l13Hear sv cs ts es m sm now hn hl hl2 hown hm).perm hL
theorem c_l12HearP {L L0 : List Ent} (cl : Client) (s : CSl) (es : List Ent) (m : Msg) (sm : Sl) (hL : L.Perm (es ++ L0)) (hw : cl.wants.length ≤ 100) (hs : cl.creds.length ≤ 100) (hlen : cl.met.length + cl.sent.length ≤ 1000) (hown : CliOwn (cl, s) es) (hm : MsgAt L0 m sm) : Tri Tryz.prog 141 [clientV cl s, msgV m sm] L (CliW L0 (clientHear cl m)) := (c_l12Hear cl s es m sm hw hs hlen hown hm).perm hL
section
variable {L0 : List Ent} (w : World) (q : WSl) (ps : List (Client × CSl)) (ss : List (Serv × (Sl × Sl))) (ms : List (Msg × Sl)) (ek ec ca es sa el la : List Ent) (hw : WOk w) (hown : WldOwn w q ps ss ms ek ec ca es sa el la) (hte : TookLe 1500000 w) (m : Msg) (sm : Sl) (hm : MsgAt L0 m sm) (hok : msgOk m = true)
include hw hown hte hm hok
theorem c_l21Bring1 (hk : m.kind = 1) : Tri Tryz.prog 70 [worldV w q, msgV m sm] (wldE ek ec ca es sa el la ++ L0) (WldV L0 (bringMsg w m)) := by
  have he : bringMsg w m = send { w with kdc := (kdcAs w.kdc m w.now).1 } (kdcAs w.kdc m w.now).2 := by unfold bringMsg; simp [hk]
  rw [he]
  obtain ⟨kc, cs, ss', ls⟩ := q
  have hkc := hown.kc
  dsimp only at hkc
  simp only [wldE, List.append_assoc]
  refine Tri.of Tryz.func70 rfl rfl Tryz.ntmps70 rfl rfl ?_
  (repeat' (first | refine nI ?_ | (refine nA ?_; intro _) | (refine nW ?_; first | (refine op_call_id ?_; refine op_call rfl (c_l11AsP w.kdc kc ek m sm w.now (by exact kE) hw.kdc hw.now hkc (hm.mono (by exact kS))) rfl ?_; rintro _ _ ⟨s9, e9, em9, m9, sm9, ok9, rfl, hr9, hrm9, hk9, rfl⟩)) | refine nY ?_ | refine WA_alt ?_ ?_ | refine WC_regionN [5] rfl ?_ | refine WC_block ?_ | refine WC_drawL (id := 12) (ops := o70x12L40) r70x12L40 (by kernel_rfl) rfl ?_ | refine WC_drawL (id := 16) (ops := o70x16L40) r70x16L40 (by kernel_rfl) rfl ?_ | refine WC_cond rfl (fun hc => ?_) (fun hc => ?_)))
  rename_i b2 b3 b4 b5 b6
  (repeat' (first | refine nX ?_ | (refine nA ?_; intro _) | (refine nW ?_; first | (refine op_call_id ?_; refine op_call rfl (c_l21Send (L0 := (b4, cellsO (worldC World.zero WSl.nil) 43) :: L0) { w with kdc := (kdcAs w.kdc m w.now).1 } ⟨s9, cs, ss', ls⟩ ps ss ms e9 ec ca es sa el la (by simp only [wldE, List.append_assoc]; exact kP) ⟨hr9, hown.pe, hown.pr, hown.pa, hown.se, hown.sr, hown.sa, hown.me, hown.mr, hown.ma⟩ m9 sm9 ok9 hw.ll hrm9) rfl ?_; rintro _ _ ⟨q8, ps8, ss8, ms8, ek8, ec8, ca8, es8, sa8, el8, la8, rfl, ho8, rfl⟩)) | refine nY ?_ | refine WA_alt ?_ ?_ | refine nR ?_ | refine WC_drawL (id := 12) (ops := o70x12L40) r70x12L40 (by kernel_rfl) rfl ?_ | refine WC_drawL (id := 16) (ops := o70x16L40) r70x16L40 (by kernel_rfl) rfl ?_))
  rw [hk9]
  refine ret_ret (by exact kR) ?_; exact ⟨wldE ek8 ec8 ca8 es8 sa8 el8 la8 ++ L0, by exact kP, q8, ps8, ss8, ms8, ek8, ec8, ca8, es8, sa8, el8, la8, rfl, ho8, rfl⟩
theorem c_l21Bring3 (hk : m.kind = 3) : Tri Tryz.prog 70 [worldV w q, msgV m sm] (wldE ek ec ca es sa el la ++ L0) (WldV L0 (bringMsg w m)) := by
  have he : bringMsg w m = send { w with kdc := (kdcTgs w.kdc m w.now).1 } (kdcTgs w.kdc m w.now).2 := by unfold bringMsg; simp [hk]
  rw [he]
  obtain ⟨kc, cs, ss', ls⟩ := q
  have hkc := hown.kc
  dsimp only at hkc
  simp only [wldE, List.append_assoc]
  refine Tri.of Tryz.func70 rfl rfl Tryz.ntmps70 rfl rfl ?_
  (repeat' (first | refine nI ?_ | (refine nA ?_; intro _) | (refine nW ?_; first | (refine op_call_id ?_; refine op_call rfl (c_l11TgsP w.kdc kc ek m sm w.now (by exact kE) hw.kdc hw.now hkc (hm.mono (by exact kS))) rfl ?_; rintro _ _ ⟨s9, e9, em9, m9, sm9, ok9, rfl, hr9, hrm9, hk9, rfl⟩)) | refine nY ?_ | refine WA_alt ?_ ?_ | refine WC_regionN [9] rfl ?_ | refine WC_block ?_ | refine WC_drawL (id := 12) (ops := o70x12L40) r70x12L40 (by kernel_rfl) rfl ?_ | refine WC_drawL (id := 16) (ops := o70x16L40) r70x16L40 (by kernel_rfl) rfl ?_ | refine WC_cond rfl (fun hc => ?_) (fun hc => ?_)))
  rename_i b2 b3 b4 b5 b6
  (repeat' (first | refine nX ?_ | (refine nA ?_; intro _) | (refine nW ?_; first | (refine op_call_id ?_; refine op_call rfl (c_l21Send (L0 := (b4, cellsO (worldC World.zero WSl.nil) 43) :: L0) { w with kdc := (kdcTgs w.kdc m w.now).1 } ⟨s9, cs, ss', ls⟩ ps ss ms e9 ec ca es sa el la (by simp only [wldE, List.append_assoc]; exact kP) ⟨hr9, hown.pe, hown.pr, hown.pa, hown.se, hown.sr, hown.sa, hown.me, hown.mr, hown.ma⟩ m9 sm9 ok9 hw.ll hrm9) rfl ?_; rintro _ _ ⟨q8, ps8, ss8, ms8, ek8, ec8, ca8, es8, sa8, el8, la8, rfl, ho8, rfl⟩)) | refine nY ?_ | refine WA_alt ?_ ?_ | refine nR ?_ | refine WC_drawL (id := 12) (ops := o70x12L40) r70x12L40 (by kernel_rfl) rfl ?_ | refine WC_drawL (id := 16) (ops := o70x16L40) r70x16L40 (by kernel_rfl) rfl ?_))
  rw [hk9]
  refine ret_ret (by exact kR) ?_; exact ⟨wldE ek8 ec8 ca8 es8 sa8 el8 la8 ++ L0, by exact kP, q8, ps8, ss8, ms8, ek8, ec8, ca8, es8, sa8, el8, la8, rfl, ho8, rfl⟩
theorem c_l21Bring5 (hk : m.kind = 5) : Tri Tryz.prog 70 [worldV w q, msgV m sm] (wldE ek ec ca es sa el la ++ L0) (WldV L0 (bringMsg w m)) := by
  have hsh := msgOk_shape hok
  have hsv : 4 ≤ m.serv ∧ m.serv ≤ 5 := by omega
  have hsl := hw.sl
  obtain ⟨sv, hsvi⟩ : ∃ sv, w.servs[(m.serv - 4).toNat]? = some sv := ⟨w.servs[(m.serv - 4).toNat]'(by omega), List.getElem?_eq_getElem _⟩
  have hso : servOf w m.serv = sv := getD_some hsvi
  have hsok := (hw.ss _ _ hsvi).1
  have htk2 := hte sv (List.mem_of_getElem? hsvi)
  have he : bringMsg w m = send { w with servs := w.servs.set (m.serv - 4).toNat (servHear sv m w.now).1 } (servHear sv m w.now).2 := by
    unfold bringMsg; simp [hk, hso, setServ]
  rw [he]
  obtain ⟨cs, ts, g, gcap, c, e1, e2, hq, hc, rfl, hperm, hown1, hback⟩ := hown.srv hsvi
  rw [hw.sl] at hq
  obtain ⟨kc, cs', ss', ls⟩ := q
  dsimp only at hq; subst hq
  have htk : takeC (putC c (0 + (m.serv - 4).toNat * 4) (servC sv cs ts)) (0 + (m.serv - 4).toNat * 4) 4 = some (servC sv cs ts) := takeC_putC (cs := servC sv cs ts) hc
  refine Tri.perm ?_ (wldE_sa hperm)
  simp only [wldE, List.append_assoc, List.cons_append, List.nil_append]
  refine Tri.of Tryz.func70 rfl rfl Tryz.ntmps70 rfl rfl ?_
  (repeat' (first | refine nI ?_ | (refine nA ?_; intro _) | refine nY ?_ | refine WA_alt ?_ ?_ | refine nR ?_ | refine WC_drawL (id := 16) (ops := o70x16L40) r70x16L40 (by kernel_rfl) rfl ?_ | refine WC_cond rfl (fun hc => ?_) (fun hc => ?_)))
  rename_i b2 b3 b4
  refine WC_cut (X := { x : Nat × Nat × Sl × Sl × List Ent × List Ent × Msg × Sl × Bool // SrvOwn ((servHear sv m w.now).1, x.2.2.1, x.2.2.2.1) x.2.2.2.2.1 ∧ Row encSeal 155 x.2.2.2.2.2.2.2.1 x.2.2.2.2.2.2.1.seals x.2.2.2.2.2.1 ∧ (servHear sv m w.now).2 = (if x.2.2.2.2.2.2.2.2 then some x.2.2.2.2.2.2.1 else none) })
    (fun x => [(2, .pointer (some ⟨b2, 0, none⟩)), (4, .pointer (some ⟨b4, 0, none⟩)), (11, I (m.serv - 4)), (12, .pointer (some ⟨x.1.1, 0, none⟩)), (13, .pointer (some ⟨x.1.2.1, 0, none⟩)), (14, B x.1.2.2.2.2.2.2.2.2)])
    (fun x => (x.1.1, cellsO (servC (servHear sv m w.now).1 x.1.2.2.1 x.1.2.2.2.1) 115) :: (x.1.2.1, cellsO (msgC x.1.2.2.2.2.2.2.1 x.1.2.2.2.2.2.2.2.1) 47) :: (b2, cellsO (worldC w ⟨kc, cs', ⟨some ⟨g, 0, none⟩, 2, gcap⟩, ls⟩) 43) :: (b4, cellsO (worldC World.zero WSl.nil) 43) :: (x.1.2.2.2.2.2.1 ++ (x.1.2.2.2.2.1 ++ (ek ++ (ec ++ (ca ++ ((g, cellsO (putC c (0 + (m.serv - 4).toNat * 4) (servC sv cs ts)) 115) :: (e2 ++ (el ++ (la ++ L0)))))))))) ?_ ?_
  · (repeat' (first | refine nX ?_ | (refine nA ?_; intro _) | (refine nW ?_; first | (refine op_call_id ?_; refine op_call rfl (c_l13HearP sv cs ts e1 m sm w.now (by exact kE) hw.now hsok.cache (by simp only [lim]; omega) hown1 (hm.mono (by exact kS))) rfl ?_; rintro _ _ ⟨c9, t9, e9, em9, m9, sm9, ok9, rfl, ho9, hr9, hk9, rfl⟩)) | refine nY ?_ | refine WA_alt ?_ ?_ | refine nR ?_ | refine WC_draw (id := 12) (ops := o70x12L40) ([(b2, cellsO (worldC w ⟨kc, cs', ⟨some ⟨g, 0, none⟩, 2, gcap⟩, ls⟩) 43), (b3, cellsO (msgC m sm) 47), (g, cellsO (putC c (0 + (m.serv - 4).toNat * 4) (servC sv cs ts)) 115)]) r70x12L40 (by kernel_rfl) rfl ?_ | refine WC_drawL (id := 16) (ops := o70x16L40) r70x16L40 (by kernel_rfl) rfl ?_))
    all_goals exact ⟨rfl, ⟨(_, _, c9, t9, e9, em9, m9, sm9, ok9), ho9, hr9, hk9⟩, by exact kQ, by exact kL⟩
  · rintro ⟨⟨b12, b13, c9, t9, e9, em9, m9, sm9, ok9⟩, ho9, hr9, hk9⟩
    dsimp only at ho9 hr9 hk9 ⊢
    obtain ⟨ss9, sa9, hp9, hown9⟩ := hback _ _ _ _ ho9
    (repeat' (first | refine nI ?_ | (refine nA ?_; intro _) | (refine nW ?_; first | (refine op_store_id ?_; (refine op_storePut (cs := servC sv cs ts) rfl rfl rfl rfl rfl rfl (by exact kF) hc ?_)) | (refine op_call_id ?_; refine op_call rfl (c_l21Send (L0 := (b4, cellsO (worldC World.zero WSl.nil) 43) :: L0) { w with servs := w.servs.set (m.serv - 4).toNat (servHear sv m w.now).1 } ⟨kc, cs', ⟨some ⟨g, 0, none⟩, 2, gcap⟩, ls⟩ ps ss9 ms ek ec ca [(g, cellsO (putC c (0 + (m.serv - 4).toNat * 4) (servC (servHear sv m w.now).1 c9 t9)) 115)] sa9 el la (SubP.trans (M := wldE ek ec ca [(g, cellsO (putC c (0 + (m.serv - 4).toNat * 4) (servC (servHear sv m w.now).1 c9 t9)) 115)] (e9 ++ e2) el la ++ (em9 ++ ((b4, cellsO (worldC World.zero WSl.nil) 43) :: L0))) (by simp only [wldE, List.append_assoc, List.cons_append, List.nil_append]; exact kP) (Perm.sub (wldE_sa hp9.symm))) hown9 m9 sm9 ok9 hw.ll hr9) rfl ?_; rintro _ _ ⟨q8, ps8, ss8, ms8, ek8, ec8, ca8, es8, sa8, el8, la8, rfl, ho8, rfl⟩)) | refine nY ?_ | refine WA_alt ?_ ?_ | refine nR ?_ | refine WC_drawL (id := 12) (ops := o70x12L40) r70x12L40 (by kernel_rfl) rfl ?_ | refine WC_drawL (id := 16) (ops := o70x16L40) r70x16L40 (by kernel_rfl) rfl ?_ | refine WC_cond rfl (fun hc => ?_) (fun hc => ?_)))
    rw [hk9]
    refine ret_ret (by exact kR) ?_; exact ⟨wldE ek8 ec8 ca8 es8 sa8 el8 la8 ++ L0, by exact kP, q8, ps8, ss8, ms8, ek8, ec8, ca8, es8, sa8, el8, la8, rfl, ho8, rfl⟩
theorem c_l21Bring2 (hk : m.kind = 2 ∨ m.kind = 4 ∨ m.kind = 6) : Tri Tryz.prog 70 [worldV w q, msgV m sm] (wldE ek ec ca es sa el la ++ L0) (WldV L0 (bringMsg w m)) := by
  have k1 : ¬ m.kind = 1 := by omega
  have k3 : ¬ m.kind = 3 := by omega
  have k5 : ¬ m.kind = 5 := by omega
  by_cases hb : m.client = w.bad
  · have he : bringMsg w m = w := by unfold bringMsg; rw [if_neg k1, if_neg k3, if_neg k5, if_pos hb]
    rw [he]
    refine Tri.of Tryz.func70 rfl rfl Tryz.ntmps70 rfl rfl ?_
    (repeat' (first | refine nI ?_ | (refine nA ?_; intro _) | refine nY ?_ | refine WA_alt ?_ ?_ | refine nR ?_ | refine WC_drawL (id := 12) (ops := o70x12L40) r70x12L40 (by kernel_rfl) rfl ?_ | refine WC_drawL (id := 16) (ops := o70x16L40) r70x16L40 (by kernel_rfl) rfl ?_ | refine WC_cond rfl (fun hc => ?_) (fun hc => ?_)))
    refine ret_ret (by exact kR) ?_; exact ⟨wldE ek ec ca es sa el la ++ L0, by exact kP, q, ps, ss, ms, ek, ec, ca, es, sa, el, la, rfl, hown, rfl⟩
  have hsh := msgOk_shape hok
  have hcr : 1 ≤ m.client ∧ m.client ≤ 3 := by omega
  have hcl3 := hw.cl
  obtain ⟨cl, hcl⟩ : ∃ cl, w.clients[(m.client - 1).toNat]? = some cl := ⟨w.clients[(m.client - 1).toNat]'(by omega), List.getElem?_eq_getElem _⟩
  have hco : clientOf w m.client = cl := getD_some hcl
  have hcok := (hw.cs _ _ hcl).1
  have he : bringMsg w m = { w with clients := w.clients.set (m.client - 1).toNat (clientHear cl m) } := by
    unfold bringMsg; rw [if_neg k1, if_neg k3, if_neg k5, if_neg hb, hco]; rfl
  rw [he]
  obtain ⟨s, g, cap, c, e1, e2, hq, hc, rfl, hperm, hown1, hback⟩ := hown.cli hcl
  rw [hw.cl] at hq
  obtain ⟨kc, cs, ss', ls⟩ := q
  dsimp only at hq; subst hq
  have htk : takeC (putC c (0 + (m.client - 1).toNat * 6) (clientC cl s)) (0 + (m.client - 1).toNat * 6) 6 = some (clientC cl s) := takeC_putC (cs := clientC cl s) hc
  refine Tri.perm ?_ (wldE_ca hperm)
  simp only [wldE, List.append_assoc, List.cons_append, List.nil_append]
  refine Tri.of Tryz.func70 rfl rfl Tryz.ntmps70 rfl rfl ?_
  (repeat' (first | refine nI ?_ | (refine nA ?_; intro _) | refine nY ?_ | refine WA_alt ?_ ?_ | refine nR ?_ | refine WC_drawL (id := 12) (ops := o70x12L40) r70x12L40 (by kernel_rfl) rfl ?_ | refine WC_cond rfl (fun hc => ?_) (fun hc => ?_)))
  rename_i b2 b3 b4
  (repeat' (first | refine nX ?_ | (refine nA ?_; intro _) | (refine nW ?_; first | (refine op_store_id ?_; (refine op_storePut (cs := clientC cl s) rfl rfl rfl rfl rfl rfl (by exact kF) hc ?_)) | (refine op_call_id ?_; refine op_call rfl (c_l12HearP cl s e1 m sm (by exact kE) (by have := hcok.wl; omega) (by have := hcok.cl; omega) (by have := hcok.ml; have := hcok.sl; omega) hown1 (hm.mono (by exact kS))) rfl ?_; rintro _ _ ⟨s9, e9, rfl, ho9, rfl⟩)) | refine nY ?_ | refine WA_alt ?_ ?_ | refine nR ?_ | refine WC_drawL (id := 12) (ops := o70x12L40) r70x12L40 (by kernel_rfl) rfl ?_ | refine WC_draw (id := 16) (ops := o70x16L40) ([(b2, cellsO (worldC w ⟨kc, ⟨some ⟨g, 0, none⟩, 3, cap⟩, ss', ls⟩) 43), (b3, cellsO (msgC m sm) 47), (g, cellsO (putC c (0 + (m.client - 1).toNat * 6) (clientC cl s)) 112)]) r70x16L40 (by kernel_rfl) rfl ?_))
  obtain ⟨ps9, ca9, hp9, hown9⟩ := hback _ _ _ ho9
  refine ret_ret (by exact kR) ?_; exact ⟨_, SubP.trans (M := wldE ek [(g, cellsO (putC c (0 + (m.client - 1).toNat * 6) (clientC (clientHear cl m) s9)) 112)] (e9 ++ e2) es sa el la ++ L0) (by simp only [wldE, List.append_assoc, List.cons_append, List.nil_append]; exact kP) (Perm.sub (wldE_ca hp9.symm)), _, _, _, _, _, _, _, _, _, _, _, rfl, hown9, rfl⟩
theorem c_l21Bring : Tri Tryz.prog 70 [worldV w q, msgV m sm] (wldE ek ec ca es sa el la ++ L0) (WldV L0 (bringMsg w m)) := by
  have hsh := msgOk_shape hok
  by_cases h1 : m.kind = 1
  · exact c_l21Bring1 w q ps ss ms ek ec ca es sa el la hw hown hte m sm hm hok h1
  by_cases h3 : m.kind = 3
  · exact c_l21Bring3 w q ps ss ms ek ec ca es sa el la hw hown hte m sm hm hok h3
  by_cases h5 : m.kind = 5
  · exact c_l21Bring5 w q ps ss ms ek ec ca es sa el la hw hown hte m sm hm hok h5
  · exact c_l21Bring2 w q ps ss ms ek ec ca es sa el la hw hown hte m sm hm hok (by omega)
end
end Go.Proofs.YtoledfhjmdpihaaGreat
/- The reference: all events happen. -/
set_option linter.unusedVariables false
set_option linter.unusedSectionVars false
set_option linter.unusedSimpArgs false
namespace Go.Proofs.YtoledfhjmdpihaaGreat
open Go Go.Proofs Go.Proofs.YtoledfhjmdpihaaGreat.VE
attribute [local irreducible] Val Op1 WO WR WA WC seqQ blockQ loopQ retQ
noncomputable def o18x7L42 : Array Oper := cops (cl (cl (cr (cl (cl (cr (cl (cr (cr (cr (codeOf Tryz.f18)))))))))))
noncomputable def o31x10L42 : Array Oper := cops (cl (cl (cr (cr (cr (cr (cr (cl (cr (cl (cr (codeOf Tryz.f31))))))))))))
noncomputable def o31x11L42 : Array Oper := cops (cl (cl (cr (cl (cr (cr (cr (cr (cr (cl (cr (cl (cr (codeOf Tryz.f31))))))))))))))
noncomputable def o31x18L42 : Array Oper := cops (cr (cr (cl (cr (cl (cr (cr (cr (cr (cr (cr (cr (cr (cr (cl (cr (cl (cr (codeOf Tryz.f31)))))))))))))))))))
noncomputable def o31x8L42 : Array Oper := cops (cl (cl (cr (cl (cr (cr (cr (cl (cr (cl (cr (codeOf Tryz.f31))))))))))))
noncomputable def r18x7L42 : Run := (.st 0 1 (.st 1 0 (.st 2 0 (.st 3 0 (.st 4 1 (.st 5 3 (.st 6 3 .done)))))))
noncomputable def r31x10L42 : Run := (.st 0 1 (.st 2 1 (.st 4 0 (.st 5 1 (.st 1 2 (.st 3 2 (.st 6 3 .done)))))))
noncomputable def r31x11L42 : Run := (.st 0 1 (.st 1 0 (.st 2 1 (.st 3 2 (.st 4 3 (.st 5 3 .done))))))
noncomputable def r31x18L42 : Run := (.st 0 0 (.st 1 1 (.st 2 0 (.st 3 0 (.st 4 1 (.st 5 0 (.st 6 0 (.st 7 0 (.st 8 1 (.st 9 0 (.st 10 1 (.st 11 0 (.st 12 0 (.st 13 0 (.st 14 3 .done)))))))))))))))
noncomputable def r31x8L42 : Run := (.st 0 1 (.st 1 0 (.st 2 1 (.st 3 0 (.st 4 1 (.st 5 0 (.st 6 1 (.st 7 2 (.st 8 3 (.st 9 3 .done))))))))))
set_option maxHeartbeats 4000000
theorem c_l21BringP {L L0 : List Ent} (w : World) (q : WSl) (ps : List (Client × CSl)) (ss : List (Serv × (Sl × Sl))) (ms : List (Msg × Sl)) (ek ec ca es sa el la : List Ent) (hL : L.Perm (wldE ek ec ca es sa el la ++ L0)) (hw : WOk w) (hown : WldOwn w q ps ss ms ek ec ca es sa el la) (hte : TookLe 1500000 w) (m : Msg) (sm : Sl) (hm : MsgAt L0 m sm) (hok : msgOk m = true) :
    Tri Tryz.prog 70 [worldV w q, msgV m sm] L (WldV L0 (bringMsg w m)) := (c_l21Bring w q ps ss ms ek ec ca es sa el la hw hown hte m sm hm hok).perm hL
section
variable {L0 : List Ent} (w : World) (q : WSl) (ps : List (Client × CSl)) (ss : List (Serv × (Sl × Sl))) (ms : List (Msg × Sl)) (ek ec ca es sa el la : List Ent) (hw : WOk w) (hown : WldOwn w q ps ss ms ek ec ca es sa el la) (hte : TookLe 1500000 w) (e : Event) (se : Sl) (hm : MsgAt L0 e.msg se)
include hw hown hte hm
theorem c_l21Do1 (hk : e.kind = 1 ∨ e.kind = 2 ∨ e.kind = 3) : Tri Tryz.prog 31 [worldV w q, eventV e se] (wldE ek ec ca es sa el la ++ L0) (WldV L0 (step w e)) := by
  have he : step w e = asks w e.kind e.a e.b := by unfold step; rw [if_pos hk]
  rw [he]
  have hk' := hk
  rcases hk with hk | hk | hk
  all_goals
    refine Tri.of Tryz.func31 rfl rfl Tryz.ntmps31 rfl rfl ?_
    (repeat' (first | refine nI ?_ | (refine nA ?_; intro _) | (refine nW ?_; first | (refine op_call_id ?_; refine op_call rfl ((c_l21Client w q ps ss ms ek ec ca es sa el la hw hown e se hk').perm (by exact kE)) rfl ?_; rintro _ _ ⟨q8, ps8, ss8, ms8, ek8, ec8, ca8, es8, sa8, el8, la8, rfl, ho8, rfl⟩)) | refine nY ?_ | refine WA_alt ?_ ?_ | refine nR ?_ | refine WC_drawL (id := 8) (ops := o31x8L42) r31x8L42 (by kernel_rfl) rfl ?_ | refine WC_drawL (id := 10) (ops := o31x10L42) r31x10L42 (by kernel_rfl) rfl ?_ | refine WC_drawL (id := 11) (ops := o31x11L42) r31x11L42 (by kernel_rfl) rfl ?_ | refine WC_drawL (id := 18) (ops := o31x18L42) r31x18L42 (by kernel_rfl) rfl ?_ | refine WC_cond rfl (fun hc => ?_) (fun hc => ?_)))
    refine ret_ret (by exact kR) ?_; exact ⟨wldE ek8 ec8 ca8 es8 sa8 el8 la8 ++ L0, by exact kP, q8, ps8, ss8, ms8, ek8, ec8, ca8, es8, sa8, el8, la8, rfl, ho8, rfl⟩
theorem c_l21Do4 (hk : e.kind = 4) : Tri Tryz.prog 31 [worldV w q, eventV e se] (wldE ek ec ca es sa el la ++ L0) (WldV L0 (step w e)) := by
  have he : step w e = bring w e.a := by unfold step; rw [if_neg (by omega), if_pos hk]
  rw [he]
  have hl := ms_len hown
  have hll := hw.ll
  obtain ⟨kc, cs, ss', ⟨a, n, cap⟩⟩ := q
  have hn := hown.mr.n
  dsimp only at hn
  rw [hl] at hn
  subst hn
  by_cases ha : 0 ≤ e.a ∧ e.a < w.log.length
  rotate_left
  · have he : bring w e.a = w := by unfold bring; rw [if_neg ha]
    rw [he]
    have hwi : within e.a 0 ((w.log.length : Int) - 1) = false := within_false.2 (by omega)
    refine Tri.of Tryz.func31 rfl rfl Tryz.ntmps31 rfl rfl ?_
    (repeat' (first | refine nI ?_ | (refine nA ?_; intro _) | (refine nW ?_; first | (refine op_call_id ?_; refine op_ro rfl rfl (by exact (c_l6In _ _ _).eq (congrArg B hwi)) ?_)) | refine nY ?_ | refine WA_alt ?_ ?_ | refine nR ?_ | refine WC_drawL (id := 8) (ops := o31x8L42) r31x8L42 (by kernel_rfl) rfl ?_ | refine WC_drawL (id := 10) (ops := o31x10L42) r31x10L42 (by kernel_rfl) rfl ?_ | refine WC_drawL (id := 11) (ops := o31x11L42) r31x11L42 (by kernel_rfl) rfl ?_ | refine WC_drawL (id := 18) (ops := o31x18L42) r31x18L42 (by kernel_rfl) rfl ?_ | refine WC_cond rfl (fun hc => ?_) (fun hc => ?_)))
    refine ret_ret (by exact kR) ?_; exact ⟨wldE ek ec ca es sa el la ++ L0, by exact kP, _, ps, ss, ms, ek, ec, ca, es, sa, el, la, rfl, hown, rfl⟩
  obtain ⟨m, hm0⟩ : ∃ m, w.log[e.a.toNat]? = some m := ⟨w.log[e.a.toNat]'(by omega), List.getElem?_eq_getElem _⟩
  have hmok := hw.ms m (List.mem_of_getElem? hm0)
  have hml := msgOk_len hmok
  have he : bring w e.a = bringMsg w m := by
    unfold bring; rw [if_pos ha]
    have h : w.log.getD e.a.toNat Msg.zero = m := getD_some hm0
    rw [h]
  rw [he]
  obtain ⟨sm, hms, hsm⟩ := hown.msg hm0
  obtain ⟨b', o', cc, T', fr, ha', hmem, hrow⟩ := hown.mr.at.2.2.2 (by omega)
  replace ha' : a = _ := ha'
  subst ha'
  have hrow' := hrow e.a.toNat (m, sm) hms
  have hwi : within e.a 0 ((w.log.length : Int) - 1) = true := within_iff.2 (by omega)
  have hel : (b', Obj.cells cc.toArray T' fr) ∈ wldE ek ec ca es sa el la ++ L0 := List.mem_append_left _ (by exact kM)
  have hsm' : MsgAt (wldE ek ec ca es sa el la ++ L0) m sm := hsm.mono fun e he => List.mem_append_left _ (by exact kM)
  refine Tri.of Tryz.func31 rfl rfl Tryz.ntmps31 rfl rfl ?_
  (repeat' (first | refine nI ?_ | (refine nA ?_; intro _) | (refine nW ?_; first | (refine op_call_id ?_; refine op_ro rfl rfl (by exact (c_l6In _ _ _).eq (congrArg B hwi)) ?_)) | refine nY ?_ | refine WA_alt ?_ ?_ | refine nR ?_ | refine WC_drawL (id := 10) (ops := o31x10L42) r31x10L42 (by kernel_rfl) rfl ?_ | refine WC_drawL (id := 11) (ops := o31x11L42) r31x11L42 (by kernel_rfl) rfl ?_ | refine WC_drawL (id := 18) (ops := o31x18L42) r31x18L42 (by kernel_rfl) rfl ?_ | refine WC_cond rfl (fun hc => ?_) (fun hc => ?_)))
  rename_i b2 b3 b4
  (repeat' (first | refine nX ?_ | (refine nA ?_; intro _) | (refine nW ?_; first | (refine op_call_id ?_; refine op_call rfl (c_l21MsgCopy m sm (hsm'.mono (by exact kS)) (by simp only [lim]; omega)) rfl ?_; rintro _ _ ⟨sm9, em9, rfl, hr9, rfl⟩) | (refine op_call_id ?_; refine op_call rfl (c_l21BringP w ⟨kc, cs, ss', ⟨some ⟨b', o', none⟩, w.log.length, cap⟩⟩ ps ss ms ek ec ca es sa el la (by exact kE) hw hown hte m sm9 (hr9.atL (by exact kS)) hmok) rfl ?_; rintro _ _ ⟨q8, ps8, ss8, ms8, ek8, ec8, ca8, es8, sa8, el8, la8, rfl, ho8, rfl⟩)) | refine nY ?_ | refine WA_alt ?_ ?_ | refine nR ?_ | refine WC_draw (id := 8) (ops := o31x8L42) ([(b2, cellsO (worldC w ⟨kc, cs, ss', ⟨some ⟨b', o', none⟩, w.log.length, cap⟩⟩) 43), (b3, cellsO (eventC e se) 49), (b', Obj.cells cc.toArray T' fr)]) r31x8L42 (by kernel_rfl) rfl ?_ | refine WC_drawL (id := 10) (ops := o31x10L42) r31x10L42 (by kernel_rfl) rfl ?_ | refine WC_drawL (id := 11) (ops := o31x11L42) r31x11L42 (by kernel_rfl) rfl ?_ | refine WC_drawL (id := 18) (ops := o31x18L42) r31x18L42 (by kernel_rfl) rfl ?_))
  refine ret_ret (by exact kR) ?_; exact ⟨wldE ek8 ec8 ca8 es8 sa8 el8 la8 ++ L0, by exact kP, q8, ps8, ss8, ms8, ek8, ec8, ca8, es8, sa8, el8, la8, rfl, ho8, rfl⟩
theorem c_l21Do5 (hk : e.kind = 5) : Tri Tryz.prog 31 [worldV w q, eventV e se] (wldE ek ec ca es sa el la ++ L0) (WldV L0 (step w e)) := by
  have hat := hown.at
  have hsl : (w.log.flatMap Msg.seals).length ≤ 1000 := by
    have h1 := seals_len w.log hw.ms
    have h2 := hw.ll
    omega
  cases hb : knowBuild (own w) (worldSeals w) e.msg with
  | false =>
    have he : step w e = w := by unfold step; rw [if_neg (by omega), if_neg (by omega), if_pos hk, hb]; rfl
    rw [he]
    refine Tri.of Tryz.func31 rfl rfl Tryz.ntmps31 rfl rfl ?_
    (repeat' (first | refine nI ?_ | (refine nA ?_; intro _) | refine nY ?_ | refine WA_alt ?_ ?_ | refine nR ?_ | refine WC_drawL (id := 8) (ops := o31x8L42) r31x8L42 (by kernel_rfl) rfl ?_ | refine WC_drawL (id := 11) (ops := o31x11L42) r31x11L42 (by kernel_rfl) rfl ?_ | refine WC_drawL (id := 18) (ops := o31x18L42) r31x18L42 (by kernel_rfl) rfl ?_ | refine WC_cond rfl (fun hc => ?_) (fun hc => ?_)))
    rename_i b2 b3 b4
    (repeat' (first | refine nI ?_ | (refine nA ?_; intro _) | (refine nW ?_; first | (refine op_call_id ?_; refine op_ro rfl rfl (by exact (c_sKnowBuild ⟨ao, no, co⟩ ⟨al, nl, cl⟩ se (own w) (worldSeals w) e.msg (hro.atL (by exact kS)) (hrs.atL (by exact kS)) (hm.mono (by exact kS))).eq (congrArg B hb)) ?_) | (refine op_call_id ?_; refine op_call rfl (c_l21Bad w q) rfl ?_; rintro _ _ ⟨⟨ao, no, co⟩, eo, rfl, hro, rfl⟩) | (refine op_call_id ?_; refine op_call rfl (c_l21Seals w q ms (hat.mr.mono (by exact kS)) hown.me (fun p hp => (hat.ma p hp).mono (by exact kS)) hsl) rfl ?_; rintro _ _ ⟨⟨al, nl, cl⟩, es2, rfl, hrs, rfl⟩)) | refine nY ?_ | refine WA_alt ?_ ?_ | refine nR ?_ | refine WC_drawL (id := 8) (ops := o31x8L42) r31x8L42 (by kernel_rfl) rfl ?_ | refine WC_draw (id := 10) (ops := o31x10L42) ([(b2, cellsO (worldC w q) 43), (b3, cellsO (eventC e se) 49)]) r31x10L42 (by kernel_rfl) rfl ?_ | refine WC_drawL (id := 11) (ops := o31x11L42) r31x11L42 (by kernel_rfl) rfl ?_ | refine WC_drawL (id := 18) (ops := o31x18L42) r31x18L42 (by kernel_rfl) rfl ?_ | refine WC_cond rfl (fun hc => ?_) (fun hc => ?_)))
    refine ret_ret (by exact kR) ?_; exact ⟨wldE ek ec ca es sa el la ++ L0, by exact kP, q, ps, ss, ms, ek, ec, ca, es, sa, el, la, rfl, hown, rfl⟩
  | true =>
    have he : step w e = send w (some e.msg) := by unfold step; rw [if_neg (by omega), if_neg (by omega), if_pos hk, hb]; rfl
    rw [he]
    have hml : e.msg.seals.length ≤ 2 := by simp only [knowBuild, Bool.and_eq_true] at hb; exact msgOk_len hb.1
    refine Tri.of Tryz.func31 rfl rfl Tryz.ntmps31 rfl rfl ?_
    (repeat' (first | refine nI ?_ | (refine nA ?_; intro _) | refine nY ?_ | refine WA_alt ?_ ?_ | refine nR ?_ | refine WC_drawL (id := 8) (ops := o31x8L42) r31x8L42 (by kernel_rfl) rfl ?_ | refine WC_drawL (id := 11) (ops := o31x11L42) r31x11L42 (by kernel_rfl) rfl ?_ | refine WC_drawL (id := 18) (ops := o31x18L42) r31x18L42 (by kernel_rfl) rfl ?_ | refine WC_cond rfl (fun hc => ?_) (fun hc => ?_)))
    rename_i b2 b3 b4
    (repeat' (first | refine nI ?_ | (refine nA ?_; intro _) | (refine nW ?_; first | (refine op_call_id ?_; refine op_ro rfl rfl (by exact (c_sKnowBuild ⟨ao, no, co⟩ ⟨al, nl, cl⟩ se (own w) (worldSeals w) e.msg (hro.atL (by exact kS)) (hrs.atL (by exact kS)) (hm.mono (by exact kS))).eq (congrArg B hb)) ?_) | (refine op_call_id ?_; refine op_call rfl (c_l21Bad w q) rfl ?_; rintro _ _ ⟨⟨ao, no, co⟩, eo, rfl, hro, rfl⟩) | (refine op_call_id ?_; refine op_call rfl (c_l21Seals w q ms (hat.mr.mono (by exact kS)) hown.me (fun p hp => (hat.ma p hp).mono (by exact kS)) hsl) rfl ?_; rintro _ _ ⟨⟨al, nl, cl⟩, es2, rfl, hrs, rfl⟩) | (refine op_call_id ?_; refine op_call rfl (c_l21MsgCopy e.msg se (hm.mono (by exact kS)) (by simp only [lim]; omega)) rfl ?_; rintro _ _ ⟨sm9, em9, rfl, hr9, rfl⟩) | (refine op_call_id ?_; refine op_call rfl (c_l21Send (L0 := (b4, cellsO (worldC World.zero WSl.nil) 43) :: L0) w q ps ss ms ek ec ca es sa el la (by exact kP) hown e.msg sm9 true hw.ll hr9) rfl ?_; rintro _ _ ⟨q8, ps8, ss8, ms8, ek8, ec8, ca8, es8, sa8, el8, la8, rfl, ho8, rfl⟩)) | refine nY ?_ | refine WA_alt ?_ ?_ | refine nR ?_ | refine WC_drawL (id := 8) (ops := o31x8L42) r31x8L42 (by kernel_rfl) rfl ?_ | refine WC_draw (id := 10) (ops := o31x10L42) ([(b2, cellsO (worldC w q) 43), (b3, cellsO (eventC e se) 49)]) r31x10L42 (by kernel_rfl) rfl ?_ | refine WC_draw (id := 11) (ops := o31x11L42) ([(b2, cellsO (worldC w q) 43), (b3, cellsO (eventC e se) 49)]) r31x11L42 (by kernel_rfl) rfl ?_ | refine WC_drawL (id := 18) (ops := o31x18L42) r31x18L42 (by kernel_rfl) rfl ?_ | refine WC_cond rfl (fun hc => ?_) (fun hc => ?_)))
    refine ret_ret (by exact kR) ?_; exact ⟨wldE ek8 ec8 ca8 es8 sa8 el8 la8 ++ L0, by exact kP, q8, ps8, ss8, ms8, ek8, ec8, ca8, es8, sa8, el8, la8, rfl, ho8, rfl⟩
theorem c_l21Do6 (hk : e.kind = 6) : Tri Tryz.prog 31 [worldV w q, eventV e se] (wldE ek ec ca es sa el la ++ L0) (WldV L0 (step w e)) := by
  have he : step w e = tick w := by unfold step; rw [if_neg (by omega), if_neg (by omega), if_neg (by omega), if_pos hk]
  rw [he]
  have hnow := hw.now
  refine Tri.of Tryz.func31 rfl rfl Tryz.ntmps31 rfl rfl ?_
  (repeat' (first | refine nI ?_ | (refine nA ?_; intro _) | refine nY ?_ | refine WA_alt ?_ ?_ | refine nR ?_ | refine WC_drawL (id := 8) (ops := o31x8L42) r31x8L42 (by kernel_rfl) rfl ?_ | refine WC_drawL (id := 10) (ops := o31x10L42) r31x10L42 (by kernel_rfl) rfl ?_ | refine WC_drawL (id := 11) (ops := o31x11L42) r31x11L42 (by kernel_rfl) rfl ?_ | refine WC_drawL (id := 18) (ops := o31x18L42) r31x18L42 (by kernel_rfl) rfl ?_ | refine WC_cond rfl (fun hc => ?_) (fun hc => ?_)))
  refine ret_ret (by exact kR) ?_; exact ⟨wldE ek ec ca es sa el la ++ L0, by exact kP, q, ps, ss, ms, ek, ec, ca, es, sa, el, la, rfl, ⟨hown.kc, hown.pe, hown.pr, hown.pa, hown.se, hown.sr, hown.sa, hown.me, hown.mr, hown.ma⟩, rfl⟩
theorem c_l21Do7 (hk : e.kind = 7) (hb : servOk e.b = true) : Tri Tryz.prog 31 [worldV w q, eventV e se] (wldE ek ec ca es sa el la ++ L0) (WldV L0 (step w e)) := by
  have hbr := within_iff.1 hb
  have hsl := hw.sl
  obtain ⟨sv, hsvi⟩ : ∃ sv, w.servs[(e.b - 4).toNat]? = some sv := ⟨w.servs[(e.b - 4).toNat]'(by omega), List.getElem?_eq_getElem _⟩
  have hso : servOf w e.b = sv := getD_some hsvi
  have he : step w e = { w with servs := w.servs.set (e.b - 4).toNat (servFall sv w.now) } := by
    unfold step; rw [if_neg (by omega), if_neg (by omega), if_neg (by omega), if_neg (by omega), if_pos hk]; unfold fall; rw [if_pos hb, hso]; rfl
  rw [he]
  obtain ⟨cs, ts, g, gcap, c, e1, e2, hq, hc, rfl, hperm, hown1, hback⟩ := hown.srv hsvi
  obtain ⟨f1, f2, rfl, r1, r2⟩ := hown1
  rw [hw.sl] at hq
  obtain ⟨kc, cs', ss', ls⟩ := q
  dsimp only at hq; subst hq
  refine Tri.perm ?_ (wldE_sa hperm)
  simp only [wldE, List.append_assoc, List.cons_append, List.nil_append]
  refine Tri.of Tryz.func31 rfl rfl Tryz.ntmps31 rfl rfl ?_
  (repeat' (first | refine nI ?_ | (refine nA ?_; intro _) | (refine nW ?_; first | (refine op_call_id ?_; refine op_ro rfl rfl (by exact (c_l1Serv _).eq (congrArg B hb)) ?_)) | refine nY ?_ | refine WA_alt ?_ ?_ | refine nR ?_ | refine WC_drawL (id := 8) (ops := o31x8L42) r31x8L42 (by kernel_rfl) rfl ?_ | refine WC_drawL (id := 10) (ops := o31x10L42) r31x10L42 (by kernel_rfl) rfl ?_ | refine WC_drawL (id := 11) (ops := o31x11L42) r31x11L42 (by kernel_rfl) rfl ?_ | refine WC_cond rfl (fun hc => ?_) (fun hc => ?_)))
  rename_i b2 b3 b4 bz
  (repeat' (first | refine nI ?_ | (refine nA ?_; intro _) | refine nY ?_ | refine WA_alt ?_ ?_ | refine nR ?_ | refine WC_drawL (id := 8) (ops := o31x8L42) r31x8L42 (by kernel_rfl) rfl ?_ | refine WC_drawL (id := 10) (ops := o31x10L42) r31x10L42 (by kernel_rfl) rfl ?_ | refine WC_drawL (id := 11) (ops := o31x11L42) r31x11L42 (by kernel_rfl) rfl ?_ | refine WC_draw (id := 18) (ops := o31x18L42) ([(b2, cellsO (worldC w ⟨kc, cs', ⟨some ⟨g, 0, none⟩, 2, gcap⟩, ls⟩) 43), (g, cellsO (putC c (0 + (e.b - 4).toNat * 4) [I sv.id, I sv.since, .slice (some ⟨bz, 0, none⟩) 0 0, ts.v]) 115)]) r31x18L42 (by kernel_rfl) rfl ?_ | refine WC_cond rfl (fun hc => ?_) (fun hc => ?_)))
  obtain ⟨ss9, sa9, hp9, hown9⟩ := hback (servFall sv w.now) ⟨some ⟨bz, 0, none⟩, 0, 0⟩ ts f2 ⟨[], f2, rfl, Row.nil, r2⟩
  refine ret_ret (by exact kR) ?_; exact ⟨_, SubP.trans (M := wldE ek ec ca [(g, cellsO (putC c (0 + (e.b - 4).toNat * 4) (servC (servFall sv w.now) ⟨some ⟨bz, 0, none⟩, 0, 0⟩ ts)) 115)] (f2 ++ e2) el la ++ L0) (by simp only [wldE, List.append_assoc, List.cons_append, List.nil_append]; exact kP) (Perm.sub (wldE_sa hp9.symm)), _, _, _, _, _, _, _, _, _, _, _, rfl, hown9, rfl⟩
theorem c_l21Do0 (hk : (e.kind < 1 ∨ 7 < e.kind) ∨ (e.kind = 7 ∧ servOk e.b = false)) : Tri Tryz.prog 31 [worldV w q, eventV e se] (wldE ek ec ca es sa el la ++ L0) (WldV L0 (step w e)) := by
  have he : step w e = w := by
    unfold step; rw [if_neg (by omega), if_neg (by omega), if_neg (by omega), if_neg (by omega)]
    split
    · unfold fall
      rcases hk with hk | hk
      · omega
      · rw [if_neg (by simp [hk.2])]
    · rfl
  rw [he]
  rcases hk with hk | ⟨hk, hb⟩
  · refine Tri.of Tryz.func31 rfl rfl Tryz.ntmps31 rfl rfl ?_
    (repeat' (first | refine nI ?_ | (refine nA ?_; intro _) | refine nY ?_ | refine WA_alt ?_ ?_ | refine nR ?_ | refine WC_drawL (id := 8) (ops := o31x8L42) r31x8L42 (by kernel_rfl) rfl ?_ | refine WC_drawL (id := 10) (ops := o31x10L42) r31x10L42 (by kernel_rfl) rfl ?_ | refine WC_drawL (id := 11) (ops := o31x11L42) r31x11L42 (by kernel_rfl) rfl ?_ | refine WC_drawL (id := 18) (ops := o31x18L42) r31x18L42 (by kernel_rfl) rfl ?_ | refine WC_cond rfl (fun hc => ?_) (fun hc => ?_)))
    refine ret_ret (by exact kR) ?_; exact ⟨wldE ek ec ca es sa el la ++ L0, by exact kP, q, ps, ss, ms, ek, ec, ca, es, sa, el, la, rfl, hown, rfl⟩
  · refine Tri.of Tryz.func31 rfl rfl Tryz.ntmps31 rfl rfl ?_
    (repeat' (first | refine nI ?_ | (refine nA ?_; intro _) | (refine nW ?_; first | (refine op_call_id ?_; refine op_ro rfl rfl (by exact (c_l1Serv _).eq (congrArg B hb)) ?_)) | refine nY ?_ | refine WA_alt ?_ ?_ | refine nR ?_ | refine WC_drawL (id := 8) (ops := o31x8L42) r31x8L42 (by kernel_rfl) rfl ?_ | refine WC_drawL (id := 10) (ops := o31x10L42) r31x10L42 (by kernel_rfl) rfl ?_ | refine WC_drawL (id := 11) (ops := o31x11L42) r31x11L42 (by kernel_rfl) rfl ?_ | refine WC_drawL (id := 18) (ops := o31x18L42) r31x18L42 (by kernel_rfl) rfl ?_ | refine WC_cond rfl (fun hc => ?_) (fun hc => ?_)))
    refine ret_ret (by exact kR) ?_; exact ⟨wldE ek ec ca es sa el la ++ L0, by exact kP, q, ps, ss, ms, ek, ec, ca, es, sa, el, la, rfl, hown, rfl⟩
theorem c_l21Do : Tri Tryz.prog 31 [worldV w q, eventV e se] (wldE ek ec ca es sa el la ++ L0) (WldV L0 (step w e)) := by
  by_cases h1 : e.kind = 1 ∨ e.kind = 2 ∨ e.kind = 3
  · exact c_l21Do1 w q ps ss ms ek ec ca es sa el la hw hown hte e se hm h1
  by_cases h4 : e.kind = 4
  · exact c_l21Do4 w q ps ss ms ek ec ca es sa el la hw hown hte e se hm h4
  by_cases h5 : e.kind = 5
  · exact c_l21Do5 w q ps ss ms ek ec ca es sa el la hw hown hte e se hm h5
  by_cases h6 : e.kind = 6
  · exact c_l21Do6 w q ps ss ms ek ec ca es sa el la hw hown hte e se hm h6
  by_cases h7 : e.kind = 7
  · cases hb : servOk e.b with
    | false => exact c_l21Do0 w q ps ss ms ek ec ca es sa el la hw hown hte e se hm (.inr ⟨h7, hb⟩)
    | true => exact c_l21Do7 w q ps ss ms ek ec ca es sa el la hw hown hte e se hm h7 hb
  · exact c_l21Do0 w q ps ss ms ek ec ca es sa el la hw hown hte e se hm (.inl (by omega))
end
theorem c_l21DoP {L L0 : List Ent} (w : World) (q : WSl) (ps : List (Client × CSl)) (ss : List (Serv × (Sl × Sl))) (ms : List (Msg × Sl)) (ek ec ca es sa el la : List Ent) (hL : L.Perm (wldE ek ec ca es sa el la ++ L0)) (hw : WOk w) (hown : WldOwn w q ps ss ms ek ec ca es sa el la) (hte : TookLe 1500000 w) (e : Event) (se : Sl) (hm : MsgAt L0 e.msg se) :
    Tri Tryz.prog 31 [worldV w q, eventV e se] L (WldV L0 (step w e)) := (c_l21Do w q ps ss ms ek ec ca es sa el la hw hown hte e se hm).perm hL
theorem c_sWorldPlay0 {L : List Ent} (bad : Int) (sev : Sl) (evs : List (Event × Sl)) (hat : SliceAt L encEvent sev evs) (h : within bad 0 3 = false ∨ 70 < evs.length) : RO Tryz.prog 18 [I bad, sev.v] L (.tuple [worldV World.zero WSl.nil, B false].toArray) := by
  obtain ⟨a, n, c⟩ := sev
  obtain ⟨hn, _, hbig, _⟩ := hat
  dsimp only at hn
  subst hn
  simp only [big] at hbig
  cases hb : within bad 0 3 with
  | false =>
    refine Tri.of Tryz.func18 rfl rfl Tryz.ntmps18 rfl rfl ?_
    (repeat' (first | refine nI ?_ | (refine nA ?_; intro _) | (refine nW ?_; first | (refine op_call_id ?_; refine op_ro rfl rfl (by exact c_sWorldNew0 bad hb) ?_)) | refine nY ?_ | refine WA_alt ?_ ?_ | refine nR ?_ | refine WC_drawL (id := 7) (ops := o18x7L42) r18x7L42 (by kernel_rfl) rfl ?_ | refine WC_cond rfl (fun hc => ?_) (fun hc => ?_)))
    refine ro_ret (by exact kR) (by exact kL) ?_; rfl
  | true =>
    have h70 : 70 < evs.length := by
      rcases h with h | h
      · rw [hb] at h; cases h
      · exact h
    refine Tri.of Tryz.func18 rfl rfl Tryz.ntmps18 rfl rfl ?_
    (repeat' (first | refine nI ?_ | (refine nA ?_; intro _) | (refine nW ?_; first | (refine op_call_id ?_; refine op_call rfl (c_sWorldNew1 bad hb) rfl ?_; rintro _ _ ⟨q, ps, ss, ms, ek, ec, ca, es, sa, el, la, rfl, hown, rfl⟩)) | refine nY ?_ | refine WA_alt ?_ ?_ | refine nR ?_ | refine WC_drawL (id := 7) (ops := o18x7L42) r18x7L42 (by kernel_rfl) rfl ?_ | refine WC_cond rfl (fun hc => ?_) (fun hc => ?_)))
    refine ro_ret (by exact kR) (by exact kL) ?_; rfl
theorem c_sWorldPlay1 {L : List Ent} (bad : Int) (sev : Sl) (evs : List (Event × Sl)) (hat : SliceAt L encEvent sev evs) (hm : ∀ p ∈ evs, MsgAt L p.1.msg p.2) (hb : within bad 0 3 = true) (h70 : evs.length ≤ 70) :
    Tri Tryz.prog 18 [I bad, sev.v] L (fun v L' => ∃ q ps ss ms ek ec ca es sa el la, v = .tuple [worldV (play (worldNew bad) (evs.map Prod.fst)) q, B true].toArray ∧ WldOwn (play (worldNew bad) (evs.map Prod.fst)) q ps ss ms ek ec ca es sa el la ∧ L' = wldE ek ec ca es sa el la ++ L) := by
  obtain ⟨a, n, c⟩ := sev
  obtain ⟨hn, hc, hbig, hrd⟩ := hat
  dsimp only at hn hrd hc
  subst hn
  simp only [big] at hbig
  have hbb := within_iff.1 hb
  refine Tri.of Tryz.func18 rfl rfl Tryz.ntmps18 rfl rfl ?_
  (repeat' (first | refine nI ?_ | (refine nA ?_; intro _) | (refine nW ?_; first | (refine op_call_id ?_; refine op_call rfl (c_sWorldNew1 bad hb) rfl ?_; rintro _ _ ⟨q0, ps0, ss0, ms0, ek0, ec0, ca0, es0, sa0, el0, la0, rfl, hown0, rfl⟩)) | refine nY ?_ | refine WA_alt ?_ ?_ | refine nR ?_ | refine WC_drawL (id := 7) (ops := o18x7L42) r18x7L42 (by kernel_rfl) rfl ?_ | refine WC_cond rfl (fun hc => ?_) (fun hc => ?_)))
  rename_i b4 b6
  refine WC_loop (fun mz Ez Mz => ∃ (k : Nat) (w : World) (q : WSl) (ps : List (Client × CSl)) (ss : List (Serv × (Sl × Sl))) (ms : List (Msg × Sl)) (ek ec ca es sa el la : List Ent), k + mz = (evs).length ∧ Ez = [(1, .slice a evs.length c), (4, .pointer (some ⟨b4, 0, none⟩)), (6, .pointer (some ⟨b6, 0, none⟩)), (8, I k)] ∧ Mz = (b6, cellsO (worldC w q) 43) :: (b4, cellsO (worldC World.zero WSl.nil) 43) :: (wldE ek ec ca es sa el la ++ L) ∧ (w = play (worldNew bad) ((evs.take k).map Prod.fst) ∧ WldOwn w q ps ss ms ek ec ca es sa el la ∧ WOk w ∧ TookLe k w)) (evs).length (by exact kQ) (by exact kL) ⟨0, worldNew bad, q0, ps0, ss0, ms0, ek0, ec0, ca0, es0, sa0, el0, la0, by omega, rfl, rfl, by exact ⟨rfl, hown0, new_ok hbb, fun s hs => by simp [worldNew, servNew] at hs; rcases hs with rfl | rfl <;> simp⟩⟩ ?_
  rintro mz Ez Mz ⟨k, w, q, ps, ss, ms, ek, ec, ca, es, sa, el, la, hk, rfl, rfl, hin⟩
  rcases Nat.lt_or_ge k (evs).length with hlt | hge
  · obtain ⟨hpl, hown, hok, htk⟩ := hin
    obtain ⟨⟨e, se⟩, hy⟩ : ∃ y, evs[k]? = some y := ⟨evs[k]'(by omega), by simp [hlt]⟩
    obtain ⟨b', o', cs', T', fr', rfl, hm', hrw⟩ := hrd (by omega)
    have hrow'' := hrw k _ hy
    have hme := hm _ (List.mem_of_getElem? hy)
    (repeat' (first | refine nI ?_ | (refine nA ?_; intro _) | (refine nW ?_; first | (refine op_call_id ?_; refine op_call rfl (c_l21DoP w q ps ss ms ek ec ca es sa el la (by exact kE) hok hown (htk.up (by omega)) e se (hme.mono (by exact kS))) rfl ?_; rintro _ _ ⟨q9, ps9, ss9, ms9, ek9, ec9, ca9, es9, sa9, el9, la9, rfl, ho9, rfl⟩)) | refine nY ?_ | refine WA_alt ?_ ?_ | refine nR ?_ | refine WC_draw (id := 7) (ops := o18x7L42) ([(b6, cellsO (worldC w q) 43), (b', Obj.cells cs'.toArray T' fr')]) r18x7L42 (by kernel_rfl) rfl ?_ | refine WC_cond rfl (fun hc => ?_) (fun hc => ?_)))
    exact loopQ_next ⟨mz - 1, _, _, by omega, by exact kQ, by exact kL, k + 1, step w e, q9, ps9, ss9, ms9, ek9, ec9, ca9, es9, sa9, el9, la9, by omega, rfl, rfl, by exact ⟨by rw [take_next hy, List.map_append, List.map_cons, List.map_nil, play_snoc, ← hpl], ho9, step_ok hok, took_step htk⟩⟩
  · obtain ⟨hpl, hown, hok, htk⟩ := hin
    rw [take_all hge] at hpl
    subst hpl
    (repeat' (first | refine nI ?_ | (refine nA ?_; intro _) | refine nY ?_ | refine WA_alt ?_ ?_ | refine nR ?_ | refine WC_drawL (id := 7) (ops := o18x7L42) r18x7L42 (by kernel_rfl) rfl ?_ | refine WC_cond rfl (fun hc => ?_) (fun hc => ?_)))
    refine ret_ret (by exact kR) ?_; exact ⟨wldE ek ec ca es sa el la ++ L, by exact kP, q, ps, ss, ms, ek, ec, ca, es, sa, el, la, rfl, hown, rfl⟩
end Go.Proofs.YtoledfhjmdpihaaGreat
