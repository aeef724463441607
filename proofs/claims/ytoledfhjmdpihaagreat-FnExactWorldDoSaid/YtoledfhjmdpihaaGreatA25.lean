/- Structs and rows made anew out of what came in. -/
import Derived.Test.YtoledfhjmdpihaaGreatA24
set_option linter.unusedVariables false
set_option linter.unusedSectionVars false
set_option linter.unusedSimpArgs false
namespace Go.Proofs.YtoledfhjmdpihaaGreat
open Go Go.Proofs Go.Proofs.YtoledfhjmdpihaaGreat.VE
attribute [local irreducible] Val Op1 WO WR WA WC seqQ blockQ loopQ retQ
set_option maxHeartbeats 8000000
theorem zeros_row {X : Type} (E : Enc X) (x : X) : ∀ n, zerosOf (E.cells x) n = E.row (List.replicate n x)
  | 0 => rfl
  | n + 1 => by rw [zerosOf, zeros_row E x n, List.replicate_succ]; rfl
theorem rep_set {X : Type} {xs : List X} {y z : X} {k n : Nat} (hk : xs.length = k) (hlt : k < n) : (xs ++ List.replicate (n - k) z).set k y = (xs ++ [y]) ++ List.replicate (n - (k + 1)) z := by
  rw [show n - k = (n - (k + 1)) + 1 by omega, List.replicate_succ, set_mid hk]
abbrev Client.zero : Client := ⟨0, 0, [], [], [], []⟩
abbrev Serv.zero : Serv := ⟨0, 0, [], []⟩
abbrev Want.zero : Want := ⟨0, 0⟩
abbrev Call.zero : Call := ⟨0, 0, 0, 0⟩
abbrev Cred.zero : Cred := ⟨0, 0, 0, Seal.zero⟩
abbrev Event.zero : Event := ⟨0, 0, 0, Msg.zero⟩
theorem c_toSeal {L : List Ent} (x : Seal) : RO Tryz.prog 145 [sealV x] L (sealV x) := by
  refine Tri.of Tryz.func145 rfl rfl Tryz.ntmps145 rfl rfl ?_
  (repeat' (first | refine nI ?_ | (refine nA ?_; intro _) | refine nY ?_ | refine nR ?_ | refine WC_cond rfl (fun hc => ?_) (fun hc => ?_)))
  refine ro_ret (by exact kR) (by exact kL) ?_; rfl
theorem c_toWant {L : List Ent} (x : Want) : RO Tryz.prog 194 [wantV x] L (wantV x) := by
  refine Tri.of Tryz.func194 rfl rfl Tryz.ntmps194 rfl rfl ?_
  (repeat' (first | refine nI ?_ | (refine nA ?_; intro _) | refine nY ?_ | refine nR ?_ | refine WC_cond rfl (fun hc => ?_) (fun hc => ?_)))
  refine ro_ret (by exact kR) (by exact kL) ?_; rfl
theorem c_toCall {L : List Ent} (x : Call) : RO Tryz.prog 196 [callV x] L (callV x) := by
  refine Tri.of Tryz.func196 rfl rfl Tryz.ntmps196 rfl rfl ?_
  (repeat' (first | refine nI ?_ | (refine nA ?_; intro _) | refine nY ?_ | refine nR ?_ | refine WC_cond rfl (fun hc => ?_) (fun hc => ?_)))
  refine ro_ret (by exact kR) (by exact kL) ?_; rfl
theorem c_toCred {L : List Ent} (x : Cred) : RO Tryz.prog 195 [credV x] L (credV x) := by
  refine Tri.of Tryz.func195 rfl rfl Tryz.ntmps195 rfl rfl ?_
  (repeat' (first | refine nI ?_ | (refine nA ?_; intro _) | (refine nW ?_; first | (refine op_call_id ?_; refine op_ro rfl rfl (by exact c_toSeal x.ticket) ?_)) | refine nY ?_ | refine nR ?_ | refine WC_cond rfl (fun hc => ?_) (fun hc => ?_)))
  refine ro_ret (by exact kR) (by exact kL) ?_; rfl
theorem c_toSealS {L : List Ent} (s : Sl) (xs : List Seal) (h : SliceAt L encSeal s xs) (hl : xs.length ≤ 1048576) : Tri Tryz.prog 80 [s.v] L (fun v L' => ∃ s' es, v = s'.v ∧ Row encSeal 155 s' xs es ∧ L' = es ++ L) := by
  obtain ⟨a, n, c⟩ := s
  obtain ⟨hn, hc, hb, hat⟩ := h
  dsimp only at hn hat hc
  subst hn
  simp only [big] at hb
  refine Tri.of Tryz.func80 rfl rfl Tryz.ntmps80 rfl rfl ?_
  (repeat' (first | refine nI ?_ | (refine nA ?_; intro _) | (refine nW ?_; first | (refine op_makeSlice (l := xs.length) (c := xs.length) (e := 155) rfl rfl rfl rfl rfl rfl (Nat.ble_eq_true_of_le (by omega)) (Nat.ble_eq_true_of_le (by omega)) (Nat.ble_eq_true_of_le (by omega)) rfl ?_; intro _)) | refine nY ?_ | refine nR ?_ | refine WC_cond rfl (fun hc => ?_) (fun hc => ?_)))
  rename_i bz
  refine WC_loop (fun mz Ez Mz => ∃ (k : Nat) (zs : List Seal) (cells : List Value), k + mz = (xs).length ∧ Ez = [(0, .slice a xs.length c), (3, .slice (some ⟨bz, 0, none⟩) xs.length xs.length), (4, I k)] ∧ Mz = (bz, cellsO cells 155) :: L ∧ (cells = encSeal.row zs ++ [] ∧ zs = xs.take k ++ List.replicate (xs.length - k) Seal.zero)) (xs).length (by exact kQ) (by exact kL) ⟨0, List.replicate xs.length Seal.zero, zerosOf (sealC Seal.zero) xs.length, by omega, rfl, rfl, by exact ⟨by rw [List.append_nil]; exact zeros_row encSeal Seal.zero _, by simp⟩⟩ ?_
  rintro mz Ez Mz ⟨k, zs, cells, hk, rfl, rfl, hin⟩
  rcases Nat.lt_or_ge k (xs).length with hlt | hge
  · obtain ⟨y1, hy1⟩ : ∃ y, (xs)[k]? = some y := ⟨(xs)[k]'(by omega), by simp [hlt]⟩; obtain ⟨b'1, o1, cs1, T1, fr1, rfl, hm1, hrow1⟩ := hat (by omega); have hrow'1 := hrow1 k y1 hy1; have htk1 := take_next hy1
    obtain ⟨hcl, hzs⟩ := hin
    subst hcl
    have hzl : zs.length = xs.length := by rw [hzs, List.length_append, List.length_take, List.length_replicate]; omega
    (repeat' (first | refine nI ?_ | (refine nA ?_; intro _) | (refine nW ?_; first | (refine op_call_id ?_; refine op_ro rfl rfl (by exact c_toSeal y1) ?_) | (refine op_store_id ?_; (refine op_storeRow (E := encSeal) (v := y1) (i := k) rfl rfl rfl rfl (by exact kF) rfl (by omega) ?_))) | refine nY ?_ | refine nR ?_ | refine WC_cond rfl (fun hc => ?_) (fun hc => ?_)))
    exact loopQ_next ⟨mz - 1, _, _, by omega, by exact kQ, by exact kL, k + 1, zs.set k y1, encSeal.row (zs.set k y1) ++ [], by omega, rfl, rfl, by exact ⟨rfl, by rw [hzs, htk1]; exact rep_set (by rw [List.length_take]; omega) hlt⟩⟩
  · obtain ⟨hcl, hzs⟩ := hin
    have hk9 : k = xs.length := by omega
    subst hk9
    rw [List.take_length, Nat.sub_self, List.replicate_zero, List.append_nil] at hzs
    subst hzs hcl
    have hfin := Row.mk (E := encSeal) (T := 155) (g := bz) (cap := zs.length) (rest := []) (xs := zs) (Nat.le_refl _) (by simp) (by simp only [maxLen]; omega) (by simp only [lim]; omega)
    (repeat' (first | refine nI ?_ | (refine nA ?_; intro _) | refine nY ?_ | refine nR ?_ | refine WC_cond rfl (fun hc => ?_) (fun hc => ?_)))
    refine ret_ret (by exact kR) ?_; exact ⟨(bz, cellsO (encSeal.row zs ++ []) 155) :: L, by exact kP, ⟨_, _, _⟩, _, rfl, hfin, rfl⟩
theorem c_toWantS {L : List Ent} (s : Sl) (xs : List Want) (h : SliceAt L encWant s xs) (hl : xs.length ≤ 1048576) : Tri Tryz.prog 146 [s.v] L (fun v L' => ∃ s' es, v = s'.v ∧ Row encWant 162 s' xs es ∧ L' = es ++ L) := by
  obtain ⟨a, n, c⟩ := s
  obtain ⟨hn, hc, hb, hat⟩ := h
  dsimp only at hn hat hc
  subst hn
  simp only [big] at hb
  refine Tri.of Tryz.func146 rfl rfl Tryz.ntmps146 rfl rfl ?_
  (repeat' (first | refine nI ?_ | (refine nA ?_; intro _) | (refine nW ?_; first | (refine op_makeSlice (l := xs.length) (c := xs.length) (e := 162) rfl rfl rfl rfl rfl rfl (Nat.ble_eq_true_of_le (by omega)) (Nat.ble_eq_true_of_le (by omega)) (Nat.ble_eq_true_of_le (by omega)) rfl ?_; intro _)) | refine nY ?_ | refine nR ?_ | refine WC_cond rfl (fun hc => ?_) (fun hc => ?_)))
  rename_i bz
  refine WC_loop (fun mz Ez Mz => ∃ (k : Nat) (zs : List Want) (cells : List Value), k + mz = (xs).length ∧ Ez = [(0, .slice a xs.length c), (3, .slice (some ⟨bz, 0, none⟩) xs.length xs.length), (4, I k)] ∧ Mz = (bz, cellsO cells 162) :: L ∧ (cells = encWant.row zs ++ [] ∧ zs = xs.take k ++ List.replicate (xs.length - k) Want.zero)) (xs).length (by exact kQ) (by exact kL) ⟨0, List.replicate xs.length Want.zero, zerosOf (wantC Want.zero) xs.length, by omega, rfl, rfl, by exact ⟨by rw [List.append_nil]; exact zeros_row encWant Want.zero _, by simp⟩⟩ ?_
  rintro mz Ez Mz ⟨k, zs, cells, hk, rfl, rfl, hin⟩
  rcases Nat.lt_or_ge k (xs).length with hlt | hge
  · obtain ⟨y1, hy1⟩ : ∃ y, (xs)[k]? = some y := ⟨(xs)[k]'(by omega), by simp [hlt]⟩; obtain ⟨b'1, o1, cs1, T1, fr1, rfl, hm1, hrow1⟩ := hat (by omega); have hrow'1 := hrow1 k y1 hy1; have htk1 := take_next hy1
    obtain ⟨hcl, hzs⟩ := hin
    subst hcl
    have hzl : zs.length = xs.length := by rw [hzs, List.length_append, List.length_take, List.length_replicate]; omega
    (repeat' (first | refine nI ?_ | (refine nA ?_; intro _) | (refine nW ?_; first | (refine op_call_id ?_; refine op_ro rfl rfl (by exact c_toWant y1) ?_) | (refine op_store_id ?_; (refine op_storeRow (E := encWant) (v := y1) (i := k) rfl rfl rfl rfl (by exact kF) rfl (by omega) ?_))) | refine nY ?_ | refine nR ?_ | refine WC_cond rfl (fun hc => ?_) (fun hc => ?_)))
    exact loopQ_next ⟨mz - 1, _, _, by omega, by exact kQ, by exact kL, k + 1, zs.set k y1, encWant.row (zs.set k y1) ++ [], by omega, rfl, rfl, by exact ⟨rfl, by rw [hzs, htk1]; exact rep_set (by rw [List.length_take]; omega) hlt⟩⟩
  · obtain ⟨hcl, hzs⟩ := hin
    have hk9 : k = xs.length := by omega
    subst hk9
    rw [List.take_length, Nat.sub_self, List.replicate_zero, List.append_nil] at hzs
    subst hzs hcl
    have hfin := Row.mk (E := encWant) (T := 162) (g := bz) (cap := zs.length) (rest := []) (xs := zs) (Nat.le_refl _) (by simp) (by simp only [maxLen]; omega) (by simp only [lim]; omega)
    (repeat' (first | refine nI ?_ | (refine nA ?_; intro _) | refine nY ?_ | refine nR ?_ | refine WC_cond rfl (fun hc => ?_) (fun hc => ?_)))
    refine ret_ret (by exact kR) ?_; exact ⟨(bz, cellsO (encWant.row zs ++ []) 162) :: L, by exact kP, ⟨_, _, _⟩, _, rfl, hfin, rfl⟩
theorem c_toCallS {L : List Ent} (s : Sl) (xs : List Call) (h : SliceAt L encCall s xs) (hl : xs.length ≤ 1048576) : Tri Tryz.prog 148 [s.v] L (fun v L' => ∃ s' es, v = s'.v ∧ Row encCall 169 s' xs es ∧ L' = es ++ L) := by
  obtain ⟨a, n, c⟩ := s
  obtain ⟨hn, hc, hb, hat⟩ := h
  dsimp only at hn hat hc
  subst hn
  simp only [big] at hb
  refine Tri.of Tryz.func148 rfl rfl Tryz.ntmps148 rfl rfl ?_
  (repeat' (first | refine nI ?_ | (refine nA ?_; intro _) | (refine nW ?_; first | (refine op_makeSlice (l := xs.length) (c := xs.length) (e := 169) rfl rfl rfl rfl rfl rfl (Nat.ble_eq_true_of_le (by omega)) (Nat.ble_eq_true_of_le (by omega)) (Nat.ble_eq_true_of_le (by omega)) rfl ?_; intro _)) | refine nY ?_ | refine nR ?_ | refine WC_cond rfl (fun hc => ?_) (fun hc => ?_)))
  rename_i bz
  refine WC_loop (fun mz Ez Mz => ∃ (k : Nat) (zs : List Call) (cells : List Value), k + mz = (xs).length ∧ Ez = [(0, .slice a xs.length c), (3, .slice (some ⟨bz, 0, none⟩) xs.length xs.length), (4, I k)] ∧ Mz = (bz, cellsO cells 169) :: L ∧ (cells = encCall.row zs ++ [] ∧ zs = xs.take k ++ List.replicate (xs.length - k) Call.zero)) (xs).length (by exact kQ) (by exact kL) ⟨0, List.replicate xs.length Call.zero, zerosOf (callC Call.zero) xs.length, by omega, rfl, rfl, by exact ⟨by rw [List.append_nil]; exact zeros_row encCall Call.zero _, by simp⟩⟩ ?_
  rintro mz Ez Mz ⟨k, zs, cells, hk, rfl, rfl, hin⟩
  rcases Nat.lt_or_ge k (xs).length with hlt | hge
  · obtain ⟨y1, hy1⟩ : ∃ y, (xs)[k]? = some y := ⟨(xs)[k]'(by omega), by simp [hlt]⟩; obtain ⟨b'1, o1, cs1, T1, fr1, rfl, hm1, hrow1⟩ := hat (by omega); have hrow'1 := hrow1 k y1 hy1; have htk1 := take_next hy1
    obtain ⟨hcl, hzs⟩ := hin
    subst hcl
    have hzl : zs.length = xs.length := by rw [hzs, List.length_append, List.length_take, List.length_replicate]; omega
    (repeat' (first | refine nI ?_ | (refine nA ?_; intro _) | (refine nW ?_; first | (refine op_call_id ?_; refine op_ro rfl rfl (by exact c_toCall y1) ?_) | (refine op_store_id ?_; (refine op_storeRow (E := encCall) (v := y1) (i := k) rfl rfl rfl rfl (by exact kF) rfl (by omega) ?_))) | refine nY ?_ | refine nR ?_ | refine WC_cond rfl (fun hc => ?_) (fun hc => ?_)))
    exact loopQ_next ⟨mz - 1, _, _, by omega, by exact kQ, by exact kL, k + 1, zs.set k y1, encCall.row (zs.set k y1) ++ [], by omega, rfl, rfl, by exact ⟨rfl, by rw [hzs, htk1]; exact rep_set (by rw [List.length_take]; omega) hlt⟩⟩
  · obtain ⟨hcl, hzs⟩ := hin
    have hk9 : k = xs.length := by omega
    subst hk9
    rw [List.take_length, Nat.sub_self, List.replicate_zero, List.append_nil] at hzs
    subst hzs hcl
    have hfin := Row.mk (E := encCall) (T := 169) (g := bz) (cap := zs.length) (rest := []) (xs := zs) (Nat.le_refl _) (by simp) (by simp only [maxLen]; omega) (by simp only [lim]; omega)
    (repeat' (first | refine nI ?_ | (refine nA ?_; intro _) | refine nY ?_ | refine nR ?_ | refine WC_cond rfl (fun hc => ?_) (fun hc => ?_)))
    refine ret_ret (by exact kR) ?_; exact ⟨(bz, cellsO (encCall.row zs ++ []) 169) :: L, by exact kP, ⟨_, _, _⟩, _, rfl, hfin, rfl⟩
theorem c_toCredS {L : List Ent} (s : Sl) (xs : List Cred) (h : SliceAt L encCred s xs) (hl : xs.length ≤ 1048576) : Tri Tryz.prog 147 [s.v] L (fun v L' => ∃ s' es, v = s'.v ∧ Row encCred 164 s' xs es ∧ L' = es ++ L) := by
  obtain ⟨a, n, c⟩ := s
  obtain ⟨hn, hc, hb, hat⟩ := h
  dsimp only at hn hat hc
  subst hn
  simp only [big] at hb
  refine Tri.of Tryz.func147 rfl rfl Tryz.ntmps147 rfl rfl ?_
  (repeat' (first | refine nI ?_ | (refine nA ?_; intro _) | (refine nW ?_; first | (refine op_makeSlice (l := xs.length) (c := xs.length) (e := 164) rfl rfl rfl rfl rfl rfl (Nat.ble_eq_true_of_le (by omega)) (Nat.ble_eq_true_of_le (by omega)) (Nat.ble_eq_true_of_le (by omega)) rfl ?_; intro _)) | refine nY ?_ | refine nR ?_ | refine WC_cond rfl (fun hc => ?_) (fun hc => ?_)))
  rename_i bz
  refine WC_loop (fun mz Ez Mz => ∃ (k : Nat) (zs : List Cred) (cells : List Value), k + mz = (xs).length ∧ Ez = [(0, .slice a xs.length c), (3, .slice (some ⟨bz, 0, none⟩) xs.length xs.length), (4, I k)] ∧ Mz = (bz, cellsO cells 164) :: L ∧ (cells = encCred.row zs ++ [] ∧ zs = xs.take k ++ List.replicate (xs.length - k) Cred.zero)) (xs).length (by exact kQ) (by exact kL) ⟨0, List.replicate xs.length Cred.zero, zerosOf (credC Cred.zero) xs.length, by omega, rfl, rfl, by exact ⟨by rw [List.append_nil]; exact zeros_row encCred Cred.zero _, by simp⟩⟩ ?_
  rintro mz Ez Mz ⟨k, zs, cells, hk, rfl, rfl, hin⟩
  rcases Nat.lt_or_ge k (xs).length with hlt | hge
  · obtain ⟨y1, hy1⟩ : ∃ y, (xs)[k]? = some y := ⟨(xs)[k]'(by omega), by simp [hlt]⟩; obtain ⟨b'1, o1, cs1, T1, fr1, rfl, hm1, hrow1⟩ := hat (by omega); have hrow'1 := hrow1 k y1 hy1; have htk1 := take_next hy1
    obtain ⟨hcl, hzs⟩ := hin
    subst hcl
    have hzl : zs.length = xs.length := by rw [hzs, List.length_append, List.length_take, List.length_replicate]; omega
    (repeat' (first | refine nI ?_ | (refine nA ?_; intro _) | (refine nW ?_; first | (refine op_call_id ?_; refine op_ro rfl rfl (by exact c_toCred y1) ?_) | (refine op_store_id ?_; (refine op_storeRow (E := encCred) (v := y1) (i := k) rfl rfl rfl rfl (by exact kF) rfl (by omega) ?_))) | refine nY ?_ | refine nR ?_ | refine WC_cond rfl (fun hc => ?_) (fun hc => ?_)))
    exact loopQ_next ⟨mz - 1, _, _, by omega, by exact kQ, by exact kL, k + 1, zs.set k y1, encCred.row (zs.set k y1) ++ [], by omega, rfl, rfl, by exact ⟨rfl, by rw [hzs, htk1]; exact rep_set (by rw [List.length_take]; omega) hlt⟩⟩
  · obtain ⟨hcl, hzs⟩ := hin
    have hk9 : k = xs.length := by omega
    subst hk9
    rw [List.take_length, Nat.sub_self, List.replicate_zero, List.append_nil] at hzs
    subst hzs hcl
    have hfin := Row.mk (E := encCred) (T := 164) (g := bz) (cap := zs.length) (rest := []) (xs := zs) (Nat.le_refl _) (by simp) (by simp only [maxLen]; omega) (by simp only [lim]; omega)
    (repeat' (first | refine nI ?_ | (refine nA ?_; intro _) | refine nY ?_ | refine nR ?_ | refine WC_cond rfl (fun hc => ?_) (fun hc => ?_)))
    refine ret_ret (by exact kR) ?_; exact ⟨(bz, cellsO (encCred.row zs ++ []) 164) :: L, by exact kP, ⟨_, _, _⟩, _, rfl, hfin, rfl⟩
theorem c_toMsg {L : List Ent} (m : Msg) (s : Sl) (h : MsgAt L m s) (hl : m.seals.length ≤ 1048576) : Tri Tryz.prog 37 [msgV m s] L (fun v L' => ∃ s' es, v = msgV m s' ∧ MsgOwn (m, s') es ∧ L' = es ++ L) := by
  refine Tri.of Tryz.func37 rfl rfl Tryz.ntmps37 rfl rfl ?_
  (repeat' (first | refine nI ?_ | (refine nA ?_; intro _) | (refine nW ?_; first | (refine op_call_id ?_; refine op_call rfl (c_toSealS s m.seals (h.mono (by exact kS)) hl) rfl ?_; rintro _ _ ⟨s', es, rfl, hr, rfl⟩)) | refine nY ?_ | refine nR ?_ | refine WC_cond rfl (fun hc => ?_) (fun hc => ?_)))
  refine ret_ret (by exact kR) ?_; exact ⟨es ++ L, by exact kP, s', es, rfl, hr, rfl⟩
theorem c_toKdc {L : List Ent} (k : Kdc) (s : Sl) (h : SliceAt L encSeal s k.cache) (hl : k.cache.length ≤ 1048576) : Tri Tryz.prog 33 [.agg [I k.next, s.v].toArray] L (fun v L' => ∃ s' es, v = .agg [I k.next, s'.v].toArray ∧ Row encSeal 155 s' k.cache es ∧ L' = es ++ L) := by
  refine Tri.of Tryz.func33 rfl rfl Tryz.ntmps33 rfl rfl ?_
  (repeat' (first | refine nI ?_ | (refine nA ?_; intro _) | (refine nW ?_; first | (refine op_call_id ?_; refine op_call rfl (c_toSealS s k.cache (h.mono (by exact kS)) hl) rfl ?_; rintro _ _ ⟨s', es, rfl, hr, rfl⟩)) | refine nY ?_ | refine nR ?_ | refine WC_cond rfl (fun hc => ?_) (fun hc => ?_)))
  refine ret_ret (by exact kR) ?_; exact ⟨es ++ L, by exact kP, s', es, rfl, hr, rfl⟩
theorem c_toEvent {L : List Ent} (e : Event) (s : Sl) (h : MsgAt L e.msg s) (hl : e.msg.seals.length ≤ 1048576) : Tri Tryz.prog 10 [eventV e s] L (fun v L' => ∃ s' es, v = eventV e s' ∧ MsgOwn (e.msg, s') es ∧ L' = es ++ L) := by
  refine Tri.of Tryz.func10 rfl rfl Tryz.ntmps10 rfl rfl ?_
  (repeat' (first | refine nI ?_ | (refine nA ?_; intro _) | (refine nW ?_; first | (refine op_call_id ?_; refine op_call rfl (c_toMsg e.msg s (h.mono (by exact kS)) hl) rfl ?_; rintro _ _ ⟨s', es, rfl, hr, rfl⟩)) | refine nY ?_ | refine nR ?_ | refine WC_cond rfl (fun hc => ?_) (fun hc => ?_)))
  refine ret_ret (by exact kR) ?_; exact ⟨es ++ L, by exact kP, s', es, rfl, hr, rfl⟩
theorem c_toServ {L : List Ent} (v : Serv) (s : Sl × Sl) (h : SrvAt L (v, s)) (h1 : v.cache.length ≤ 1048576) (h2 : v.took.length ≤ 1048576) : Tri Tryz.prog 82 [servV v s.1 s.2] L (fun r L' => ∃ s' es, r = servV v s'.1 s'.2 ∧ SrvOwn (v, s') es ∧ L' = es ++ L) := by
  obtain ⟨p, q⟩ := s
  refine Tri.of Tryz.func82 rfl rfl Tryz.ntmps82 rfl rfl ?_
  (repeat' (first | refine nI ?_ | (refine nA ?_; intro _) | (refine nW ?_; first | (refine op_call_id ?_; refine op_call rfl (c_toSealS p v.cache (h.c.mono (by exact kS)) h1) rfl ?_; rintro _ _ ⟨s1, e1, rfl, hr1, rfl⟩) | (refine op_call_id ?_; refine op_call rfl (c_toCallS q v.took (h.t.mono (by exact kS)) h2) rfl ?_; rintro _ _ ⟨s2, e2, rfl, hr2, rfl⟩)) | refine nY ?_ | refine nR ?_ | refine WC_cond rfl (fun hc => ?_) (fun hc => ?_)))
  refine ret_ret (by exact kR) ?_; exact ⟨e1 ++ (e2 ++ L), by exact kP, (s1, s2), e1 ++ e2, rfl, ⟨e1, e2, rfl, hr1, hr2⟩, by simp only [List.append_assoc]⟩
theorem c_toClient {L : List Ent} (c : Client) (s : CSl) (h : CliAt L (c, s)) (h1 : c.wants.length ≤ 1048576) (h2 : c.creds.length ≤ 1048576) (h3 : c.sent.length ≤ 1048576) (h4 : c.met.length ≤ 1048576) : Tri Tryz.prog 81 [clientV c s] L (fun r L' => ∃ s' es, r = clientV c s' ∧ CliOwn (c, s') es ∧ L' = es ++ L) := by
  obtain ⟨p, q, r, t⟩ := s
  refine Tri.of Tryz.func81 rfl rfl Tryz.ntmps81 rfl rfl ?_
  (repeat' (first | refine nI ?_ | (refine nA ?_; intro _) | (refine nW ?_; first | (refine op_call_id ?_; refine op_call rfl (c_toWantS p c.wants (h.w.mono (by exact kS)) h1) rfl ?_; rintro _ _ ⟨s1, e1, rfl, hr1, rfl⟩) | (refine op_call_id ?_; refine op_call rfl (c_toCredS q c.creds (h.c.mono (by exact kS)) h2) rfl ?_; rintro _ _ ⟨s2, e2, rfl, hr2, rfl⟩) | (refine op_call_id ?_; refine op_call rfl (c_toCallS r c.sent (h.s.mono (by exact kS)) h3) rfl ?_; rintro _ _ ⟨s3, e3, rfl, hr3, rfl⟩) | (refine op_call_id ?_; refine op_call rfl (c_toCallS t c.met (h.m.mono (by exact kS)) h4) rfl ?_; rintro _ _ ⟨s4, e4, rfl, hr4, rfl⟩)) | refine nY ?_ | refine nR ?_ | refine WC_cond rfl (fun hc => ?_) (fun hc => ?_)))
  refine ret_ret (by exact kR) ?_; exact ⟨e1 ++ (e2 ++ (e3 ++ (e4 ++ L))), by exact kP, ⟨s1, s2, s3, s4⟩, e1 ++ (e2 ++ (e3 ++ e4)), rfl, ⟨e1, e2, e3, e4, rfl, hr1, hr2, hr3, hr4⟩, by simp only [List.append_assoc]⟩
theorem c_toClientS {L : List Ent} (s : Sl) (xs : List (Client × CSl)) (h : SliceAt L encClient s xs) (hx : ∀ p ∈ xs, CliAt L p) (hb : ∀ p ∈ xs, p.1.wants.length ≤ 1048576 ∧ p.1.creds.length ≤ 1048576 ∧ p.1.sent.length ≤ 1048576 ∧ p.1.met.length ≤ 1048576) (hl : xs.length ≤ 1048576) : Tri Tryz.prog 34 [s.v] L (fun v L' => ∃ s' ys ec ca, v = s'.v ∧ ys.map Prod.fst = xs.map Prod.fst ∧ Row encClient 112 s' ys ec ∧ All CliOwn ys ca ∧ L' = ec ++ (ca ++ L)) := by
  obtain ⟨a, n, c⟩ := s
  obtain ⟨hn, hc, hb9, hat⟩ := h
  dsimp only at hn hat hc
  subst hn
  simp only [big] at hb9
  refine Tri.of Tryz.func34 rfl rfl Tryz.ntmps34 rfl rfl ?_
  (repeat' (first | refine nI ?_ | (refine nA ?_; intro _) | (refine nW ?_; first | (refine op_makeSlice (l := xs.length) (c := xs.length) (e := 112) rfl rfl rfl rfl rfl rfl (Nat.ble_eq_true_of_le (by omega)) (Nat.ble_eq_true_of_le (by omega)) (Nat.ble_eq_true_of_le (by omega)) rfl ?_; intro _)) | refine nY ?_ | refine nR ?_ | refine WC_cond rfl (fun hc => ?_) (fun hc => ?_)))
  rename_i bz
  refine WC_loop (fun mz Ez Mz => ∃ (k : Nat) (qs zs : List (Client × CSl)) (ca : List Ent) (cells : List Value), k + mz = (xs).length ∧ Ez = [(0, .slice a xs.length c), (3, .slice (some ⟨bz, 0, none⟩) xs.length xs.length), (4, I k)] ∧ Mz = (bz, cellsO cells 112) :: (ca ++ L) ∧ (cells = encClient.row zs ++ [] ∧ zs = qs ++ List.replicate (xs.length - k) (Client.zero, CSl.nil) ∧ qs.length = k ∧ qs.map Prod.fst = (xs.take k).map Prod.fst ∧ All CliOwn qs ca)) (xs).length (by exact kQ) (by exact kL) ⟨0, [], List.replicate xs.length (Client.zero, CSl.nil), [], zerosOf (clientC Client.zero CSl.nil) xs.length, by omega, rfl, rfl, by exact ⟨by rw [List.append_nil]; exact zeros_row encClient (Client.zero, CSl.nil) _, by simp, rfl, by simp, rfl⟩⟩ ?_
  rintro mz Ez Mz ⟨k, qs, zs, ca, cells, hk, rfl, rfl, hin⟩
  rcases Nat.lt_or_ge k (xs).length with hlt | hge
  · obtain ⟨y1, hy1⟩ : ∃ y, (xs)[k]? = some y := ⟨(xs)[k]'(by omega), by simp [hlt]⟩; obtain ⟨b'1, o1, cs1, T1, fr1, rfl, hm1, hrow1⟩ := hat (by omega); have hrow'1 := hrow1 k y1 hy1; have htk1 := take_next hy1
    obtain ⟨hcl, hzs, hql, hqm, hca⟩ := hin
    subst hcl
    have hzl : zs.length = xs.length := by rw [hzs, List.length_append, List.length_replicate]; omega
    have ha1 := hx y1 (List.mem_of_getElem? hy1)
    have hb1 := hb y1 (List.mem_of_getElem? hy1)
    obtain ⟨v1, q1⟩ := y1
    (repeat' (first | refine nI ?_ | (refine nA ?_; intro _) | (refine nW ?_; first | (refine op_store_id ?_; (refine op_storeRow (E := encClient) (v := (v1, s')) (i := k) rfl rfl rfl rfl (by exact kF) rfl (by omega) ?_)) | (refine op_call_id ?_; refine op_call rfl (c_toClient v1 q1 (ha1.mono (by exact kS)) hb1.1 hb1.2.1 hb1.2.2.1 hb1.2.2.2) rfl ?_; rintro _ _ ⟨s', es, rfl, hr, rfl⟩)) | refine nY ?_ | refine nR ?_ | refine WC_cond rfl (fun hc => ?_) (fun hc => ?_)))
    exact loopQ_next ⟨mz - 1, _, _, by omega, by exact kQ, by (try simp only [List.append_assoc]); exact kL, k + 1, qs ++ [(v1, s')], zs.set k (v1, s'), ca ++ es, encClient.row (zs.set k (v1, s')) ++ [], by omega, rfl, rfl, by exact ⟨rfl, by rw [hzs]; exact rep_set hql hlt, by simp [hql], by rw [htk1, List.map_append, List.map_append, hqm]; rfl, All.snoc hca hr⟩⟩
  · obtain ⟨hcl, hzs, hql, hqm, hca⟩ := hin
    have hk9 : k = xs.length := by omega
    subst hk9
    rw [List.take_length] at hqm
    rw [Nat.sub_self, List.replicate_zero, List.append_nil] at hzs
    subst hzs hcl
    have hfin := Row.mk (E := encClient) (T := 112) (g := bz) (cap := xs.length) (rest := []) (xs := zs) (by omega) (by rw [hql]; simp) (by simp only [maxLen]; omega) (by simp only [lim]; omega)
    rw [hql] at hfin
    (repeat' (first | refine nI ?_ | (refine nA ?_; intro _) | refine nY ?_ | refine nR ?_ | refine WC_cond rfl (fun hc => ?_) (fun hc => ?_)))
    refine ret_ret (by exact kR) ?_; exact ⟨(bz, cellsO (encClient.row zs ++ []) 112) :: (ca ++ L), by exact kP, ⟨_, _, _⟩, zs, _, ca, rfl, hqm, hfin, hca, rfl⟩
theorem c_toServS {L : List Ent} (s : Sl) (xs : List (Serv × (Sl × Sl))) (h : SliceAt L encServ s xs) (hx : ∀ p ∈ xs, SrvAt L p) (hb : ∀ p ∈ xs, p.1.cache.length ≤ 1048576 ∧ p.1.took.length ≤ 1048576) (hl : xs.length ≤ 1048576) : Tri Tryz.prog 35 [s.v] L (fun v L' => ∃ s' ys ec ca, v = s'.v ∧ ys.map Prod.fst = xs.map Prod.fst ∧ Row encServ 115 s' ys ec ∧ All SrvOwn ys ca ∧ L' = ec ++ (ca ++ L)) := by
  obtain ⟨a, n, c⟩ := s
  obtain ⟨hn, hc, hb9, hat⟩ := h
  dsimp only at hn hat hc
  subst hn
  simp only [big] at hb9
  refine Tri.of Tryz.func35 rfl rfl Tryz.ntmps35 rfl rfl ?_
  (repeat' (first | refine nI ?_ | (refine nA ?_; intro _) | (refine nW ?_; first | (refine op_makeSlice (l := xs.length) (c := xs.length) (e := 115) rfl rfl rfl rfl rfl rfl (Nat.ble_eq_true_of_le (by omega)) (Nat.ble_eq_true_of_le (by omega)) (Nat.ble_eq_true_of_le (by omega)) rfl ?_; intro _)) | refine nY ?_ | refine nR ?_ | refine WC_cond rfl (fun hc => ?_) (fun hc => ?_)))
  rename_i bz
  refine WC_loop (fun mz Ez Mz => ∃ (k : Nat) (qs zs : List (Serv × (Sl × Sl))) (ca : List Ent) (cells : List Value), k + mz = (xs).length ∧ Ez = [(0, .slice a xs.length c), (3, .slice (some ⟨bz, 0, none⟩) xs.length xs.length), (4, I k)] ∧ Mz = (bz, cellsO cells 115) :: (ca ++ L) ∧ (cells = encServ.row zs ++ [] ∧ zs = qs ++ List.replicate (xs.length - k) (Serv.zero, (Sl.nil, Sl.nil)) ∧ qs.length = k ∧ qs.map Prod.fst = (xs.take k).map Prod.fst ∧ All SrvOwn qs ca)) (xs).length (by exact kQ) (by exact kL) ⟨0, [], List.replicate xs.length (Serv.zero, (Sl.nil, Sl.nil)), [], zerosOf (servC Serv.zero Sl.nil Sl.nil) xs.length, by omega, rfl, rfl, by exact ⟨by rw [List.append_nil]; exact zeros_row encServ (Serv.zero, (Sl.nil, Sl.nil)) _, by simp, rfl, by simp, rfl⟩⟩ ?_
  rintro mz Ez Mz ⟨k, qs, zs, ca, cells, hk, rfl, rfl, hin⟩
  rcases Nat.lt_or_ge k (xs).length with hlt | hge
  · obtain ⟨y1, hy1⟩ : ∃ y, (xs)[k]? = some y := ⟨(xs)[k]'(by omega), by simp [hlt]⟩; obtain ⟨b'1, o1, cs1, T1, fr1, rfl, hm1, hrow1⟩ := hat (by omega); have hrow'1 := hrow1 k y1 hy1; have htk1 := take_next hy1
    obtain ⟨hcl, hzs, hql, hqm, hca⟩ := hin
    subst hcl
    have hzl : zs.length = xs.length := by rw [hzs, List.length_append, List.length_replicate]; omega
    have ha1 := hx y1 (List.mem_of_getElem? hy1)
    have hb1 := hb y1 (List.mem_of_getElem? hy1)
    obtain ⟨v1, q1⟩ := y1
    (repeat' (first | refine nI ?_ | (refine nA ?_; intro _) | (refine nW ?_; first | (refine op_store_id ?_; (refine op_storeRow (E := encServ) (v := (v1, s')) (i := k) rfl rfl rfl rfl (by exact kF) rfl (by omega) ?_)) | (refine op_call_id ?_; refine op_call rfl (c_toServ v1 q1 (ha1.mono (by exact kS)) hb1.1 hb1.2) rfl ?_; rintro _ _ ⟨s', es, rfl, hr, rfl⟩)) | refine nY ?_ | refine nR ?_ | refine WC_cond rfl (fun hc => ?_) (fun hc => ?_)))
    exact loopQ_next ⟨mz - 1, _, _, by omega, by exact kQ, by (try simp only [List.append_assoc]); exact kL, k + 1, qs ++ [(v1, s')], zs.set k (v1, s'), ca ++ es, encServ.row (zs.set k (v1, s')) ++ [], by omega, rfl, rfl, by exact ⟨rfl, by rw [hzs]; exact rep_set hql hlt, by simp [hql], by rw [htk1, List.map_append, List.map_append, hqm]; rfl, All.snoc hca hr⟩⟩
  · obtain ⟨hcl, hzs, hql, hqm, hca⟩ := hin
    have hk9 : k = xs.length := by omega
    subst hk9
    rw [List.take_length] at hqm
    rw [Nat.sub_self, List.replicate_zero, List.append_nil] at hzs
    subst hzs hcl
    have hfin := Row.mk (E := encServ) (T := 115) (g := bz) (cap := xs.length) (rest := []) (xs := zs) (by omega) (by rw [hql]; simp) (by simp only [maxLen]; omega) (by simp only [lim]; omega)
    rw [hql] at hfin
    (repeat' (first | refine nI ?_ | (refine nA ?_; intro _) | refine nY ?_ | refine nR ?_ | refine WC_cond rfl (fun hc => ?_) (fun hc => ?_)))
    refine ret_ret (by exact kR) ?_; exact ⟨(bz, cellsO (encServ.row zs ++ []) 115) :: (ca ++ L), by exact kP, ⟨_, _, _⟩, zs, _, ca, rfl, hqm, hfin, hca, rfl⟩
theorem c_toMsgS {L : List Ent} (s : Sl) (xs : List (Msg × Sl)) (h : SliceAt L encMsg s xs) (hx : ∀ p ∈ xs, MsgAt L p.1 p.2) (hb : ∀ p ∈ xs, p.1.seals.length ≤ 1048576) (hl : xs.length ≤ 1048576) : Tri Tryz.prog 36 [s.v] L (fun v L' => ∃ s' ys ec ca, v = s'.v ∧ ys.map Prod.fst = xs.map Prod.fst ∧ Row encMsg 47 s' ys ec ∧ All MsgOwn ys ca ∧ L' = ec ++ (ca ++ L)) := by
  obtain ⟨a, n, c⟩ := s
  obtain ⟨hn, hc, hb9, hat⟩ := h
  dsimp only at hn hat hc
  subst hn
  simp only [big] at hb9
  refine Tri.of Tryz.func36 rfl rfl Tryz.ntmps36 rfl rfl ?_
  (repeat' (first | refine nI ?_ | (refine nA ?_; intro _) | (refine nW ?_; first | (refine op_makeSlice (l := xs.length) (c := xs.length) (e := 47) rfl rfl rfl rfl rfl rfl (Nat.ble_eq_true_of_le (by omega)) (Nat.ble_eq_true_of_le (by omega)) (Nat.ble_eq_true_of_le (by omega)) rfl ?_; intro _)) | refine nY ?_ | refine nR ?_ | refine WC_cond rfl (fun hc => ?_) (fun hc => ?_)))
  rename_i bz
  refine WC_loop (fun mz Ez Mz => ∃ (k : Nat) (qs zs : List (Msg × Sl)) (ca : List Ent) (cells : List Value), k + mz = (xs).length ∧ Ez = [(0, .slice a xs.length c), (3, .slice (some ⟨bz, 0, none⟩) xs.length xs.length), (4, I k)] ∧ Mz = (bz, cellsO cells 47) :: (ca ++ L) ∧ (cells = encMsg.row zs ++ [] ∧ zs = qs ++ List.replicate (xs.length - k) (Msg.zero, Sl.nil) ∧ qs.length = k ∧ qs.map Prod.fst = (xs.take k).map Prod.fst ∧ All MsgOwn qs ca)) (xs).length (by exact kQ) (by exact kL) ⟨0, [], List.replicate xs.length (Msg.zero, Sl.nil), [], zerosOf (msgC Msg.zero Sl.nil) xs.length, by omega, rfl, rfl, by exact ⟨by rw [List.append_nil]; exact zeros_row encMsg (Msg.zero, Sl.nil) _, by simp, rfl, by simp, rfl⟩⟩ ?_
  rintro mz Ez Mz ⟨k, qs, zs, ca, cells, hk, rfl, rfl, hin⟩
  rcases Nat.lt_or_ge k (xs).length with hlt | hge
  · obtain ⟨y1, hy1⟩ : ∃ y, (xs)[k]? = some y := ⟨(xs)[k]'(by omega), by simp [hlt]⟩; obtain ⟨b'1, o1, cs1, T1, fr1, rfl, hm1, hrow1⟩ := hat (by omega); have hrow'1 := hrow1 k y1 hy1; have htk1 := take_next hy1
    obtain ⟨hcl, hzs, hql, hqm, hca⟩ := hin
    subst hcl
    have hzl : zs.length = xs.length := by rw [hzs, List.length_append, List.length_replicate]; omega
    have ha1 := hx y1 (List.mem_of_getElem? hy1)
    have hb1 := hb y1 (List.mem_of_getElem? hy1)
    obtain ⟨v1, q1⟩ := y1
    (repeat' (first | refine nI ?_ | (refine nA ?_; intro _) | (refine nW ?_; first | (refine op_store_id ?_; (refine op_storeRow (E := encMsg) (v := (v1, s')) (i := k) rfl rfl rfl rfl (by exact kF) rfl (by omega) ?_)) | (refine op_call_id ?_; refine op_call rfl (c_toMsg v1 q1 (ha1.mono (by exact kS)) hb1) rfl ?_; rintro _ _ ⟨s', es, rfl, hr, rfl⟩)) | refine nY ?_ | refine nR ?_ | refine WC_cond rfl (fun hc => ?_) (fun hc => ?_)))
    exact loopQ_next ⟨mz - 1, _, _, by omega, by exact kQ, by (try simp only [List.append_assoc]); exact kL, k + 1, qs ++ [(v1, s')], zs.set k (v1, s'), ca ++ es, encMsg.row (zs.set k (v1, s')) ++ [], by omega, rfl, rfl, by exact ⟨rfl, by rw [hzs]; exact rep_set hql hlt, by simp [hql], by rw [htk1, List.map_append, List.map_append, hqm]; rfl, All.snoc hca hr⟩⟩
  · obtain ⟨hcl, hzs, hql, hqm, hca⟩ := hin
    have hk9 : k = xs.length := by omega
    subst hk9
    rw [List.take_length] at hqm
    rw [Nat.sub_self, List.replicate_zero, List.append_nil] at hzs
    subst hzs hcl
    have hfin := Row.mk (E := encMsg) (T := 47) (g := bz) (cap := xs.length) (rest := []) (xs := zs) (by omega) (by rw [hql]; simp) (by simp only [maxLen]; omega) (by simp only [lim]; omega)
    rw [hql] at hfin
    (repeat' (first | refine nI ?_ | (refine nA ?_; intro _) | refine nY ?_ | refine nR ?_ | refine WC_cond rfl (fun hc => ?_) (fun hc => ?_)))
    refine ret_ret (by exact kR) ?_; exact ⟨(bz, cellsO (encMsg.row zs ++ []) 47) :: (ca ++ L), by exact kP, ⟨_, _, _⟩, zs, _, ca, rfl, hqm, hfin, hca, rfl⟩
def EvOwn (p : Event × Sl) (es : List Ent) : Prop := MsgOwn (p.1.msg, p.2) es
theorem c_toEventS {L : List Ent} (s : Sl) (xs : List (Event × Sl)) (h : SliceAt L encEvent s xs) (hx : ∀ p ∈ xs, MsgAt L p.1.msg p.2) (hb : ∀ p ∈ xs, p.1.msg.seals.length ≤ 1048576) (hl : xs.length ≤ 1048576) : Tri Tryz.prog 19 [s.v] L (fun v L' => ∃ s' ys ec ca, v = s'.v ∧ ys.map Prod.fst = xs.map Prod.fst ∧ Row encEvent 49 s' ys ec ∧ All EvOwn ys ca ∧ L' = ec ++ (ca ++ L)) := by
  obtain ⟨a, n, c⟩ := s
  obtain ⟨hn, hc, hb9, hat⟩ := h
  dsimp only at hn hat hc
  subst hn
  simp only [big] at hb9
  refine Tri.of Tryz.func19 rfl rfl Tryz.ntmps19 rfl rfl ?_
  (repeat' (first | refine nI ?_ | (refine nA ?_; intro _) | (refine nW ?_; first | (refine op_makeSlice (l := xs.length) (c := xs.length) (e := 49) rfl rfl rfl rfl rfl rfl (Nat.ble_eq_true_of_le (by omega)) (Nat.ble_eq_true_of_le (by omega)) (Nat.ble_eq_true_of_le (by omega)) rfl ?_; intro _)) | refine nY ?_ | refine nR ?_ | refine WC_cond rfl (fun hc => ?_) (fun hc => ?_)))
  rename_i bz
  refine WC_loop (fun mz Ez Mz => ∃ (k : Nat) (qs zs : List (Event × Sl)) (ca : List Ent) (cells : List Value), k + mz = (xs).length ∧ Ez = [(0, .slice a xs.length c), (3, .slice (some ⟨bz, 0, none⟩) xs.length xs.length), (4, I k)] ∧ Mz = (bz, cellsO cells 49) :: (ca ++ L) ∧ (cells = encEvent.row zs ++ [] ∧ zs = qs ++ List.replicate (xs.length - k) (Event.zero, Sl.nil) ∧ qs.length = k ∧ qs.map Prod.fst = (xs.take k).map Prod.fst ∧ All EvOwn qs ca)) (xs).length (by exact kQ) (by exact kL) ⟨0, [], List.replicate xs.length (Event.zero, Sl.nil), [], zerosOf (eventC Event.zero Sl.nil) xs.length, by omega, rfl, rfl, by exact ⟨by rw [List.append_nil]; exact zeros_row encEvent (Event.zero, Sl.nil) _, by simp, rfl, by simp, rfl⟩⟩ ?_
  rintro mz Ez Mz ⟨k, qs, zs, ca, cells, hk, rfl, rfl, hin⟩
  rcases Nat.lt_or_ge k (xs).length with hlt | hge
  · obtain ⟨y1, hy1⟩ : ∃ y, (xs)[k]? = some y := ⟨(xs)[k]'(by omega), by simp [hlt]⟩; obtain ⟨b'1, o1, cs1, T1, fr1, rfl, hm1, hrow1⟩ := hat (by omega); have hrow'1 := hrow1 k y1 hy1; have htk1 := take_next hy1
    obtain ⟨hcl, hzs, hql, hqm, hca⟩ := hin
    subst hcl
    have hzl : zs.length = xs.length := by rw [hzs, List.length_append, List.length_replicate]; omega
    have ha1 := hx y1 (List.mem_of_getElem? hy1)
    have hb1 := hb y1 (List.mem_of_getElem? hy1)
    obtain ⟨v1, q1⟩ := y1
    (repeat' (first | refine nI ?_ | (refine nA ?_; intro _) | (refine nW ?_; first | (refine op_store_id ?_; (refine op_storeRow (E := encEvent) (v := (v1, s')) (i := k) rfl rfl rfl rfl (by exact kF) rfl (by omega) ?_)) | (refine op_call_id ?_; refine op_call rfl (c_toEvent v1 q1 (ha1.mono (by exact kS)) hb1) rfl ?_; rintro _ _ ⟨s', es, rfl, hr, rfl⟩)) | refine nY ?_ | refine nR ?_ | refine WC_cond rfl (fun hc => ?_) (fun hc => ?_)))
    exact loopQ_next ⟨mz - 1, _, _, by omega, by exact kQ, by (try simp only [List.append_assoc]); exact kL, k + 1, qs ++ [(v1, s')], zs.set k (v1, s'), ca ++ es, encEvent.row (zs.set k (v1, s')) ++ [], by omega, rfl, rfl, by exact ⟨rfl, by rw [hzs]; exact rep_set hql hlt, by simp [hql], by rw [htk1, List.map_append, List.map_append, hqm]; rfl, All.snoc hca hr⟩⟩
  · obtain ⟨hcl, hzs, hql, hqm, hca⟩ := hin
    have hk9 : k = xs.length := by omega
    subst hk9
    rw [List.take_length] at hqm
    rw [Nat.sub_self, List.replicate_zero, List.append_nil] at hzs
    subst hzs hcl
    have hfin := Row.mk (E := encEvent) (T := 49) (g := bz) (cap := xs.length) (rest := []) (xs := zs) (by omega) (by rw [hql]; simp) (by simp only [maxLen]; omega) (by simp only [lim]; omega)
    rw [hql] at hfin
    (repeat' (first | refine nI ?_ | (refine nA ?_; intro _) | refine nY ?_ | refine nR ?_ | refine WC_cond rfl (fun hc => ?_) (fun hc => ?_)))
    refine ret_ret (by exact kR) ?_; exact ⟨(bz, cellsO (encEvent.row zs ++ []) 49) :: (ca ++ L), by exact kP, ⟨_, _, _⟩, zs, _, ca, rfl, hqm, hfin, hca, rfl⟩
/-- A world that is one's own, its blocks in one list; a world that is read. -/
def WOwn (w : World) (q : WSl) (E : List Ent) : Prop := ∃ ps ss ms ek ec ca es sa el la, E = wldE ek ec ca es sa el la ∧ WldOwn w q ps ss ms ek ec ca es sa el la
def WAt (L : List Ent) (w : World) (q : WSl) : Prop := ∃ ps ss ms, WldAt L w q ps ss ms
theorem WOwn.at {w : World} {q : WSl} {E : List Ent} (h : WOwn w q E) : WAt E w q := by
  obtain ⟨ps, ss, ms, ek, ec, ca, es, sa, el, la, rfl, h⟩ := h
  exact ⟨ps, ss, ms, h.at⟩
theorem WAt.mono {L M : List Ent} {w : World} {q : WSl} (h : WAt L w q) (hs : ∀ e ∈ L, e ∈ M) : WAt M w q := by
  obtain ⟨ps, ss, ms, h⟩ := h
  exact ⟨ps, ss, ms, h.mono hs⟩
/-- All that is in a world is of a size that can be. -/
structure WLen (w : World) : Prop where
  kc : w.kdc.cache.length ≤ 1048576
  cl : w.clients.length ≤ 1048576
  cs : ∀ c ∈ w.clients, c.wants.length ≤ 1048576 ∧ c.creds.length ≤ 1048576 ∧ c.sent.length ≤ 1048576 ∧ c.met.length ≤ 1048576
  sl : w.servs.length ≤ 1048576
  ss : ∀ s ∈ w.servs, s.cache.length ≤ 1048576 ∧ s.took.length ≤ 1048576
  ll : w.log.length ≤ 1048576
  ms : ∀ m ∈ w.log, m.seals.length ≤ 1048576
/-- A new world behind the blocks that were there. -/
def WNew (L : List Ent) (w : World) (v : Value) (L' : List Ent) : Prop := ∃ q E, v = worldV w q ∧ WOwn w q E ∧ L' = E ++ L
theorem fst_mem {X Y : Type} {xs : List (X × Y)} {ys : List X} (h : xs.map Prod.fst = ys) {p : X × Y} (hp : p ∈ xs) : p.1 ∈ ys := h ▸ List.mem_map_of_mem hp
theorem fst_len {X Y : Type} {xs : List (X × Y)} {ys : List X} (h : xs.map Prod.fst = ys) : xs.length = ys.length := by rw [← h, List.length_map]
theorem c_toWorld {L : List Ent} (w : World) (q : WSl) (h : WAt L w q) (hl : WLen w) : Tri Tryz.prog 9 [worldV w q] L (WNew L w) := by
  obtain ⟨ps, ss, ms, h⟩ := h
  obtain ⟨sk, sc, sv, sm⟩ := q
  have lp := fst_len h.pe
  have ls := fst_len h.se
  have lm := fst_len h.me
  have h1 := hl.cl
  have h2 := hl.sl
  have h3 := hl.ll
  refine Tri.of Tryz.func9 rfl rfl Tryz.ntmps9 rfl rfl ?_
  (repeat' (first | refine nI ?_ | (refine nA ?_; intro _) | (refine nW ?_; first | (refine op_call_id ?_; refine op_call rfl (c_toKdc w.kdc sk (h.kc.mono (by exact kS)) hl.kc) rfl ?_; rintro _ _ ⟨qk, ek, rfl, hk, rfl⟩) | (refine op_call_id ?_; refine op_call rfl (c_toClientS sc ps (h.pr.mono (by exact kS)) (fun p hp => (h.pa p hp).mono (by exact kS)) (fun p hp => hl.cs p.1 (fst_mem h.pe hp)) (by omega)) rfl ?_; rintro _ _ ⟨qc, ps', ec, ca, rfl, hpe, hpr, hpa, rfl⟩) | (refine op_call_id ?_; refine op_call rfl (c_toServS sv ss (h.sr.mono (by exact kS)) (fun p hp => (h.sa p hp).mono (by exact kS)) (fun p hp => hl.ss p.1 (fst_mem h.se hp)) (by omega)) rfl ?_; rintro _ _ ⟨qs, ss', es, sa, rfl, hse, hsr, hsa, rfl⟩) | (refine op_call_id ?_; refine op_call rfl (c_toMsgS sm ms (h.mr.mono (by exact kS)) (fun p hp => (h.ma p hp).mono (by exact kS)) (fun p hp => hl.ms p.1 (fst_mem h.me hp)) (by omega)) rfl ?_; rintro _ _ ⟨ql, ms', el, la, rfl, hme, hmr, hma, rfl⟩)) | refine nY ?_ | refine nR ?_ | refine WC_cond rfl (fun hc => ?_) (fun hc => ?_)))
  refine ret_ret (by exact kR) ?_; exact ⟨ek ++ (ec ++ (ca ++ (es ++ (sa ++ (el ++ (la ++ L)))))), by exact kP, ⟨qk, qc, qs, ql⟩, wldE ek ec ca es sa el la, rfl, ⟨ps', ss', ms', ek, ec, ca, es, sa, el, la, rfl, ⟨hk, hpe.trans h.pe, hpr, hpa, hse.trans h.se, hsr, hsa, hme.trans h.me, hmr, hma⟩⟩, by simp only [wldE, List.append_assoc]⟩
end Go.Proofs.YtoledfhjmdpihaaGreat
