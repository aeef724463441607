/- Users: whether they are in order. -/
import Derived.Test.YtoledfhjmdpihaaGreatA4
import Derived.Test.YtoledfhjmdpihaaGreatA3
import Derived.Test.YtoledfhjmdpihaaGreatA9
set_option linter.unusedVariables false
set_option linter.unusedSectionVars false
set_option linter.unusedSimpArgs false
namespace Go.Proofs.YtoledfhjmdpihaaGreat
open Go Go.Proofs Go.Proofs.YtoledfhjmdpihaaGreat.VE
attribute [local irreducible] Val Op1 WO WR WA WC seqQ blockQ loopQ retQ
set_option maxHeartbeats 4000000
theorem drop_cons' {X : Type} {xs : List X} {k : Nat} {y : X} (h : xs[k]? = some y) : xs.drop k = y :: xs.drop (k + 1) := by
  obtain ⟨hlt, he⟩ := List.getElem?_eq_some_iff.1 h
  rw [← he, List.getElem_cons_drop]
theorem c_credB {L : List Ent} (b : Nat) (T : TypeId) (cl : Client) (s : CSl) (serv : Int) (hm : (b, cellsO (clientC cl s) T) ∈ L) (hc : SliceAt L encCred s.c cl.creds) :
    RO Tryz.prog 152 [.pointer (some ⟨b, 0, none⟩), I serv] L (I (credIdx cl serv)) := by
  refine Tri.of Tryz.func152 rfl rfl Tryz.ntmps152 rfl rfl ?_
  (repeat' (first | refine nX ?_ | (refine nA ?_; intro _) | (refine nW ?_; first | (refine op_call_id ?_; refine op_ro rfl rfl (by exact c_idxFuncimpl.Cred s.c cl.creds _ [_] (fun x => x.serv == serv) (hc.mono (by exact kS)) (fun x _ => c_cred1 x _ serv (by exact kM))) ?_)) | refine nY ?_ | refine nR ?_))
  refine ro_ret (by exact kR) (by exact kL) ?_; rfl
theorem credIdx_at {c : Client} {k : Nat} {y : Cred} (hy : c.creds[k]? = some y) : credIdx c y.serv = k ↔ y.serv ∉ (c.creds.take k).map Cred.serv := by
  rcases idx_cases (fun x : Cred => x.serv == y.serv) c.creds with ⟨h1, h2⟩ | ⟨j, z, h1, h2, h3, h4⟩
  · have := h2 y (List.mem_of_getElem? hy); simp at this
  · have e : credIdx c y.serv = j := h1
    rw [e]
    have h4' : y.serv ∉ (c.creds.take j).map Cred.serv := fun hm => by
      obtain ⟨u, hu, he⟩ := List.mem_map.1 hm
      have := h4 u hu; simp [he] at this
    rcases Nat.lt_trichotomy j k with hj | hj | hj
    · refine ⟨fun h => by omega, fun h => (h ?_).elim⟩
      have : z ∈ c.creds.take k := List.mem_take_iff_getElem.2 ⟨j, by have := (List.getElem?_eq_some_iff.1 h2).1; omega, (List.getElem?_eq_some_iff.1 h2).2⟩
      exact List.mem_map.2 ⟨z, this, by simpa using h3⟩
    · subst hj; exact ⟨fun _ => h4', fun _ => rfl⟩
    · exfalso
      have : y ∈ c.creds.take j := List.mem_take_iff_getElem.2 ⟨k, by have := (List.getElem?_eq_some_iff.1 hy).1; omega, (List.getElem?_eq_some_iff.1 hy).2⟩
      have := h4 y this; simp at this
theorem creds_stop {xs : List Cred} {k : Nat} {y : Cred} (hy : xs[k]? = some y) (h : credOk y = false ∨ y.serv ∈ (xs.take k).map Cred.serv) : credsOk xs = false := by
  rcases h with h | h
  · have : xs.all credOk = false := List.all_eq_false.2 ⟨y, List.mem_of_getElem? hy, by simp [h]⟩
    simp [credsOk, this]
  · have : ¬ (xs.map Cred.serv).Nodup := fun hn => by
      have hsplit : xs = xs.take k ++ y :: xs.drop (k + 1) := by rw [← drop_cons' hy, List.take_append_drop]
      rw [hsplit, List.map_append, List.map_cons, List.nodup_append] at hn
      exact hn.2.2 _ h _ List.mem_cons_self rfl
    simp [credsOk, this]
theorem creds_step {xs : List Cred} {k : Nat} {y : Cred} (hy : xs[k]? = some y) (h1 : credOk y = true) (h2 : y.serv ∉ (xs.take k).map Cred.serv) (hin : (∀ z ∈ xs.take k, credOk z = true) ∧ ((xs.take k).map Cred.serv).Nodup) : (∀ z ∈ xs.take (k + 1), credOk z = true) ∧ ((xs.take (k + 1)).map Cred.serv).Nodup := by
  rw [take_next hy]
  refine ⟨all_next hin.1 h1, ?_⟩
  rw [List.map_append, List.nodup_append]
  refine ⟨hin.2, by simp, fun a ha b hb e => ?_⟩
  simp only [List.map_cons, List.map_nil, List.mem_singleton] at hb
  exact h2 (hb ▸ e ▸ ha)
theorem met_stop {sent xs : List Call} {k : Nat} {y : Call} (hy : xs[k]? = some y) (h : y ∉ sent ∨ y ∈ xs.take k) : metOk sent xs = false := by
  rcases h with h | h
  · have : xs.all (fun x => decide (x ∈ sent)) = false := List.all_eq_false.2 ⟨y, List.mem_of_getElem? hy, by simp [h]⟩
    simp [metOk, this]
  · have : ¬ xs.Nodup := fun hn => by
      have hsplit : xs = xs.take k ++ y :: xs.drop (k + 1) := by rw [← drop_cons' hy, List.take_append_drop]
      rw [hsplit, List.nodup_append] at hn
      exact hn.2.2 y h y List.mem_cons_self rfl
    simp [metOk, this]
theorem met_step {sent xs : List Call} {k : Nat} {y : Call} (hy : xs[k]? = some y) (h1 : y ∈ sent) (h2 : y ∉ xs.take k) (hin : (∀ z ∈ xs.take k, z ∈ sent) ∧ (xs.take k).Nodup) : (∀ z ∈ xs.take (k + 1), z ∈ sent) ∧ (xs.take (k + 1)).Nodup := by
  rw [take_next hy]
  refine ⟨all_next hin.1 h1, ?_⟩
  rw [List.nodup_append]
  exact ⟨hin.2, by simp, fun a ha b hb e => h2 (by rw [List.mem_singleton.1 hb] at e; exact e ▸ ha)⟩
theorem cl_f1 {cl : Client} (h : wantsOk cl.num 0 cl.wants = false) : clientOk cl = false := by unfold clientOk; rw [h]; simp
theorem cl_f2 {cl : Client} (h : credsOk cl.creds = false) : clientOk cl = false := by unfold clientOk; rw [h]; simp
theorem cl_f3 {cl : Client} (h : sentOk cl.num 0 cl.sent = false) : clientOk cl = false := by unfold clientOk; rw [h]; simp
theorem cl_f4 {cl : Client} (h : metOk cl.sent cl.met = false) : clientOk cl = false := by unfold clientOk; rw [h]; simp
end Go.Proofs.YtoledfhjmdpihaaGreat
/- Worlds whose parts are in order: whether they are ok, as the program tells. -/
set_option linter.unusedVariables false
set_option linter.unusedSectionVars false
set_option linter.unusedSimpArgs false
namespace Go.Proofs.YtoledfhjmdpihaaGreat
open Go Go.Proofs Go.Proofs.YtoledfhjmdpihaaGreat.VE
attribute [local irreducible] Val Op1 WO WR WA WC seqQ blockQ loopQ retQ
noncomputable def o86x28N2 : Array Oper := cops (cl (cr (cl (cl (cr (cr (cl (cl (cr (cl (cr (cr (cr (cr (cr (cr (cr (codeOf Tryz.f86))))))))))))))))))
noncomputable def r86x28N2 : Run := (.st 0 0 (.st 1 1 (.st 2 1 (.st 3 3 (.st 4 0 (.st 5 0 (.st 6 0 (.st 7 1 (.st 8 0 (.st 9 0 (.st 10 1 (.st 11 3 (.st 12 0 .done)))))))))))))
set_option maxHeartbeats 8000000
theorem nodup_take {X : Type} {xs : List X} (h : xs.Nodup) {k : Nat} {x : X} (hx : xs[k]? = some x) : x ∉ xs.take k := fun hm => by
  have hsplit : xs = xs.take k ++ x :: xs.drop (k + 1) := by rw [← drop_cons' hx, List.take_append_drop]
  rw [hsplit, List.nodup_append] at h
  exact h.2.2 x hm x List.mem_cons_self rfl
theorem pw_drop {X : Type} {r : X → X → Prop} {xs : List X} (h : xs.Pairwise r) {k : Nat} {x : X} (hx : xs[k]? = some x) : ∀ y ∈ xs.drop (k + 1), r x y := fun y hy => by
  have hsplit : xs = xs.take k ++ x :: xs.drop (k + 1) := by rw [← drop_cons' hx, List.take_append_drop]
  rw [hsplit, List.pairwise_append, List.pairwise_cons] at h
  exact h.2.1.1 y hy
theorem c_clientOkT {L : List Ent} (cl : Client) (s : CSl) (h : CliAt L (cl, s)) (hok : COk cl) : RO Tryz.prog 86 [clientV cl s] L (B true) := by
  obtain ⟨⟨aw, nw, cw⟩, ⟨ac, nc, cc⟩, ⟨as_, ns, cs⟩, ⟨am, nm, cm⟩⟩ := s
  have hw : SliceAt L encWant ⟨aw, nw, cw⟩ cl.wants := h.w
  have hc : SliceAt L encCred ⟨ac, nc, cc⟩ cl.creds := h.c
  have hs : SliceAt L encCall ⟨as_, ns, cs⟩ cl.sent := h.s
  have hm : SliceAt L encCall ⟨am, nm, cm⟩ cl.met := h.m
  clear h
  obtain ⟨hnw, hcw, hbw, hatw⟩ := id hw
  obtain ⟨hnc, hcc, hbc, hatc⟩ := id hc
  obtain ⟨hns, hcs, hbs, hats⟩ := id hs
  obtain ⟨hnm, hcm, hbm, hatm⟩ := id hm
  dsimp only at hnw hnc hns hnm hcw hcc hcs hcm hatw hatc hats hatm
  subst hnw hnc hns hnm
  simp only [big] at hbw hbc hbs hbm
  have hu : userOk cl.id = true := within_iff.2 hok.id
  have hn : within cl.num 0 60 = true := within_iff.2 hok.num
  have hnum := hok.num
  refine Tri.of Tryz.func86 rfl rfl Tryz.ntmps86 rfl rfl ?_
  (repeat' (first | refine nI ?_ | (refine nA ?_; intro _) | (refine nW ?_; first | (refine op_call_id ?_; refine op_ro rfl rfl (by first | exact (c_userOk _).eq (congrArg B hu) | exact (c_within _ _ _).eq (congrArg B hn)) ?_)) | refine nY ?_ | refine WA_alt ?_ ?_ | refine nR ?_ | refine WC_drawL (id := 28) (ops := o86x28N2) r86x28N2 (by kernel_rfl) rfl ?_ | refine WC_cond rfl (fun hc => ?_) (fun hc => ?_)))
  rename_i bx
  refine WC_loop (fun mz Ez Mz => ∃ (k : Nat) (last : Int), k + mz = (cl.wants).length ∧ Ez = [(1, .pointer (some ⟨bx, 0, none⟩)), (3, I last), (23, .slice aw cl.wants.length cw), (24, I cl.wants.length), (25, I k)] ∧ Mz = (bx, cellsO (clientC cl ⟨⟨aw, cl.wants.length, cw⟩, ⟨ac, cl.creds.length, cc⟩, ⟨as_, cl.sent.length, cs⟩, ⟨am, cl.met.length, cm⟩⟩) 112) :: L ∧ ((∀ x ∈ cl.wants.drop k, last < x.nonce) ∧ 0 ≤ last ∧ last ≤ 60)) (cl.wants).length (by exact kQ) (by exact kL) ⟨0, 0, by omega, rfl, rfl, by exact ⟨fun x hx => (hok.wants x (List.mem_of_mem_drop hx)).2.1, by omega, by omega⟩⟩ ?_
  rintro mz Ez Mz ⟨k, last, hk, rfl, rfl, hin⟩
  rcases Nat.lt_or_ge k (cl.wants).length with hlt | hge
  · obtain ⟨y2, hy2⟩ : ∃ y, (cl.wants)[k]? = some y := ⟨(cl.wants)[k]'(by omega), by simp [hlt]⟩; obtain ⟨b'2, o2, cs2, T2, fr2, rfl, hm2, hrow2⟩ := hatw (by omega); have hrow'2 := hrow2 k y2 hy2; have htk2 := take_next hy2
    obtain ⟨hd, hl0, hl1⟩ := hin
    have hw2 := hok.wants y2 (List.mem_of_getElem? hy2)
    have hl2 := hd y2 (by rw [drop_cons' hy2]; exact List.mem_cons_self)
    have g2 : within y2.nonce (last + 1) cl.num = true := within_iff.2 (by omega)
    (repeat' (first | refine nI ?_ | (refine nA ?_; intro _) | (refine nW ?_; first | (refine op_call_id ?_; refine op_ro rfl rfl (by first | exact (c_giverOk _).eq (congrArg B hw2.1) | exact (c_within _ _ _).eq (congrArg B g2)) ?_)) | refine nY ?_ | refine WA_alt ?_ ?_ | refine nR ?_ | refine WC_drawL (id := 28) (ops := o86x28N2) r86x28N2 (by kernel_rfl) rfl ?_ | refine WC_cond rfl (fun hc => ?_) (fun hc => ?_)))
    exact loopQ_next ⟨mz - 1, _, _, by omega, by exact kQ, by exact kL, k + 1, y2.nonce, by omega, rfl, rfl, by exact ⟨pw_drop hok.wp hy2, by omega, by omega⟩⟩
  (repeat' (first | refine nI ?_ | (refine nA ?_; intro _) | refine nY ?_ | refine WA_alt ?_ ?_ | refine nR ?_ | refine WC_drawL (id := 28) (ops := o86x28N2) r86x28N2 (by kernel_rfl) rfl ?_ | refine WC_cond rfl (fun hc => ?_) (fun hc => ?_)))
  clear hk hge hin
  refine WC_loop (fun mz Ez Mz => ∃ k : Nat, k + mz = (cl.creds).length ∧ Ez = [(1, .pointer (some ⟨bx, 0, none⟩)), (47, .slice ac cl.creds.length cc), (48, I cl.creds.length), (49, I k)] ∧ Mz = (bx, cellsO (clientC cl ⟨⟨aw, cl.wants.length, cw⟩, ⟨ac, cl.creds.length, cc⟩, ⟨as_, cl.sent.length, cs⟩, ⟨am, cl.met.length, cm⟩⟩) 112) :: L ∧ (True)) (cl.creds).length (by exact kQ) (by exact kL) ⟨0, by omega, rfl, rfl, by trivial⟩ ?_
  rintro mz Ez Mz ⟨k, hk, rfl, rfl, hin⟩
  rcases Nat.lt_or_ge k (cl.creds).length with hlt | hge
  · obtain ⟨y3, hy3⟩ : ∃ y, (cl.creds)[k]? = some y := ⟨(cl.creds)[k]'(by omega), by simp [hlt]⟩; obtain ⟨b'3, o3, cs3, T3, fr3, rfl, hm3, hrow3⟩ := hatc (by omega); have hrow'3 := hrow3 k y3 hy3; have htk3 := take_next hy3
    have hc3 := credOk_cases (hok.creds y3 (List.mem_of_getElem? hy3))
    have g1 : giverOk y3.serv = true := within_iff.2 hc3.1
    have g2 : madeOk y3.key = true := within_iff.2 hc3.2.1
    have g3 : timeOk y3.til = true := within_iff.2 hc3.2.2.1
    have g4 : sealOk y3.ticket = true := hc3.2.2.2
    have hx : credIdx cl y3.serv = (k : Int) := (credIdx_at hy3).2 (by
      have := nodup_take hok.cn (k := k) (x := y3.serv) (by rw [List.getElem?_map, hy3]; rfl)
      rwa [← List.map_take] at this)
    (repeat' (first | refine nI ?_ | (refine nA ?_; intro _) | (refine nW ?_; first | (refine op_call_id ?_; refine op_ro rfl rfl (by first | exact (c_giverOk _).eq (congrArg B g1) | exact (c_credB bx _ cl ⟨⟨aw, cl.wants.length, cw⟩, ⟨some ⟨b'3, o3, none⟩, cl.creds.length, cc⟩, ⟨as_, cl.sent.length, cs⟩, ⟨am, cl.met.length, cm⟩⟩ y3.serv (by exact kM) (hc.mono (by exact kS))).eq (congrArg I hx) | exact (c_madeOk _).eq (congrArg B g2) | exact (c_timeOk _).eq (congrArg B g3) | exact (c_sealOk y3.ticket).eq (congrArg B g4)) ?_)) | refine nY ?_ | refine WA_alt ?_ ?_ | refine nR ?_ | refine WC_drawL (id := 28) (ops := o86x28N2) r86x28N2 (by kernel_rfl) rfl ?_ | refine WC_cond rfl (fun hc => ?_) (fun hc => ?_)))
    exact loopQ_next ⟨mz - 1, _, _, by omega, by exact kQ, by exact kL, k + 1, by omega, rfl, rfl, by trivial⟩
  (repeat' (first | refine nI ?_ | (refine nA ?_; intro _) | refine nY ?_ | refine WA_alt ?_ ?_ | refine nR ?_ | refine WC_drawL (id := 28) (ops := o86x28N2) r86x28N2 (by kernel_rfl) rfl ?_ | refine WC_cond rfl (fun hc => ?_) (fun hc => ?_)))
  clear hk hge hin
  refine WC_loop (fun mz Ez Mz => ∃ (k : Nat) (last : Int), k + mz = (cl.sent).length ∧ Ez = [(1, .pointer (some ⟨bx, 0, none⟩)), (3, I last), (85, .slice as_ cl.sent.length cs), (86, I cl.sent.length), (87, I k)] ∧ Mz = (bx, cellsO (clientC cl ⟨⟨aw, cl.wants.length, cw⟩, ⟨ac, cl.creds.length, cc⟩, ⟨as_, cl.sent.length, cs⟩, ⟨am, cl.met.length, cm⟩⟩) 112) :: L ∧ ((∀ x ∈ cl.sent.drop k, last < x.num) ∧ 0 ≤ last ∧ last ≤ 60)) (cl.sent).length (by exact kQ) (by exact kL) ⟨0, 0, by omega, rfl, rfl, by exact ⟨fun x hx => (hok.sent x (List.mem_of_mem_drop hx)).2.1, by omega, by omega⟩⟩ ?_
  rintro mz Ez Mz ⟨k, last, hk, rfl, rfl, hin⟩
  rcases Nat.lt_or_ge k (cl.sent).length with hlt | hge
  · obtain ⟨y4, hy4⟩ : ∃ y, (cl.sent)[k]? = some y := ⟨(cl.sent)[k]'(by omega), by simp [hlt]⟩; obtain ⟨b'4, o4, cs4, T4, fr4, rfl, hm4, hrow4⟩ := hats (by omega); have hrow'4 := hrow4 k y4 hy4; have htk4 := take_next hy4
    obtain ⟨hd, hl0, hl1⟩ := hin
    have hw2 := hok.sent y4 (List.mem_of_getElem? hy4)
    have hc4 := callOk_cases hw2.1
    have hl2 := hd y4 (by rw [drop_cons' hy4]; exact List.mem_cons_self)
    have g1 : servOk y4.peer = true := within_iff.2 hc4.1
    have g2 : madeOk y4.key = true := within_iff.2 hc4.2.1
    have g3 : timeOk y4.time = true := within_iff.2 hc4.2.2
    have g4 : within y4.num (last + 1) cl.num = true := within_iff.2 (by omega)
    (repeat' (first | refine nI ?_ | (refine nA ?_; intro _) | (refine nW ?_; first | (refine op_call_id ?_; refine op_ro rfl rfl (by first | exact (c_servOk _).eq (congrArg B g1) | exact (c_madeOk _).eq (congrArg B g2) | exact (c_timeOk _).eq (congrArg B g3) | exact (c_within _ _ _).eq (congrArg B g4)) ?_)) | refine nY ?_ | refine WA_alt ?_ ?_ | refine nR ?_ | refine WC_drawL (id := 28) (ops := o86x28N2) r86x28N2 (by kernel_rfl) rfl ?_ | refine WC_cond rfl (fun hc => ?_) (fun hc => ?_)))
    exact loopQ_next ⟨mz - 1, _, _, by omega, by exact kQ, by exact kL, k + 1, y4.num, by omega, rfl, rfl, by exact ⟨pw_drop hok.sp hy4, by omega, by omega⟩⟩
  (repeat' (first | refine nI ?_ | (refine nA ?_; intro _) | refine nY ?_ | refine WA_alt ?_ ?_ | refine nR ?_ | refine WC_drawL (id := 28) (ops := o86x28N2) r86x28N2 (by kernel_rfl) rfl ?_ | refine WC_cond rfl (fun hc => ?_) (fun hc => ?_)))
  clear hk hge hin
  refine WC_loop (fun mz Ez Mz => ∃ k : Nat, k + mz = (cl.met).length ∧ Ez = [(1, .pointer (some ⟨bx, 0, none⟩)), (121, .slice am cl.met.length cm), (122, I cl.met.length), (123, I k)] ∧ Mz = (bx, cellsO (clientC cl ⟨⟨aw, cl.wants.length, cw⟩, ⟨ac, cl.creds.length, cc⟩, ⟨as_, cl.sent.length, cs⟩, ⟨am, cl.met.length, cm⟩⟩) 112) :: L ∧ (True)) (cl.met).length (by exact kQ) (by exact kL) ⟨0, by omega, rfl, rfl, by trivial⟩ ?_
  rintro mz Ez Mz ⟨k, hk, rfl, rfl, hin⟩
  rcases Nat.lt_or_ge k (cl.met).length with hlt | hge
  · have hcut := hm.take (k := k) (by omega)
    obtain ⟨y5, hy5⟩ : ∃ y, (cl.met)[k]? = some y := ⟨(cl.met)[k]'(by omega), by simp [hlt]⟩; obtain ⟨b'5, o5, cs5, T5, fr5, rfl, hm5, hrow5⟩ := hatm (by omega); have hrow'5 := hrow5 k y5 hy5; have htk5 := take_next hy5
    have g1 := hok.met y5 (List.mem_of_getElem? hy5)
    have g2 := nodup_take hok.mn hy5
    (repeat' (first | refine nI ?_ | (refine nA ?_; intro _) | (refine nW ?_; first | (refine op_call_id ?_; refine op_ro rfl rfl (by first | exact (c_containsimpl.Call ⟨as_, cl.sent.length, cs⟩ cl.sent y5 (hs.mono (by exact kS))).eq (congrArg B (decide_eq_true g1)) | exact (c_containsimpl.Call ⟨_, _, _⟩ (cl.met.take k) y5 (hcut.mono (by exact kS))).eq (congrArg B (decide_eq_false g2))) ?_)) | refine nY ?_ | refine WA_alt ?_ ?_ | refine nR ?_ | refine WC_drawL (id := 28) (ops := o86x28N2) r86x28N2 (by kernel_rfl) rfl ?_ | refine WC_cond rfl (fun hc => ?_) (fun hc => ?_)))
    exact loopQ_next ⟨mz - 1, _, _, by omega, by exact kQ, by exact kL, k + 1, by omega, rfl, rfl, by trivial⟩
  (repeat' (first | refine nI ?_ | (refine nA ?_; intro _) | refine nY ?_ | refine WA_alt ?_ ?_ | refine nR ?_ | refine WC_drawL (id := 28) (ops := o86x28N2) r86x28N2 (by kernel_rfl) rfl ?_ | refine WC_cond rfl (fun hc => ?_) (fun hc => ?_)))
  refine ro_ret (by exact kR) (by exact kL) ?_; rfl
/-- A world whose parts are in order, be it ok or not. -/
structure NOk (w : World) : Prop where
  kdc : KOk w.kdc
  sl : w.servs.length = 2
  ll : w.log.length ≤ 80
  cs : w.clients.length = 3 → ∀ (i : Nat) c, w.clients[i]? = some c → COk c ∧ c.id = i + 1
  ss : ∀ (i : Nat) s, w.servs[i]? = some s → SOk s
theorem WOk.n {w : World} (h : WOk w) : NOk w := ⟨h.kdc, h.sl, h.ll, fun _ => h.cs, fun i s hs => (h.ss i s hs).1⟩
theorem worldOk_t {w : World} (h : WOk w) : worldOk w = true := worldOk_iff.2 h
theorem worldOk_f {w : World} (h : ¬ WOk w) : worldOk w = false := by
  cases he : worldOk w with
  | false => rfl
  | true => exact absurd (worldOk_iff.1 he) h
theorem worldOk_log {w : World} (h : NOk w) (h1 : 0 ≤ w.now ∧ w.now ≤ 100) (h2 : w.clients.length = 3) (h3 : 0 ≤ w.bad ∧ w.bad ≤ 3) (h4 : ∀ (i : Nat) s, w.servs[i]? = some s → s.id = i + 4) : worldOk w = w.log.all msgOk := by
  rw [Bool.eq_iff_iff, worldOk_iff, List.all_eq_true]
  exact ⟨fun h => h.ms, fun hm => ⟨h1, h.kdc, h2, h.sl, h.ll, h3, h.cs h2, fun i s hs => ⟨h.ss i s hs, h4 i s hs⟩, hm⟩⟩
theorem c_worldOk1 {L : List Ent} (m : Msg) (sm : Sl) (h : MsgAt L m sm) : RO Tryz.prog 89 [msgV m sm] L (B (!msgOk m)) := by
  refine Tri.of Tryz.func89 rfl rfl Tryz.ntmps89 rfl rfl ?_
  (repeat' (first | refine nX ?_ | (refine nA ?_; intro _) | (refine nW ?_; first | (refine op_call_id ?_; refine op_ro rfl rfl (by exact c_msgOk m sm (h.mono (by exact kS))) ?_)) | refine nY ?_ | refine nR ?_))
  refine ro_ret (by exact kR) (by exact kL) ?_; rfl
section
variable {L : List Ent} (w : World) (kc : Sl) (ac av al : Option Addr) (nc nv nl cc cv cl : Nat) (ps : List (Client × CSl)) (ss : List (Serv × (Sl × Sl))) (ms : List (Msg × Sl)) (hat : WldAt L w ⟨kc, ⟨ac, nc, cc⟩, ⟨av, nv, cv⟩, ⟨al, nl, cl⟩⟩ ps ss ms) (hn : NOk w)
include hat hn
theorem c_worldOkN0 : RO Tryz.prog 38 [worldV w ⟨kc, ⟨ac, nc, cc⟩, ⟨av, nv, cv⟩, ⟨al, nl, cl⟩⟩] L (B (worldOk w)) := by
  obtain ⟨hkc, hpe, hpr, hpa, hsE, hsr, hsa, hme, hmr, hma⟩ := hat
  have hmr0 := hmr
  obtain ⟨hnP, hc1, hb1, hat1⟩ := hpr
  obtain ⟨hnS, hc2, hb2, hat2⟩ := hsr
  obtain ⟨hnM, hc3, hb3, hat3⟩ := hmr
  dsimp only at hnP hnS hnM hat1 hat2 hat3 hc1 hc2 hc3
  subst hnP hnS hnM
  simp only [big] at hb1 hb2 hb3
  have hpl : ps.length = w.clients.length := by rw [← List.length_map (f := Prod.fst), hpe]
  have hsl : ss.length = w.servs.length := by rw [← List.length_map (f := Prod.fst), hsE]
  have hml : ms.length = w.log.length := by rw [← List.length_map (f := Prod.fst), hme]
  have hs2 := hn.sl
  have hl8 := hn.ll
  have hkk : kdcOk w.kdc = true := kdcOk_iff.2 hn.kdc
  cases h1 : timeOk w.now with
  | false =>
    have he : worldOk w = false := worldOk_f fun h => by have := within_false.1 h1; have := h.now; omega
    refine Tri.of Tryz.func38 rfl rfl Tryz.ntmps38 rfl rfl ?_
    (repeat' (first | refine nI ?_ | (refine nA ?_; intro _) | (refine nW ?_; first | (refine op_call_id ?_; refine op_ro rfl rfl (by exact (c_timeOk _).eq (congrArg B h1)) ?_)) | refine nY ?_ | refine nR ?_ | refine WC_cond rfl (fun hc => ?_) (fun hc => ?_)))
    refine ro_ret (by exact kR) (by exact kL) ?_; rw [he]; rfl
  | true =>
  by_cases h2 : w.clients.length = 3
  rotate_left
  · have he : worldOk w = false := worldOk_f fun h => h2 h.cl
    refine Tri.of Tryz.func38 rfl rfl Tryz.ntmps38 rfl rfl ?_
    (repeat' (first | refine nI ?_ | (refine nA ?_; intro _) | (refine nW ?_; first | (refine op_call_id ?_; refine op_ro rfl rfl (by first | exact (c_timeOk _).eq (congrArg B h1) | exact (c_impl.KdcOk w.kdc kc (hkc.mono (by exact kS))).eq (congrArg B hkk)) ?_)) | refine nY ?_ | refine nR ?_ | refine WC_cond rfl (fun hc => ?_) (fun hc => ?_)))
    refine ro_ret (by exact kR) (by exact kL) ?_; rw [he]; rfl
  cases h3 : within w.bad 0 3 with
  | false =>
    have he : worldOk w = false := worldOk_f fun h => by have := within_false.1 h3; have := h.bad; omega
    refine Tri.of Tryz.func38 rfl rfl Tryz.ntmps38 rfl rfl ?_
    (repeat' (first | refine nI ?_ | (refine nA ?_; intro _) | (refine nW ?_; first | (refine op_call_id ?_; refine op_ro rfl rfl (by first | exact (c_timeOk _).eq (congrArg B h1) | exact (c_impl.KdcOk w.kdc kc (hkc.mono (by exact kS))).eq (congrArg B hkk) | exact (c_within _ _ _).eq (congrArg B h3)) ?_)) | refine nY ?_ | refine nR ?_ | refine WC_cond rfl (fun hc => ?_) (fun hc => ?_)))
    refine ro_ret (by exact kR) (by exact kL) ?_; rw [he]; rfl
  | true =>
  have hcs := hn.cs h2
  obtain ⟨bP, oP, csP, TP, frP, rfl, hmP, hrP⟩ := hat1 (by omega)
  obtain ⟨bS, oS, csS, TS, frS, rfl, hmS, hrS⟩ := hat2 (by omega)
  refine Tri.of Tryz.func38 rfl rfl Tryz.ntmps38 rfl rfl ?_
  (repeat' (first | refine nI ?_ | (refine nA ?_; intro _) | (refine nW ?_; first | (refine op_call_id ?_; refine op_ro rfl rfl (by first | exact (c_timeOk _).eq (congrArg B h1) | exact (c_impl.KdcOk w.kdc kc (hkc.mono (by exact kS))).eq (congrArg B hkk) | exact (c_within _ _ _).eq (congrArg B h3)) ?_)) | refine nY ?_ | refine nR ?_ | refine WC_cond rfl (fun hc => ?_) (fun hc => ?_)))
  rename_i bx
  refine WC_loop (fun mz Ez Mz => ∃ k : Nat, k + mz = (ps).length ∧ Ez = [(1, .pointer (some ⟨bx, 0, none⟩)), (42, .slice (some ⟨bP, oP, none⟩) ps.length cc), (43, I ps.length), (44, I k)] ∧ Mz = (bx, cellsO (worldC w ⟨kc, ⟨some ⟨bP, oP, none⟩, ps.length, cc⟩, ⟨some ⟨bS, oS, none⟩, ss.length, cv⟩, ⟨al, ms.length, cl⟩⟩) 43) :: L ∧ (True)) (ps).length (by exact kQ) (by exact kL) ⟨0, by omega, rfl, rfl, by trivial⟩ ?_
  rintro mz Ez Mz ⟨k, hk, rfl, rfl, hin⟩
  rcases Nat.lt_or_ge k (ps).length with hlt | hge
  · obtain ⟨⟨c, sc⟩, hy⟩ : ∃ y, ps[k]? = some y := ⟨_, List.getElem?_eq_getElem hlt⟩
    have hrow' := hrP k _ hy
    have hck : w.clients[k]? = some c := by rw [← hpe, List.getElem?_map, hy]; rfl
    obtain ⟨hco, hid⟩ := hcs k c hck
    have hca := hpa _ (List.mem_of_getElem? hy)
    (repeat' (first | refine nI ?_ | (refine nA ?_; intro _) | (refine nW ?_; first | (refine op_call_id ?_; refine op_ro rfl rfl (by exact c_clientOkT c sc (hca.mono (by exact kS)) hco) ?_)) | refine nY ?_ | refine nR ?_ | refine WC_cond rfl (fun hc => ?_) (fun hc => ?_)))
    exact loopQ_next ⟨mz - 1, _, _, by omega, by exact kQ, by exact kL, k + 1, by omega, rfl, rfl, by trivial⟩
  (repeat' (first | refine nI ?_ | (refine nA ?_; intro _) | refine nY ?_ | refine nR ?_ | refine WC_cond rfl (fun hc => ?_) (fun hc => ?_)))
  clear hk hge hin
  refine WC_loop (fun mz Ez Mz => ∃ k : Nat, k + mz = (ss).length ∧ Ez = [(1, .pointer (some ⟨bx, 0, none⟩)), (61, .slice (some ⟨bS, oS, none⟩) ss.length cv), (62, I ss.length), (63, I k)] ∧ Mz = (bx, cellsO (worldC w ⟨kc, ⟨some ⟨bP, oP, none⟩, ps.length, cc⟩, ⟨some ⟨bS, oS, none⟩, ss.length, cv⟩, ⟨al, ms.length, cl⟩⟩) 43) :: L ∧ (∀ (i : Nat) s, i < k → w.servs[i]? = some s → s.id = i + 4)) (ss).length (by exact kQ) (by exact kL) ⟨0, by omega, rfl, rfl, by exact fun i s h => absurd h (by omega)⟩ ?_
  rintro mz Ez Mz ⟨k, hk, rfl, rfl, hin⟩
  rcases Nat.lt_or_ge k (ss).length with hlt | hge
  · obtain ⟨⟨v, sc, st⟩, hy⟩ : ∃ y, ss[k]? = some y := ⟨_, List.getElem?_eq_getElem hlt⟩
    have hrow' := hrS k _ hy
    have hvk : w.servs[k]? = some v := by rw [← hsE, List.getElem?_map, hy]; rfl
    have hso : servOk' v = true := servOk'_iff.2 (hn.ss k v hvk)
    have hva := hsa _ (List.mem_of_getElem? hy)
    by_cases hid : v.id = (k : Int) + 4
    · (repeat' (first | refine nI ?_ | (refine nA ?_; intro _) | (refine nW ?_; first | (refine op_call_id ?_; refine op_ro rfl rfl (by exact (c_servOk' v sc st (hva.c.mono (by exact kS)) (hva.t.mono (by exact kS))).eq (congrArg B hso)) ?_)) | refine nY ?_ | refine nR ?_ | refine WC_cond rfl (fun hc => ?_) (fun hc => ?_)))
      exact loopQ_next ⟨mz - 1, _, _, by omega, by exact kQ, by exact kL, k + 1, by omega, rfl, rfl, by (intro i s hi hs; by_cases hik : i = k; (subst hik; rw [hvk] at hs; cases hs; exact hid); exact hin i s (by omega) hs)⟩
    · have he : worldOk w = false := worldOk_f fun h => hid (h.ss k v hvk).2
      (repeat' (first | refine nI ?_ | (refine nA ?_; intro _) | (refine nW ?_; first | (refine op_call_id ?_; refine op_ro rfl rfl (by exact (c_servOk' v sc st (hva.c.mono (by exact kS)) (hva.t.mono (by exact kS))).eq (congrArg B hso)) ?_)) | refine nY ?_ | refine nR ?_ | refine WC_cond rfl (fun hc => ?_) (fun hc => ?_)))
      refine ro_ret (by exact kR) (by exact kL) ?_; rw [he]; rfl
  have hids : ∀ (i : Nat) s, w.servs[i]? = some s → s.id = i + 4 := fun i s hs => hin i s (by have := (List.getElem?_eq_some_iff.1 hs).1; omega) hs
  have he : worldOk w = w.log.all msgOk := worldOk_log hn (within_iff.1 h1) h2 (within_iff.1 h3) hids
  have he2 : ms.any (fun p => !msgOk p.1) = !(w.log.all msgOk) := by rw [← hme, List.all_map, List.not_all_eq_any_not]; rfl
  (repeat' (first | refine nI ?_ | (refine nA ?_; intro _) | (refine nW ?_; first | (refine op_call_id ?_; refine op_ro rfl rfl (by exact (c_containsFuncimpl.Msg ⟨al, ms.length, cl⟩ ms _ [] (fun p => !msgOk p.1) (hmr0.mono (by exact kS)) (fun x hx => c_worldOk1 x.1 x.2 ((hma x hx).mono (by exact kS)))).eq (congrArg B he2)) ?_)) | refine nY ?_ | refine nR ?_ | refine WC_cond rfl (fun hc => ?_) (fun hc => ?_)))
  refine ro_ret (by exact kR) (by exact kL) ?_; rw [he]; simp [packR]
end
theorem c_worldOkN {L : List Ent} (w : World) (q : WSl) (ps : List (Client × CSl)) (ss : List (Serv × (Sl × Sl))) (ms : List (Msg × Sl)) (hat : WldAt L w q ps ss ms) (hn : NOk w) : RO Tryz.prog 38 [worldV w q] L (B (worldOk w)) := by
  obtain ⟨kc, ⟨ac, nc, cc⟩, ⟨av, nv, cv⟩, ⟨al, nl, cl⟩⟩ := q
  exact c_worldOkN0 w kc ac av al nc nv nl cc cv cl ps ss ms hat hn
theorem c_worldOkT {L : List Ent} (w : World) (q : WSl) (ps : List (Client × CSl)) (ss : List (Serv × (Sl × Sl))) (ms : List (Msg × Sl)) (hat : WldAt L w q ps ss ms) (hok : WOk w) : RO Tryz.prog 38 [worldV w q] L (B true) := by
  have h := c_worldOkN w q ps ss ms hat hok.n
  rwa [worldOk_t hok] at h
end Go.Proofs.YtoledfhjmdpihaaGreat
/- Worlds that are ok: what happens in them, all seals that were sent. -/
set_option linter.unusedVariables false
set_option linter.unusedSectionVars false
set_option linter.unusedSimpArgs false
namespace Go.Proofs.YtoledfhjmdpihaaGreat
open Go Go.Proofs Go.Proofs.YtoledfhjmdpihaaGreat.VE
attribute [local irreducible] Val Op1 WO WR WA WC seqQ blockQ loopQ retQ
set_option maxHeartbeats 8000000
theorem c_worldDo {L : List Ent} {w x : World} {e0 : Event} (hx : step w e0 = x) (q : WSl) (ps : List (Client × CSl)) (ss : List (Serv × (Sl × Sl))) (ms : List (Msg × Sl)) (hat : WldAt L w q ps ss ms) (hok : WOk w) (hte : TookLe 1499900 w) (se : Sl) (hm : MsgAt L e0.msg se) :
    Tri Tryz.prog 11 [worldV w q, eventV e0 se] L (WldV L x) := by
  have hte5 : TookLe 1500000 w := hte.up (by omega)
  have hlim := wlim_of hok hte (by omega)
  have hokx : WOk x := hx ▸ step_ok hok
  have htex : TookLe 1499901 x := hx ▸ took_step hte
  have hlimx := wlim_of hokx htex (by omega)
  have hdo : ∀ {L1 L0 : List Ent} (bw : Nat) (q : WSl) (ps : List (Client × CSl)) (ss : List (Serv × (Sl × Sl))) (ms : List (Msg × Sl)) (ek ec ca es sa el la : List Ent) (hL : L1.Perm ((bw, cellsO (worldC w q) 43) :: (wldE ek ec ca es sa el la ++ L0))) (hown : WldOwn w q ps ss ms ek ec ca es sa el la) (hm : MsgAt L0 e0.msg se),
      Tri Tryz.prog 40 [.pointer (some ⟨bw, 0, none⟩), eventV e0 se] L1 (fun v L' => v = .tuple #[] ∧ WldR L0 bw x L') := fun bw q ps ss ms ek ec ca es sa el la hL hown hm => hx ▸ c_doP bw w q ps ss ms ek ec ca es sa el la hL hok hown hte5 e0 se hm
  clear hx
  refine Tri.of Tryz.func11 rfl rfl Tryz.ntmps11 rfl rfl ?_
  (repeat' (first | refine nI ?_ | (refine nA ?_; intro _) | (refine nW ?_; first | (refine op_call_id ?_; refine op_ro rfl rfl (by exact c_worldOkT w q ps ss ms (hat.mono (by exact kS)) hok) ?_) | (refine op_call_id ?_; refine op_call rfl (c_wldCopied w q ps ss ms (hat.mono (by exact kS)) hlim) rfl ?_; rintro _ _ ⟨q1, ps1, ss1, ms1, ek1, ec1, ca1, es1, sa1, el1, la1, rfl, ho1, rfl⟩) | (refine op_call_id ?_; refine op_call rfl (hdo _ q1 ps1 ss1 ms1 ek1 ec1 ca1 es1 sa1 el1 la1 (front2 (by exact kF) (by exact kE)) ho1 (hm.mono (by exact kS))) rfl ?_; rintro _ _ ⟨rfl, q2, ps2, ss2, ms2, ek2, ec2, ca2, es2, sa2, el2, la2, ho2, rfl⟩) | (refine op_call_id ?_; refine op_call rfl (c_wldCopied x q2 ps2 ss2 ms2 (ho2.at.mono (by exact kS)) hlimx) rfl ?_; rintro _ _ ⟨q3, ps3, ss3, ms3, ek3, ec3, ca3, es3, sa3, el3, la3, rfl, ho3, rfl⟩)) | refine nY ?_ | refine nR ?_ | refine WC_cond rfl (fun hc => ?_) (fun hc => ?_)))
  refine ret_ret (by exact kR) ?_; exact ⟨wldE ek3 ec3 ca3 es3 sa3 el3 la3 ++ L, by exact kP, q3, ps3, ss3, ms3, ek3, ec3, ca3, es3, sa3, el3, la3, rfl, ho3, rfl⟩
/-- Where a service, a user, a word of a world that is ok lies. -/
theorem srv_get {L : List Ent} {w : World} {kc cs sl ls : Sl} {ps : List (Client × CSl)} {ss : List (Serv × (Sl × Sl))} {ms : List (Msg × Sl)} (h : WldAt L w ⟨kc, cs, sl, ls⟩ ps ss ms) (hok : WOk w) {k : Nat} {v : Serv} (hk : w.servs[k]? = some v) :
    ∃ g o cc T fr cap sc st, sl = ⟨some ⟨g, o, none⟩, 2, cap⟩ ∧ (g, Obj.cells cc.toArray T fr) ∈ L ∧ takeC cc (o + k * 4) 4 = some (servC v sc st) ∧ SrvAt L (v, sc, st) := by
  have hsl : ss.length = 2 := by rw [← List.length_map (f := Prod.fst), h.se]; exact hok.sl
  rw [← h.se, List.getElem?_map, Option.map_eq_some_iff] at hk
  obtain ⟨⟨v, sc, st⟩, hy, he⟩ := hk
  obtain ⟨a, n, c⟩ := sl
  obtain ⟨hn, hc, hb, hat⟩ := h.sr
  dsimp only at hn hat he
  obtain ⟨g, o, cc, T, fr, ha, hm, hrow⟩ := hat (by omega)
  have hrow' := hrow _ _ hy
  have hva := h.sa _ (List.mem_of_getElem? hy)
  rw [← he]
  exact ⟨g, o, cc, T, fr, c, sc, st, by rw [ha, hn, hsl], hm, hrow', hva⟩
theorem srv_at {L : List Ent} {w : World} {kc cs sl ls : Sl} {ps : List (Client × CSl)} {ss : List (Serv × (Sl × Sl))} {ms : List (Msg × Sl)} (h : WldAt L w ⟨kc, cs, sl, ls⟩ ps ss ms) (hok : WOk w) {id : Int} (hi : 4 ≤ id ∧ id ≤ 5) :
    ∃ g o cc T fr cap sc st, sl = ⟨some ⟨g, o, none⟩, 2, cap⟩ ∧ (g, Obj.cells cc.toArray T fr) ∈ L ∧ takeC cc (o + (id - 4).toNat * 4) 4 = some (servC (servOf w id) sc st) ∧ SrvAt L (servOf w id, sc, st) := srv_get h hok (servOf_get hok hi)
theorem cli_get {L : List Ent} {w : World} {kc cs sl ls : Sl} {ps : List (Client × CSl)} {ss : List (Serv × (Sl × Sl))} {ms : List (Msg × Sl)} (h : WldAt L w ⟨kc, cs, sl, ls⟩ ps ss ms) (hok : WOk w) {k : Nat} {v : Client} (hk : w.clients[k]? = some v) :
    ∃ g o cc T fr cap s, cs = ⟨some ⟨g, o, none⟩, 3, cap⟩ ∧ (g, Obj.cells cc.toArray T fr) ∈ L ∧ takeC cc (o + k * 6) 6 = some (clientC v s) ∧ CliAt L (v, s) := by
  have hsl : ps.length = 3 := by rw [← List.length_map (f := Prod.fst), h.pe]; exact hok.cl
  rw [← h.pe, List.getElem?_map, Option.map_eq_some_iff] at hk
  obtain ⟨⟨v, s⟩, hy, he⟩ := hk
  obtain ⟨a, n, c⟩ := cs
  obtain ⟨hn, hc, hb, hat⟩ := h.pr
  dsimp only at hn hat he
  obtain ⟨g, o, cc, T, fr, ha, hm, hrow⟩ := hat (by omega)
  have hrow' := hrow _ _ hy
  have hva := h.pa _ (List.mem_of_getElem? hy)
  rw [← he]
  exact ⟨g, o, cc, T, fr, c, s, by rw [ha, hn, hsl], hm, hrow', hva⟩
theorem cli_at {L : List Ent} {w : World} {kc cs sl ls : Sl} {ps : List (Client × CSl)} {ss : List (Serv × (Sl × Sl))} {ms : List (Msg × Sl)} (h : WldAt L w ⟨kc, cs, sl, ls⟩ ps ss ms) (hok : WOk w) {id : Int} (hi : 1 ≤ id ∧ id ≤ 3) :
    ∃ g o cc T fr cap s, cs = ⟨some ⟨g, o, none⟩, 3, cap⟩ ∧ (g, Obj.cells cc.toArray T fr) ∈ L ∧ takeC cc (o + (id - 1).toNat * 6) 6 = some (clientC (clientOf w id) s) ∧ CliAt L (clientOf w id, s) := cli_get h hok (clientOf_get hok hi)
theorem msg_at {L : List Ent} {w : World} {kc cs sl : Sl} {a : Option Addr} {n c : Nat} {ps : List (Client × CSl)} {ss : List (Serv × (Sl × Sl))} {ms : List (Msg × Sl)} (h : WldAt L w ⟨kc, cs, sl, ⟨a, n, c⟩⟩ ps ss ms) {k : Nat} {m : Msg} (hk : w.log[k]? = some m) :
    ∃ g o cc T fr sm, a = some ⟨g, o, none⟩ ∧ (g, Obj.cells cc.toArray T fr) ∈ L ∧ takeC cc (o + k * 5) 5 = some (msgC m sm) ∧ MsgAt L m sm := by
  rw [← h.me, List.getElem?_map, Option.map_eq_some_iff] at hk
  obtain ⟨⟨v, sm⟩, hy, he⟩ := hk
  obtain ⟨hn, hc, hb, hat⟩ := h.mr
  dsimp only at hn hat he
  have hlt := (List.getElem?_eq_some_iff.1 hy).1
  obtain ⟨g, o, cc, T, fr, ha, hm, hrow⟩ := hat (by omega)
  have hrow' := hrow _ _ hy
  have hva := h.ma _ (List.mem_of_getElem? hy)
  rw [← he]
  exact ⟨g, o, cc, T, fr, sm, ha, hm, hrow', hva⟩
theorem log_len {L : List Ent} {w : World} {kc cs sl : Sl} {a : Option Addr} {n c : Nat} {ps : List (Client × CSl)} {ss : List (Serv × (Sl × Sl))} {ms : List (Msg × Sl)} (h : WldAt L w ⟨kc, cs, sl, ⟨a, n, c⟩⟩ ps ss ms) : n = w.log.length := by
  have h1 := h.mr.1
  dsimp only at h1
  rw [h1, ← List.length_map (f := Prod.fst), h.me]
theorem log_all {L : List Ent} {w : World} {kc cs sl : Sl} {a : Option Addr} {n c : Nat} {ps : List (Client × CSl)} {ss : List (Serv × (Sl × Sl))} {ms : List (Msg × Sl)} (h : WldAt L w ⟨kc, cs, sl, ⟨a, n, c⟩⟩ ps ss ms) (hp : 0 < w.log.length) :
    ∃ g o cc T fr, a = some ⟨g, o, none⟩ ∧ (g, Obj.cells cc.toArray T fr) ∈ L ∧ ∀ (k : Nat) m, w.log[k]? = some m → ∃ sm, takeC cc (o + k * 5) 5 = some (msgC m sm) ∧ MsgAt L m sm := by
  have hl : ms.length = w.log.length := by rw [← h.me]; simp
  obtain ⟨hn, hc, hb, hat⟩ := h.mr
  dsimp only at hn hat
  obtain ⟨g, o, cc, T, fr, ha, hm, hrow⟩ := hat (by omega)
  refine ⟨g, o, cc, T, fr, ha, hm, fun k m hk => ?_⟩
  rw [← h.me, List.getElem?_map, Option.map_eq_some_iff] at hk
  obtain ⟨⟨v, sm⟩, hy, rfl⟩ := hk
  exact ⟨sm, hrow _ _ hy, h.ma _ (List.mem_of_getElem? hy)⟩
/-- A world that is new, with its number of words. -/
def WldU (L0 : List Ent) (w : World) (v : Value) (L' : List Ent) : Prop := ∃ kc cs sv al cl ps ss ms ek ec ca es sa el la, v = worldV w ⟨kc, cs, sv, ⟨al, w.log.length, cl⟩⟩ ∧ WldOwn w ⟨kc, cs, sv, ⟨al, w.log.length, cl⟩⟩ ps ss ms ek ec ca es sa el la ∧ L' = wldE ek ec ca es sa el la ++ L0
theorem WldV.u {L0 : List Ent} {w : World} {v : Value} {L' : List Ent} (h : WldV L0 w v L') : WldU L0 w v L' := by
  obtain ⟨⟨kc, cs, sv, ⟨al, nl, cl⟩⟩, ps, ss, ms, ek, ec, ca, es, sa, el, la, rfl, ho, rfl⟩ := h
  have hl := log_len ho.at
  subst hl
  exact ⟨kc, cs, sv, al, cl, ps, ss, ms, ek, ec, ca, es, sa, el, la, rfl, ho, rfl⟩
theorem c_worldDoU {L : List Ent} {w x : World} {e0 : Event} (hx : step w e0 = x) (q : WSl) (ps : List (Client × CSl)) (ss : List (Serv × (Sl × Sl))) (ms : List (Msg × Sl)) (hat : WldAt L w q ps ss ms) (hok : WOk w) (hte : TookLe 1499900 w) (se : Sl) (hm : MsgAt L e0.msg se) :
    Tri Tryz.prog 11 [worldV w q, eventV e0 se] L (WldU L x) := (c_worldDo hx q ps ss ms hat hok hte se hm).mono fun _ _ h => h.u
end Go.Proofs.YtoledfhjmdpihaaGreat
/- Worlds that are ok: a user meets a service. -/
set_option linter.unusedVariables false
set_option linter.unusedSectionVars false
set_option linter.unusedSimpArgs false
namespace Go.Proofs.YtoledfhjmdpihaaGreat
open Go Go.Proofs Go.Proofs.YtoledfhjmdpihaaGreat.VE
attribute [local irreducible] Val Op1 WO WR WA WC seqQ blockQ loopQ retQ
set_option maxHeartbeats 8000000
theorem asks_step {w : World} {k a b : Int} (hk : k = 1 ∨ k = 2 ∨ k = 3) : asks w k a b = step w ⟨k, a, b, Msg.zero⟩ := by
  unfold step; rw [if_pos hk]
theorem bring_step (w : World) (n : Int) : bring w n = step w ⟨4, n, 0, Msg.zero⟩ := by simp [step]
theorem asks_took {w : World} {k a b : Int} {n : Nat} (hk : k = 1 ∨ k = 2 ∨ k = 3) (h : TookLe n w) : TookLe (n + 1) (asks w k a b) := by rw [asks_step hk]; exact took_step h
theorem bring_took {w : World} {n : Nat} {i : Int} (h : TookLe n w) : TookLe (n + 1) (bring w i) := by rw [bring_step]; exact took_step h
theorem last_took {w : World} {n i : Nat} (h : TookLe n w) : TookLe (n + 1) (last i w) := by
  unfold last
  split
  · exact bring_took h
  · exact h.up (by omega)
theorem phase_took {w : World} {k a b : Int} {n : Nat} (hk : k = 1 ∨ k = 2 ∨ k = 3) (h : TookLe n w) : TookLe (n + 3) (phase w k a b) := last_took (last_took (asks_took hk h))
theorem tick_took {w : World} {n : Nat} (h : TookLe n w) : TookLe n (tick w) := h.same rfl
theorem meet_took {w : World} {a b : Int} {n : Nat} (h : TookLe n w) : TookLe (n + 9) (meet w a b) := by
  have h1 := phase_took (k := 1) (a := a) (b := b) (.inl rfl) (tick_took h)
  have h2 := phase_took (k := 2) (a := a) (b := b) (.inr (.inl rfl)) h1
  have h3 := phase_took (k := 3) (a := a) (b := b) (.inr (.inr rfl)) h2
  exact h3
theorem phase_0 {w x : World} {k a b : Int} (h : asks w k a b = x) (h1 : grew w x = false) : phase w k a b = x := by
  simp only [decide_eq_false_iff_not] at h1
  unfold phase; rw [h, last_none (n := w.log.length) (by omega), last_none (by omega)]
theorem phase_1 {w x y : World} {k a b : Int} (h : asks w k a b = x) (h1 : grew w x = true) (h2 : bring x ((x.log.length : Int) - 1) = y) (h3 : grew x y = false) : phase w k a b = y := by
  have hl := asks_log w k a b
  rw [h] at hl
  simp only [decide_eq_false_iff_not, decide_eq_true_eq] at h1 h3
  have hly := bring_log x ((x.log.length : Int) - 1)
  rw [h2] at hly
  unfold phase; rw [h]
  have e : last w.log.length x = y := by unfold last; rw [if_pos (by omega), h2]
  rw [e, last_none (by omega)]
theorem phase_2 {w x y z : World} {k a b : Int} (h : asks w k a b = x) (h1 : grew w x = true) (h2 : bring x ((x.log.length : Int) - 1) = y) (h3 : grew x y = true) (h4 : bring y ((y.log.length : Int) - 1) = z) : phase w k a b = z := by
  have hl := asks_log w k a b
  rw [h] at hl
  simp only [decide_eq_true_eq] at h1 h3
  unfold phase; rw [h]
  have e : last w.log.length x = y := by unfold last; rw [if_pos (by omega), h2]
  rw [e]
  unfold last; rw [if_pos (by omega), h4]
def WldRU (L0 : List Ent) (bw : Nat) (w : World) (L' : List Ent) : Prop := ∃ kc cs sv al cl ps ss ms ek ec ca es sa el la, WldOwn w ⟨kc, cs, sv, ⟨al, w.log.length, cl⟩⟩ ps ss ms ek ec ca es sa el la ∧ L' = (bw, cellsO (worldC w ⟨kc, cs, sv, ⟨al, w.log.length, cl⟩⟩) 43) :: (wldE ek ec ca es sa el la ++ L0)
theorem WldR.u {L0 : List Ent} {bw : Nat} {w : World} {L' : List Ent} (h : WldR L0 bw w L') : WldRU L0 bw w L' := by
  obtain ⟨⟨kc, cs, sv, ⟨al, nl, cl⟩⟩, ps, ss, ms, ek, ec, ca, es, sa, el, la, ho, rfl⟩ := h
  have hl := log_len ho.at
  subst hl
  exact ⟨kc, cs, sv, al, cl, ps, ss, ms, ek, ec, ca, es, sa, el, la, ho, rfl⟩
theorem c_asksP {L L0 : List Ent} (bw : Nat) (w : World) (q : WSl) (ps : List (Client × CSl)) (ss : List (Serv × (Sl × Sl))) (ms : List (Msg × Sl)) (ek ec ca es sa el la : List Ent) (hL : L.Perm ((bw, cellsO (worldC w q) 43) :: (wldE ek ec ca es sa el la ++ L0))) (hw : WOk w) (hown : WldOwn w q ps ss ms ek ec ca es sa el la) (k a b : Int) {x : World} (hx : asks w k a b = x) {g : Bool} (hg : grew w x = g) :
    Tri Tryz.prog 98 [.pointer (some ⟨bw, 0, none⟩), eventV ⟨k, a, b, Msg.zero⟩ Sl.nil] L (fun v L' => v = B g ∧ WldRU L0 bw x L') := by
  subst hx hg; exact ((c_asks bw w q ps ss ms ek ec ca es sa el la hw hown ⟨k, a, b, Msg.zero⟩ Sl.nil).perm hL).mono fun v L' ⟨h1, h2⟩ => ⟨h1, h2.u⟩
theorem c_bringP {L L0 : List Ent} (bw : Nat) (w : World) (q : WSl) (ps : List (Client × CSl)) (ss : List (Serv × (Sl × Sl))) (ms : List (Msg × Sl)) (ek ec ca es sa el la : List Ent) (hL : L.Perm ((bw, cellsO (worldC w q) 43) :: (wldE ek ec ca es sa el la ++ L0))) (hw : WOk w) (hte : TookLe 1500000 w) (hown : WldOwn w q ps ss ms ek ec ca es sa el la) (n : Int) {x : World} (hx : bring w n = x) {g : Bool} (hg : grew w x = g) :
    Tri Tryz.prog 99 [.pointer (some ⟨bw, 0, none⟩), I n] L (fun v L' => v = B g ∧ WldRU L0 bw x L') := by
  subst hx hg; exact ((c_bring bw w q ps ss ms ek ec ca es sa el la hw hown n (fun s hs => by have := hte s hs; simp only [lim]; omega)).perm hL).mono fun v L' ⟨h1, h2⟩ => ⟨h1, h2.u⟩
def meetK (w : World) (a b : Int) (ks : List Int) : World := ks.foldl (fun v k => phase v k a b) (tick w)
theorem meetK_snoc (w : World) (a b : Int) (ks : List Int) (k : Int) : meetK w a b (ks ++ [k]) = phase (meetK w a b ks) k a b := by simp [meetK]
abbrev kinds3 : List Int := [1, 2, 3]
theorem meetK_all (w : World) (a b : Int) : meetK w a b kinds3 = meet w a b := rfl
/-- What one has behind some rounds. -/
structure MeetIn (w : World) (a b : Int) (k : Nat) (x : World) : Prop where
  eq : x = meetK w a b (kinds3.take k)
  ok : WOk x
  took : TookLe (1499900 + 3 * k) x
theorem MeetIn.next {w x y : World} {a b : Int} {k : Nat} (h : MeetIn w a b k x) {c : Int} (hc : kinds3[k]? = some c) (hc3 : c = 1 ∨ c = 2 ∨ c = 3) (hy : phase x c a b = y) : MeetIn w a b (k + 1) y := by
  subst hy
  refine ⟨by rw [take_next hc, meetK_snoc, ← h.eq], phase_ok h.ok, ?_⟩
  have := phase_took (k := c) (a := a) (b := b) hc3 h.took
  rwa [show 1499900 + 3 * (k + 1) = 1499900 + 3 * k + 3 by omega]
theorem c_meetIn {L0 : List Ent} (bw : Nat) (w : World) (q : WSl) (ps : List (Client × CSl)) (ss : List (Serv × (Sl × Sl))) (ms : List (Msg × Sl)) (ek ec ca es sa el la : List Ent) (hw : WOk w) (hte : TookLe 1499900 w) (hown : WldOwn w q ps ss ms ek ec ca es sa el la) (a b : Int) :
    Tri Tryz.prog 59 [.pointer (some ⟨bw, 0, none⟩), I a, I b] ((bw, cellsO (worldC w q) 43) :: (wldE ek ec ca es sa el la ++ L0)) (fun v L' => v = .tuple #[] ∧ WldR L0 bw (meet w a b) L') := by
  have hnow := hw.now
  have htown : WldOwn (tick w) q ps ss ms ek ec ca es sa el la := ⟨hown.kc, hown.pe, hown.pr, hown.pa, hown.se, hown.sr, hown.sa, hown.me, hown.mr, hown.ma⟩
  have hin0 : MeetIn w a b 0 (tick w) := ⟨rfl, tick_ok hw, tick_took hte⟩
  obtain ⟨w0, hw0⟩ : ∃ x, tick w = x := ⟨_, rfl⟩
  have htick := c_tick (L := wldE ek ec ca es sa el la ++ L0) bw w q hnow
  rw [hw0] at htown hin0 htick
  clear hw0
  have hk3l : kinds3.length = 3 := rfl
  refine Tri.of Tryz.func59 rfl rfl Tryz.ntmps59 rfl rfl ?_
  (repeat' (first | refine nI ?_ | (refine nA ?_; intro _) | (refine nW ?_; first | (refine op_call_id ?_; refine op_call rfl (htick) rfl ?_; rintro _ _ ⟨rfl, rfl⟩)) | refine nY ?_ | refine nR ?_ | refine WC_cond rfl (fun hc => ?_) (fun hc => ?_)))
  rename_i b4
  refine WC_loop (fun mz Ez Mz => ∃ (k : Nat) (x : World) (q : WSl) (ps : List (Client × CSl)) (ss : List (Serv × (Sl × Sl))) (ms : List (Msg × Sl)) (ek ec ca es sa el la : List Ent), k + mz = (kinds3).length ∧ Ez = [(0, .pointer (some ⟨bw, 0, none⟩)), (1, I a), (2, I b), (10, .slice (some ⟨b4, 0, none⟩) 3 3), (11, I 3), (12, I k)] ∧ Mz = (bw, cellsO (worldC x q) 43) :: (b4, cellsO [I 1, I 2, I 3] 3) :: (wldE ek ec ca es sa el la ++ L0) ∧ (MeetIn w a b k x ∧ WldOwn x q ps ss ms ek ec ca es sa el la)) (kinds3).length (by exact kQ) (by exact kL) ⟨0, w0, q, ps, ss, ms, ek, ec, ca, es, sa, el, la, by omega, rfl, rfl, by exact ⟨hin0, htown⟩⟩ ?_
  rintro mz Ez Mz ⟨k, x, q, ps, ss, ms, ek, ec, ca, es, sa, el, la, hk, rfl, rfl, hin⟩
  rcases Nat.lt_or_ge k (kinds3).length with hlt | hge
  · obtain ⟨hmi, hown⟩ := hin
    obtain ⟨c, hc⟩ : ∃ c, kinds3[k]? = some c := ⟨_, List.getElem?_eq_getElem hlt⟩
    have hcm : c = 1 ∨ c = 2 ∨ c = 3 := by have := List.mem_of_getElem? hc; simpa using this
    have hk3 : k < 3 := hlt
    have htk := hmi.took.up (m := 1499909) (by omega)
    have hlit : takeC [I 1, I 2, I 3] (0 + k * 1) 1 = some [I c] := by
      have h3 : k = 0 ∨ k = 1 ∨ k = 2 := by omega
      rcases h3 with rfl | rfl | rfl <;> (simp at hc; subst hc; rfl)
    obtain ⟨x1, hx1⟩ : ∃ x1, asks x c a b = x1 := ⟨_, rfl⟩
    have ok1 : WOk x1 := hx1 ▸ asks_ok hmi.ok
    have tk1 : TookLe 1499910 x1 := hx1 ▸ asks_took hcm htk
    cases g1 : grew x x1 with
    | false =>
      have hmi2 := hmi.next hc hcm (phase_0 hx1 g1)
      (repeat' (first | refine nI ?_ | (refine nA ?_; intro _) | (refine nW ?_; first | (refine op_call_id ?_; refine op_call rfl (c_asksP bw x q ps ss ms ek ec ca es sa el la (front2 (by exact kF) (by exact kE)) hmi.ok hown c a b hx1 g1) rfl ?_; rintro _ _ ⟨rfl, kc1, cs1, sv1, al1, cl1, ps1, ss1, ms1, ek1, ec1, ca1, es1, sa1, el1, la1, ho1, rfl⟩)) | refine nY ?_ | refine nR ?_ | refine WC_cond rfl (fun hc => ?_) (fun hc => ?_)))
      exact loopQ_next ⟨mz - 1, _, _, by omega, by exact kQ, by exact kL, k + 1, x1, ⟨kc1, cs1, sv1, ⟨al1, x1.log.length, cl1⟩⟩, ps1, ss1, ms1, ek1, ec1, ca1, es1, sa1, el1, la1, by omega, rfl, rfl, by exact ⟨hmi2, ho1⟩⟩
    | true =>
      obtain ⟨x2, hx2⟩ : ∃ x2, bring x1 ((x1.log.length : Int) - 1) = x2 := ⟨_, rfl⟩
      have ok2 : WOk x2 := hx2 ▸ bring_ok ok1
      have tk2 : TookLe 1499911 x2 := hx2 ▸ bring_took tk1
      have l1 := ok1.ll
      have l2 := ok2.ll
      cases g2 : grew x1 x2 with
      | false =>
        have hmi2 := hmi.next hc hcm (phase_1 hx1 g1 hx2 g2)
        (repeat' (first | refine nI ?_ | (refine nA ?_; intro _) | (refine nW ?_; first | (refine op_call_id ?_; refine op_call rfl (c_asksP bw x q ps ss ms ek ec ca es sa el la (front2 (by exact kF) (by exact kE)) hmi.ok hown c a b hx1 g1) rfl ?_; rintro _ _ ⟨rfl, kc1, cs1, sv1, al1, cl1, ps1, ss1, ms1, ek1, ec1, ca1, es1, sa1, el1, la1, ho1, rfl⟩) | (refine op_call_id ?_; refine op_call rfl (c_bringP bw x1 _ ps1 ss1 ms1 ek1 ec1 ca1 es1 sa1 el1 la1 (front2 (by exact kF) (by exact kE)) ok1 (tk1.up (by omega)) ho1 _ hx2 g2) rfl ?_; rintro _ _ ⟨rfl, kc2, cs2, sv2, al2, cl2, ps2, ss2, ms2, ek2, ec2, ca2, es2, sa2, el2, la2, ho2, rfl⟩)) | refine nY ?_ | refine nR ?_ | refine WC_cond rfl (fun hc => ?_) (fun hc => ?_)))
        exact loopQ_next ⟨mz - 1, _, _, by omega, by exact kQ, by exact kL, k + 1, x2, ⟨kc2, cs2, sv2, ⟨al2, x2.log.length, cl2⟩⟩, ps2, ss2, ms2, ek2, ec2, ca2, es2, sa2, el2, la2, by omega, rfl, rfl, by exact ⟨hmi2, ho2⟩⟩
      | true =>
        obtain ⟨x3, hx3⟩ : ∃ x3, bring x2 ((x2.log.length : Int) - 1) = x3 := ⟨_, rfl⟩
        have hmi2 := hmi.next hc hcm (phase_2 hx1 g1 hx2 g2 hx3)
        obtain ⟨g3, hg3⟩ : ∃ g, grew x2 x3 = g := ⟨_, rfl⟩
        (repeat' (first | refine nI ?_ | (refine nA ?_; intro _) | (refine nW ?_; first | (refine op_call_id ?_; refine op_call rfl (c_asksP bw x q ps ss ms ek ec ca es sa el la (front2 (by exact kF) (by exact kE)) hmi.ok hown c a b hx1 g1) rfl ?_; rintro _ _ ⟨rfl, kc1, cs1, sv1, al1, cl1, ps1, ss1, ms1, ek1, ec1, ca1, es1, sa1, el1, la1, ho1, rfl⟩) | (refine op_call_id ?_; refine op_call rfl (c_bringP bw x1 _ ps1 ss1 ms1 ek1 ec1 ca1 es1 sa1 el1 la1 (front2 (by exact kF) (by exact kE)) ok1 (tk1.up (by omega)) ho1 _ hx2 g2) rfl ?_; rintro _ _ ⟨rfl, kc2, cs2, sv2, al2, cl2, ps2, ss2, ms2, ek2, ec2, ca2, es2, sa2, el2, la2, ho2, rfl⟩) | (refine op_call_id ?_; refine op_call rfl (c_bringP bw x2 _ ps2 ss2 ms2 ek2 ec2 ca2 es2 sa2 el2 la2 (front2 (by exact kF) (by exact kE)) ok2 (tk2.up (by omega)) ho2 _ hx3 hg3) rfl ?_; rintro _ _ ⟨rfl, kc3, cs3, sv3, al3, cl3, ps3, ss3, ms3, ek3, ec3, ca3, es3, sa3, el3, la3, ho3, rfl⟩)) | refine nY ?_ | refine nR ?_ | refine WC_cond rfl (fun hc => ?_) (fun hc => ?_)))
        exact loopQ_next ⟨mz - 1, _, _, by omega, by exact kQ, by exact kL, k + 1, x3, ⟨kc3, cs3, sv3, ⟨al3, x3.log.length, cl3⟩⟩, ps3, ss3, ms3, ek3, ec3, ca3, es3, sa3, el3, la3, by omega, rfl, rfl, by exact ⟨hmi2, ho3⟩⟩
  · obtain ⟨hmi, hown⟩ := hin
    have hxe : x = meet w a b := by rw [hmi.eq, take_all hge]; rfl
    subst hxe
    (repeat' (first | refine nI ?_ | (refine nA ?_; intro _) | refine nY ?_ | refine nR ?_ | refine WC_cond rfl (fun hc => ?_) (fun hc => ?_)))
    refine ret_normal (by exact kR) ?_; exact ⟨(bw, cellsO (worldC (meet w a b) q) 43) :: (wldE ek ec ca es sa el la ++ L0), by exact kP, rfl, q, ps, ss, ms, ek, ec, ca, es, sa, el, la, hown, rfl⟩
theorem c_worldMeet {L : List Ent} {w x : World} {a b : Int} (hx : meet w a b = x) (q : WSl) (ps : List (Client × CSl)) (ss : List (Serv × (Sl × Sl))) (ms : List (Msg × Sl)) (hat : WldAt L w q ps ss ms) (hok : WOk w) (hte : TookLe 1499800 w) :
    Tri Tryz.prog 24 [worldV w q, I a, I b] L (WldV L x) := by
  have hte4 : TookLe 1499900 w := hte.up (by omega)
  have hlim := wlim_of hok hte (by omega)
  have hokx : WOk x := hx ▸ meet_ok hok
  have htex : TookLe 1499809 x := hx ▸ meet_took hte
  have hlimx := wlim_of hokx htex (by omega)
  have hdo : ∀ {L1 L0 : List Ent} (bw : Nat) (q : WSl) (ps : List (Client × CSl)) (ss : List (Serv × (Sl × Sl))) (ms : List (Msg × Sl)) (ek ec ca es sa el la : List Ent) (hL : L1.Perm ((bw, cellsO (worldC w q) 43) :: (wldE ek ec ca es sa el la ++ L0))) (hown : WldOwn w q ps ss ms ek ec ca es sa el la),
      Tri Tryz.prog 59 [.pointer (some ⟨bw, 0, none⟩), I a, I b] L1 (fun v L' => v = .tuple #[] ∧ WldR L0 bw x L') := fun bw q ps ss ms ek ec ca es sa el la hL hown => hx ▸ (c_meetIn bw w q ps ss ms ek ec ca es sa el la hok hte4 hown a b).perm hL
  clear hx
  refine Tri.of Tryz.func24 rfl rfl Tryz.ntmps24 rfl rfl ?_
  (repeat' (first | refine nI ?_ | (refine nA ?_; intro _) | (refine nW ?_; first | (refine op_call_id ?_; refine op_ro rfl rfl (by exact c_worldOkT w q ps ss ms (hat.mono (by exact kS)) hok) ?_) | (refine op_call_id ?_; refine op_call rfl (c_wldCopied w q ps ss ms (hat.mono (by exact kS)) hlim) rfl ?_; rintro _ _ ⟨q1, ps1, ss1, ms1, ek1, ec1, ca1, es1, sa1, el1, la1, rfl, ho1, rfl⟩) | (refine op_call_id ?_; refine op_call rfl (hdo _ q1 ps1 ss1 ms1 ek1 ec1 ca1 es1 sa1 el1 la1 (front2 (by exact kF) (by exact kE)) ho1) rfl ?_; rintro _ _ ⟨rfl, q2, ps2, ss2, ms2, ek2, ec2, ca2, es2, sa2, el2, la2, ho2, rfl⟩) | (refine op_call_id ?_; refine op_call rfl (c_wldCopied x q2 ps2 ss2 ms2 (ho2.at.mono (by exact kS)) hlimx) rfl ?_; rintro _ _ ⟨q3, ps3, ss3, ms3, ek3, ec3, ca3, es3, sa3, el3, la3, rfl, ho3, rfl⟩)) | refine nY ?_ | refine nR ?_ | refine WC_cond rfl (fun hc => ?_) (fun hc => ?_)))
  refine ret_ret (by exact kR) ?_; exact ⟨wldE ek3 ec3 ca3 es3 sa3 el3 la3 ++ L, by exact kP, q3, ps3, ss3, ms3, ek3, ec3, ca3, es3, sa3, el3, la3, rfl, ho3, rfl⟩
theorem c_worldMeetU {L : List Ent} {w x : World} {a b : Int} (hx : meet w a b = x) (q : WSl) (ps : List (Client × CSl)) (ss : List (Serv × (Sl × Sl))) (ms : List (Msg × Sl)) (hat : WldAt L w q ps ss ms) (hok : WOk w) (hte : TookLe 1499800 w) :
    Tri Tryz.prog 24 [worldV w q, I a, I b] L (WldU L x) := (c_worldMeet hx q ps ss ms hat hok hte).mono fun _ _ h => h.u
end Go.Proofs.YtoledfhjmdpihaaGreat
