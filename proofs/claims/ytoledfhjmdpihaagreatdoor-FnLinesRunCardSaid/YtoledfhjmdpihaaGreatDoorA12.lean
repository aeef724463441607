/- Users: whether they are in order. -/
import Derived.Test.YtoledfhjmdpihaaGreatDoorA4
import Derived.Test.YtoledfhjmdpihaaGreatDoorA3
import Derived.Test.YtoledfhjmdpihaaGreatDoorA9
set_option linter.unusedVariables false
set_option linter.unusedSectionVars false
set_option linter.unusedSimpArgs false
namespace Go.Proofs.YtoledfhjmdpihaaGreatDoor
open Go Go.Proofs Go.Proofs.YtoledfhjmdpihaaGreatDoor.VE
attribute [local irreducible] Val Op1 WO WR WA WC seqQ blockQ loopQ retQ
set_option maxHeartbeats 4000000
theorem drop_cons' {X : Type} {xs : List X} {k : Nat} {y : X} (h : xs[k]? = some y) : xs.drop k = y :: xs.drop (k + 1) := by
  obtain ⟨hlt, he⟩ := List.getElem?_eq_some_iff.1 h
  rw [← he, List.getElem_cons_drop]
theorem c_credB {L : List Ent} (b : Nat) (T : TypeId) (cl : Client) (s : CSl) (serv : Int) (hm : (b, cellsO (clientC cl s) T) ∈ L) (hc : SliceAt L encCred s.c cl.creds) :
    RO Tryz.prog 180 [.pointer (some ⟨b, 0, none⟩), I serv] L (I (credIdx cl serv)) := by
  refine Tri.of Tryz.func180 rfl rfl Tryz.ntmps180 rfl rfl ?_
  (repeat' (first | refine nX ?_ | (refine nA ?_; intro _) | (refine nW ?_; first | (refine op_call_id ?_; refine op_ro rfl rfl (by exact c_idxFuncimpl.Cred s.c cl.creds _ [_] (fun x => x.serv == serv) (hc.mono (by exact kS)) (fun x _ => c_cred1 x _ serv (by exact kM))) ?_)) | refine nY ?_ | refine nR ?_))
  refine ro_ret (by exact kR) (by exact kL) ?_; rfl
theorem credIdx_at {c : Client} {k : Nat} {y : Cred} (hy : c.creds[k]? = some y) : credIdx c y.serv = k ↔ y.serv ∉ (c.creds.take k).map Cred.serv := by
  rcases idx_cases (fun x : Cred => x.serv == y.serv) c.creds with ⟨h1, h2⟩ | ⟨j, z, h1, h2, h3, h4⟩
  · have := h2 y (List.mem_of_getElem? hy); simp at this
  · have e : credIdx c y.serv = j := h1
    rw [e]
    have h4' : y.serv ∉ (c.creds.take j).map Cred.serv := fun hm => by
      obtain ⟨u, hu, he⟩ := List.mem_map.1 hm
      have := h4 u hu; simp [he] at this
    rcases Nat.lt_trichotomy j k with hj | hj | hj
    · refine ⟨fun h => by omega, fun h => (h ?_).elim⟩
      have : z ∈ c.creds.take k := List.mem_take_iff_getElem.2 ⟨j, by have := (List.getElem?_eq_some_iff.1 h2).1; omega, (List.getElem?_eq_some_iff.1 h2).2⟩
      exact List.mem_map.2 ⟨z, this, by simpa using h3⟩
    · subst hj; exact ⟨fun _ => h4', fun _ => rfl⟩
    · exfalso
      have : y ∈ c.creds.take j := List.mem_take_iff_getElem.2 ⟨k, by have := (List.getElem?_eq_some_iff.1 hy).1; omega, (List.getElem?_eq_some_iff.1 hy).2⟩
      have := h4 y this; simp at this
theorem creds_stop {xs : List Cred} {k : Nat} {y : Cred} (hy : xs[k]? = some y) (h : credOk y = false ∨ y.serv ∈ (xs.take k).map Cred.serv) : credsOk xs = false := by
  rcases h with h | h
  · have : xs.all credOk = false := List.all_eq_false.2 ⟨y, List.mem_of_getElem? hy, by simp [h]⟩
    simp [credsOk, this]
  · have : ¬ (xs.map Cred.serv).Nodup := fun hn => by
      have hsplit : xs = xs.take k ++ y :: xs.drop (k + 1) := by rw [← drop_cons' hy, List.take_append_drop]
      rw [hsplit, List.map_append, List.map_cons, List.nodup_append] at hn
      exact hn.2.2 _ h _ List.mem_cons_self rfl
    simp [credsOk, this]
theorem creds_step {xs : List Cred} {k : Nat} {y : Cred} (hy : xs[k]? = some y) (h1 : credOk y = true) (h2 : y.serv ∉ (xs.take k).map Cred.serv) (hin : (∀ z ∈ xs.take k, credOk z = true) ∧ ((xs.take k).map Cred.serv).Nodup) : (∀ z ∈ xs.take (k + 1), credOk z = true) ∧ ((xs.take (k + 1)).map Cred.serv).Nodup := by
  rw [take_next hy]
  refine ⟨all_next hin.1 h1, ?_⟩
  rw [List.map_append, List.nodup_append]
  refine ⟨hin.2, by simp, fun a ha b hb e => ?_⟩
  simp only [List.map_cons, List.map_nil, List.mem_singleton] at hb
  exact h2 (hb ▸ e ▸ ha)
theorem met_stop {sent xs : List Call} {k : Nat} {y : Call} (hy : xs[k]? = some y) (h : y ∉ sent ∨ y ∈ xs.take k) : metOk sent xs = false := by
  rcases h with h | h
  · have : xs.all (fun x => decide (x ∈ sent)) = false := List.all_eq_false.2 ⟨y, List.mem_of_getElem? hy, by simp [h]⟩
    simp [metOk, this]
  · have : ¬ xs.Nodup := fun hn => by
      have hsplit : xs = xs.take k ++ y :: xs.drop (k + 1) := by rw [← drop_cons' hy, List.take_append_drop]
      rw [hsplit, List.nodup_append] at hn
      exact hn.2.2 y h y List.mem_cons_self rfl
    simp [metOk, this]
theorem met_step {sent xs : List Call} {k : Nat} {y : Call} (hy : xs[k]? = some y) (h1 : y ∈ sent) (h2 : y ∉ xs.take k) (hin : (∀ z ∈ xs.take k, z ∈ sent) ∧ (xs.take k).Nodup) : (∀ z ∈ xs.take (k + 1), z ∈ sent) ∧ (xs.take (k + 1)).Nodup := by
  rw [take_next hy]
  refine ⟨all_next hin.1 h1, ?_⟩
  rw [List.nodup_append]
  exact ⟨hin.2, by simp, fun a ha b hb e => h2 (by rw [List.mem_singleton.1 hb] at e; exact e ▸ ha)⟩
theorem cl_f1 {cl : Client} (h : wantsOk cl.num 0 cl.wants = false) : clientOk cl = false := by unfold clientOk; rw [h]; simp
theorem cl_f2 {cl : Client} (h : credsOk cl.creds = false) : clientOk cl = false := by unfold clientOk; rw [h]; simp
theorem cl_f3 {cl : Client} (h : sentOk cl.num 0 cl.sent = false) : clientOk cl = false := by unfold clientOk; rw [h]; simp
theorem cl_f4 {cl : Client} (h : metOk cl.sent cl.met = false) : clientOk cl = false := by unfold clientOk; rw [h]; simp
end Go.Proofs.YtoledfhjmdpihaaGreatDoor
/- Worlds whose parts are in order: whether they are ok, as the program tells. -/
set_option linter.unusedVariables false
set_option linter.unusedSectionVars false
set_option linter.unusedSimpArgs false
namespace Go.Proofs.YtoledfhjmdpihaaGreatDoor
open Go Go.Proofs Go.Proofs.YtoledfhjmdpihaaGreatDoor.VE
attribute [local irreducible] Val Op1 WO WR WA WC seqQ blockQ loopQ retQ
set_option maxHeartbeats 8000000
theorem nodup_take {X : Type} {xs : List X} (h : xs.Nodup) {k : Nat} {x : X} (hx : xs[k]? = some x) : x ∉ xs.take k := fun hm => by
  have hsplit : xs = xs.take k ++ x :: xs.drop (k + 1) := by rw [← drop_cons' hx, List.take_append_drop]
  rw [hsplit, List.nodup_append] at h
  exact h.2.2 x hm x List.mem_cons_self rfl
theorem pw_drop {X : Type} {r : X → X → Prop} {xs : List X} (h : xs.Pairwise r) {k : Nat} {x : X} (hx : xs[k]? = some x) : ∀ y ∈ xs.drop (k + 1), r x y := fun y hy => by
  have hsplit : xs = xs.take k ++ x :: xs.drop (k + 1) := by rw [← drop_cons' hx, List.take_append_drop]
  rw [hsplit, List.pairwise_append, List.pairwise_cons] at h
  exact h.2.1.1 y hy
/-- A world whose parts are in order, be it ok or not. -/
structure NOk (w : World) : Prop where
  kdc : KOk w.kdc
  sl : w.servs.length = 2
  ll : w.log.length ≤ 80
  cs : w.clients.length = 3 → ∀ (i : Nat) c, w.clients[i]? = some c → COk c ∧ c.id = i + 1
  ss : ∀ (i : Nat) s, w.servs[i]? = some s → SOk s
theorem WOk.n {w : World} (h : WOk w) : NOk w := ⟨h.kdc, h.sl, h.ll, fun _ => h.cs, fun i s hs => (h.ss i s hs).1⟩
theorem worldOk_t {w : World} (h : WOk w) : worldOk w = true := worldOk_iff.2 h
theorem worldOk_f {w : World} (h : ¬ WOk w) : worldOk w = false := by
  cases he : worldOk w with
  | false => rfl
  | true => exact absurd (worldOk_iff.1 he) h
theorem worldOk_log {w : World} (h : NOk w) (h1 : 0 ≤ w.now ∧ w.now ≤ 100) (h2 : w.clients.length = 3) (h3 : 0 ≤ w.bad ∧ w.bad ≤ 3) (h4 : ∀ (i : Nat) s, w.servs[i]? = some s → s.id = i + 4) : worldOk w = w.log.all msgOk := by
  rw [Bool.eq_iff_iff, worldOk_iff, List.all_eq_true]
  exact ⟨fun h => h.ms, fun hm => ⟨h1, h.kdc, h2, h.sl, h.ll, h3, h.cs h2, fun i s hs => ⟨h.ss i s hs, h4 i s hs⟩, hm⟩⟩
section
variable {L : List Ent} (w : World) (kc : Sl) (ac av al : Option Addr) (nc nv nl cc cv cl : Nat) (ps : List (Client × CSl)) (ss : List (Serv × (Sl × Sl))) (ms : List (Msg × Sl)) (hat : WldAt L w ⟨kc, ⟨ac, nc, cc⟩, ⟨av, nv, cv⟩, ⟨al, nl, cl⟩⟩ ps ss ms) (hn : NOk w)
include hat hn
end
end Go.Proofs.YtoledfhjmdpihaaGreatDoor
/- Worlds that are ok: what happens in them, all seals that were sent. -/
set_option linter.unusedVariables false
set_option linter.unusedSectionVars false
set_option linter.unusedSimpArgs false
namespace Go.Proofs.YtoledfhjmdpihaaGreatDoor
open Go Go.Proofs Go.Proofs.YtoledfhjmdpihaaGreatDoor.VE
attribute [local irreducible] Val Op1 WO WR WA WC seqQ blockQ loopQ retQ
set_option maxHeartbeats 8000000
/-- Where a service, a user, a word of a world that is ok lies. -/
theorem srv_get {L : List Ent} {w : World} {kc cs sl ls : Sl} {ps : List (Client × CSl)} {ss : List (Serv × (Sl × Sl))} {ms : List (Msg × Sl)} (h : WldAt L w ⟨kc, cs, sl, ls⟩ ps ss ms) (hok : WOk w) {k : Nat} {v : Serv} (hk : w.servs[k]? = some v) :
    ∃ g o cc T fr cap sc st, sl = ⟨some ⟨g, o, none⟩, 2, cap⟩ ∧ (g, Obj.cells cc.toArray T fr) ∈ L ∧ takeC cc (o + k * 4) 4 = some (servC v sc st) ∧ SrvAt L (v, sc, st) := by
  have hsl : ss.length = 2 := by rw [← List.length_map (f := Prod.fst), h.se]; exact hok.sl
  rw [← h.se, List.getElem?_map, Option.map_eq_some_iff] at hk
  obtain ⟨⟨v, sc, st⟩, hy, he⟩ := hk
  obtain ⟨a, n, c⟩ := sl
  obtain ⟨hn, hc, hb, hat⟩ := h.sr
  dsimp only at hn hat he
  obtain ⟨g, o, cc, T, fr, ha, hm, hrow⟩ := hat (by omega)
  have hrow' := hrow _ _ hy
  have hva := h.sa _ (List.mem_of_getElem? hy)
  rw [← he]
  exact ⟨g, o, cc, T, fr, c, sc, st, by rw [ha, hn, hsl], hm, hrow', hva⟩
theorem srv_at {L : List Ent} {w : World} {kc cs sl ls : Sl} {ps : List (Client × CSl)} {ss : List (Serv × (Sl × Sl))} {ms : List (Msg × Sl)} (h : WldAt L w ⟨kc, cs, sl, ls⟩ ps ss ms) (hok : WOk w) {id : Int} (hi : 4 ≤ id ∧ id ≤ 5) :
    ∃ g o cc T fr cap sc st, sl = ⟨some ⟨g, o, none⟩, 2, cap⟩ ∧ (g, Obj.cells cc.toArray T fr) ∈ L ∧ takeC cc (o + (id - 4).toNat * 4) 4 = some (servC (servOf w id) sc st) ∧ SrvAt L (servOf w id, sc, st) := srv_get h hok (servOf_get hok hi)
theorem cli_get {L : List Ent} {w : World} {kc cs sl ls : Sl} {ps : List (Client × CSl)} {ss : List (Serv × (Sl × Sl))} {ms : List (Msg × Sl)} (h : WldAt L w ⟨kc, cs, sl, ls⟩ ps ss ms) (hok : WOk w) {k : Nat} {v : Client} (hk : w.clients[k]? = some v) :
    ∃ g o cc T fr cap s, cs = ⟨some ⟨g, o, none⟩, 3, cap⟩ ∧ (g, Obj.cells cc.toArray T fr) ∈ L ∧ takeC cc (o + k * 6) 6 = some (clientC v s) ∧ CliAt L (v, s) := by
  have hsl : ps.length = 3 := by rw [← List.length_map (f := Prod.fst), h.pe]; exact hok.cl
  rw [← h.pe, List.getElem?_map, Option.map_eq_some_iff] at hk
  obtain ⟨⟨v, s⟩, hy, he⟩ := hk
  obtain ⟨a, n, c⟩ := cs
  obtain ⟨hn, hc, hb, hat⟩ := h.pr
  dsimp only at hn hat he
  obtain ⟨g, o, cc, T, fr, ha, hm, hrow⟩ := hat (by omega)
  have hrow' := hrow _ _ hy
  have hva := h.pa _ (List.mem_of_getElem? hy)
  rw [← he]
  exact ⟨g, o, cc, T, fr, c, s, by rw [ha, hn, hsl], hm, hrow', hva⟩
theorem cli_at {L : List Ent} {w : World} {kc cs sl ls : Sl} {ps : List (Client × CSl)} {ss : List (Serv × (Sl × Sl))} {ms : List (Msg × Sl)} (h : WldAt L w ⟨kc, cs, sl, ls⟩ ps ss ms) (hok : WOk w) {id : Int} (hi : 1 ≤ id ∧ id ≤ 3) :
    ∃ g o cc T fr cap s, cs = ⟨some ⟨g, o, none⟩, 3, cap⟩ ∧ (g, Obj.cells cc.toArray T fr) ∈ L ∧ takeC cc (o + (id - 1).toNat * 6) 6 = some (clientC (clientOf w id) s) ∧ CliAt L (clientOf w id, s) := cli_get h hok (clientOf_get hok hi)
theorem msg_at {L : List Ent} {w : World} {kc cs sl : Sl} {a : Option Addr} {n c : Nat} {ps : List (Client × CSl)} {ss : List (Serv × (Sl × Sl))} {ms : List (Msg × Sl)} (h : WldAt L w ⟨kc, cs, sl, ⟨a, n, c⟩⟩ ps ss ms) {k : Nat} {m : Msg} (hk : w.log[k]? = some m) :
    ∃ g o cc T fr sm, a = some ⟨g, o, none⟩ ∧ (g, Obj.cells cc.toArray T fr) ∈ L ∧ takeC cc (o + k * 5) 5 = some (msgC m sm) ∧ MsgAt L m sm := by
  rw [← h.me, List.getElem?_map, Option.map_eq_some_iff] at hk
  obtain ⟨⟨v, sm⟩, hy, he⟩ := hk
  obtain ⟨hn, hc, hb, hat⟩ := h.mr
  dsimp only at hn hat he
  have hlt := (List.getElem?_eq_some_iff.1 hy).1
  obtain ⟨g, o, cc, T, fr, ha, hm, hrow⟩ := hat (by omega)
  have hrow' := hrow _ _ hy
  have hva := h.ma _ (List.mem_of_getElem? hy)
  rw [← he]
  exact ⟨g, o, cc, T, fr, sm, ha, hm, hrow', hva⟩
theorem log_len {L : List Ent} {w : World} {kc cs sl : Sl} {a : Option Addr} {n c : Nat} {ps : List (Client × CSl)} {ss : List (Serv × (Sl × Sl))} {ms : List (Msg × Sl)} (h : WldAt L w ⟨kc, cs, sl, ⟨a, n, c⟩⟩ ps ss ms) : n = w.log.length := by
  have h1 := h.mr.1
  dsimp only at h1
  rw [h1, ← List.length_map (f := Prod.fst), h.me]
theorem log_all {L : List Ent} {w : World} {kc cs sl : Sl} {a : Option Addr} {n c : Nat} {ps : List (Client × CSl)} {ss : List (Serv × (Sl × Sl))} {ms : List (Msg × Sl)} (h : WldAt L w ⟨kc, cs, sl, ⟨a, n, c⟩⟩ ps ss ms) (hp : 0 < w.log.length) :
    ∃ g o cc T fr, a = some ⟨g, o, none⟩ ∧ (g, Obj.cells cc.toArray T fr) ∈ L ∧ ∀ (k : Nat) m, w.log[k]? = some m → ∃ sm, takeC cc (o + k * 5) 5 = some (msgC m sm) ∧ MsgAt L m sm := by
  have hl : ms.length = w.log.length := by rw [← h.me]; simp
  obtain ⟨hn, hc, hb, hat⟩ := h.mr
  dsimp only at hn hat
  obtain ⟨g, o, cc, T, fr, ha, hm, hrow⟩ := hat (by omega)
  refine ⟨g, o, cc, T, fr, ha, hm, fun k m hk => ?_⟩
  rw [← h.me, List.getElem?_map, Option.map_eq_some_iff] at hk
  obtain ⟨⟨v, sm⟩, hy, rfl⟩ := hk
  exact ⟨sm, hrow _ _ hy, h.ma _ (List.mem_of_getElem? hy)⟩
/-- A world that is new, with its number of words. -/
def WldU (L0 : List Ent) (w : World) (v : Value) (L' : List Ent) : Prop := ∃ kc cs sv al cl ps ss ms ek ec ca es sa el la, v = worldV w ⟨kc, cs, sv, ⟨al, w.log.length, cl⟩⟩ ∧ WldOwn w ⟨kc, cs, sv, ⟨al, w.log.length, cl⟩⟩ ps ss ms ek ec ca es sa el la ∧ L' = wldE ek ec ca es sa el la ++ L0
theorem WldV.u {L0 : List Ent} {w : World} {v : Value} {L' : List Ent} (h : WldV L0 w v L') : WldU L0 w v L' := by
  obtain ⟨⟨kc, cs, sv, ⟨al, nl, cl⟩⟩, ps, ss, ms, ek, ec, ca, es, sa, el, la, rfl, ho, rfl⟩ := h
  have hl := log_len ho.at
  subst hl
  exact ⟨kc, cs, sv, al, cl, ps, ss, ms, ek, ec, ca, es, sa, el, la, rfl, ho, rfl⟩
end Go.Proofs.YtoledfhjmdpihaaGreatDoor
/- Worlds that are ok: a user meets a service. -/
set_option linter.unusedVariables false
set_option linter.unusedSectionVars false
set_option linter.unusedSimpArgs false
namespace Go.Proofs.YtoledfhjmdpihaaGreatDoor
open Go Go.Proofs Go.Proofs.YtoledfhjmdpihaaGreatDoor.VE
attribute [local irreducible] Val Op1 WO WR WA WC seqQ blockQ loopQ retQ
set_option maxHeartbeats 8000000
theorem asks_step {w : World} {k a b : Int} (hk : k = 1 ∨ k = 2 ∨ k = 3) : asks w k a b = step w ⟨k, a, b, Msg.zero⟩ := by
  unfold step; rw [if_pos hk]
theorem bring_step (w : World) (n : Int) : bring w n = step w ⟨4, n, 0, Msg.zero⟩ := by simp [step]
theorem asks_took {w : World} {k a b : Int} {n : Nat} (hk : k = 1 ∨ k = 2 ∨ k = 3) (h : TookLe n w) : TookLe (n + 1) (asks w k a b) := by rw [asks_step hk]; exact took_step h
theorem bring_took {w : World} {n : Nat} {i : Int} (h : TookLe n w) : TookLe (n + 1) (bring w i) := by rw [bring_step]; exact took_step h
theorem last_took {w : World} {n i : Nat} (h : TookLe n w) : TookLe (n + 1) (last i w) := by
  unfold last
  split
  · exact bring_took h
  · exact h.up (by omega)
theorem phase_took {w : World} {k a b : Int} {n : Nat} (hk : k = 1 ∨ k = 2 ∨ k = 3) (h : TookLe n w) : TookLe (n + 3) (phase w k a b) := last_took (last_took (asks_took hk h))
theorem tick_took {w : World} {n : Nat} (h : TookLe n w) : TookLe n (tick w) := h.same rfl
theorem meet_took {w : World} {a b : Int} {n : Nat} (h : TookLe n w) : TookLe (n + 9) (meet w a b) := by
  have h1 := phase_took (k := 1) (a := a) (b := b) (.inl rfl) (tick_took h)
  have h2 := phase_took (k := 2) (a := a) (b := b) (.inr (.inl rfl)) h1
  have h3 := phase_took (k := 3) (a := a) (b := b) (.inr (.inr rfl)) h2
  exact h3
theorem phase_0 {w x : World} {k a b : Int} (h : asks w k a b = x) (h1 : grew w x = false) : phase w k a b = x := by
  simp only [decide_eq_false_iff_not] at h1
  unfold phase; rw [h, last_none (n := w.log.length) (by omega), last_none (by omega)]
theorem phase_1 {w x y : World} {k a b : Int} (h : asks w k a b = x) (h1 : grew w x = true) (h2 : bring x ((x.log.length : Int) - 1) = y) (h3 : grew x y = false) : phase w k a b = y := by
  have hl := asks_log w k a b
  rw [h] at hl
  simp only [decide_eq_false_iff_not, decide_eq_true_eq] at h1 h3
  have hly := bring_log x ((x.log.length : Int) - 1)
  rw [h2] at hly
  unfold phase; rw [h]
  have e : last w.log.length x = y := by unfold last; rw [if_pos (by omega), h2]
  rw [e, last_none (by omega)]
theorem phase_2 {w x y z : World} {k a b : Int} (h : asks w k a b = x) (h1 : grew w x = true) (h2 : bring x ((x.log.length : Int) - 1) = y) (h3 : grew x y = true) (h4 : bring y ((y.log.length : Int) - 1) = z) : phase w k a b = z := by
  have hl := asks_log w k a b
  rw [h] at hl
  simp only [decide_eq_true_eq] at h1 h3
  unfold phase; rw [h]
  have e : last w.log.length x = y := by unfold last; rw [if_pos (by omega), h2]
  rw [e]
  unfold last; rw [if_pos (by omega), h4]
def WldRU (L0 : List Ent) (bw : Nat) (w : World) (L' : List Ent) : Prop := ∃ kc cs sv al cl ps ss ms ek ec ca es sa el la, WldOwn w ⟨kc, cs, sv, ⟨al, w.log.length, cl⟩⟩ ps ss ms ek ec ca es sa el la ∧ L' = (bw, cellsO (worldC w ⟨kc, cs, sv, ⟨al, w.log.length, cl⟩⟩) 62) :: (wldE ek ec ca es sa el la ++ L0)
theorem WldR.u {L0 : List Ent} {bw : Nat} {w : World} {L' : List Ent} (h : WldR L0 bw w L') : WldRU L0 bw w L' := by
  obtain ⟨⟨kc, cs, sv, ⟨al, nl, cl⟩⟩, ps, ss, ms, ek, ec, ca, es, sa, el, la, ho, rfl⟩ := h
  have hl := log_len ho.at
  subst hl
  exact ⟨kc, cs, sv, al, cl, ps, ss, ms, ek, ec, ca, es, sa, el, la, ho, rfl⟩
theorem c_asksP {L L0 : List Ent} (bw : Nat) (w : World) (q : WSl) (ps : List (Client × CSl)) (ss : List (Serv × (Sl × Sl))) (ms : List (Msg × Sl)) (ek ec ca es sa el la : List Ent) (hL : L.Perm ((bw, cellsO (worldC w q) 62) :: (wldE ek ec ca es sa el la ++ L0))) (hw : WOk w) (hown : WldOwn w q ps ss ms ek ec ca es sa el la) (k a b : Int) {x : World} (hx : asks w k a b = x) {g : Bool} (hg : grew w x = g) :
    Tri Tryz.prog 97 [.pointer (some ⟨bw, 0, none⟩), eventV ⟨k, a, b, Msg.zero⟩ Sl.nil] L (fun v L' => v = B g ∧ WldRU L0 bw x L') := by
  subst hx hg; exact ((c_asks bw w q ps ss ms ek ec ca es sa el la hw hown ⟨k, a, b, Msg.zero⟩ Sl.nil).perm hL).mono fun v L' ⟨h1, h2⟩ => ⟨h1, h2.u⟩
theorem c_bringP {L L0 : List Ent} (bw : Nat) (w : World) (q : WSl) (ps : List (Client × CSl)) (ss : List (Serv × (Sl × Sl))) (ms : List (Msg × Sl)) (ek ec ca es sa el la : List Ent) (hL : L.Perm ((bw, cellsO (worldC w q) 62) :: (wldE ek ec ca es sa el la ++ L0))) (hw : WOk w) (hte : TookLe 1500000 w) (hown : WldOwn w q ps ss ms ek ec ca es sa el la) (n : Int) {x : World} (hx : bring w n = x) {g : Bool} (hg : grew w x = g) :
    Tri Tryz.prog 98 [.pointer (some ⟨bw, 0, none⟩), I n] L (fun v L' => v = B g ∧ WldRU L0 bw x L') := by
  subst hx hg; exact ((c_bring bw w q ps ss ms ek ec ca es sa el la hw hown n (fun s hs => by have := hte s hs; simp only [lim]; omega)).perm hL).mono fun v L' ⟨h1, h2⟩ => ⟨h1, h2.u⟩
def meetK (w : World) (a b : Int) (ks : List Int) : World := ks.foldl (fun v k => phase v k a b) (tick w)
theorem meetK_snoc (w : World) (a b : Int) (ks : List Int) (k : Int) : meetK w a b (ks ++ [k]) = phase (meetK w a b ks) k a b := by simp [meetK]
abbrev kinds3 : List Int := [1, 2, 3]
theorem meetK_all (w : World) (a b : Int) : meetK w a b kinds3 = meet w a b := rfl
/-- What one has behind some rounds. -/
structure MeetIn (w : World) (a b : Int) (k : Nat) (x : World) : Prop where
  eq : x = meetK w a b (kinds3.take k)
  ok : WOk x
  took : TookLe (1499900 + 3 * k) x
theorem MeetIn.next {w x y : World} {a b : Int} {k : Nat} (h : MeetIn w a b k x) {c : Int} (hc : kinds3[k]? = some c) (hc3 : c = 1 ∨ c = 2 ∨ c = 3) (hy : phase x c a b = y) : MeetIn w a b (k + 1) y := by
  subst hy
  refine ⟨by rw [take_next hc, meetK_snoc, ← h.eq], phase_ok h.ok, ?_⟩
  have := phase_took (k := c) (a := a) (b := b) hc3 h.took
  rwa [show 1499900 + 3 * (k + 1) = 1499900 + 3 * k + 3 by omega]
theorem c_meetIn {L0 : List Ent} (bw : Nat) (w : World) (q : WSl) (ps : List (Client × CSl)) (ss : List (Serv × (Sl × Sl))) (ms : List (Msg × Sl)) (ek ec ca es sa el la : List Ent) (hw : WOk w) (hte : TookLe 1499900 w) (hown : WldOwn w q ps ss ms ek ec ca es sa el la) (a b : Int) :
    Tri Tryz.prog 67 [.pointer (some ⟨bw, 0, none⟩), I a, I b] ((bw, cellsO (worldC w q) 62) :: (wldE ek ec ca es sa el la ++ L0)) (fun v L' => v = .tuple #[] ∧ WldR L0 bw (meet w a b) L') := by
  have hnow := hw.now
  have htown : WldOwn (tick w) q ps ss ms ek ec ca es sa el la := ⟨hown.kc, hown.pe, hown.pr, hown.pa, hown.se, hown.sr, hown.sa, hown.me, hown.mr, hown.ma⟩
  have hin0 : MeetIn w a b 0 (tick w) := ⟨rfl, tick_ok hw, tick_took hte⟩
  obtain ⟨w0, hw0⟩ : ∃ x, tick w = x := ⟨_, rfl⟩
  have htick := c_tick (L := wldE ek ec ca es sa el la ++ L0) bw w q hnow
  rw [hw0] at htown hin0 htick
  clear hw0
  have hk3l : kinds3.length = 3 := rfl
  refine Tri.of Tryz.func67 rfl rfl Tryz.ntmps67 rfl rfl ?_
  (repeat' (first | refine nI ?_ | (refine nA ?_; intro _) | (refine nW ?_; first | (refine op_call_id ?_; refine op_call rfl (htick) rfl ?_; rintro _ _ ⟨rfl, rfl⟩)) | refine nY ?_ | refine nR ?_ | refine WC_cond rfl (fun hc => ?_) (fun hc => ?_)))
  rename_i b4
  refine WC_loop (fun mz Ez Mz => ∃ (k : Nat) (x : World) (q : WSl) (ps : List (Client × CSl)) (ss : List (Serv × (Sl × Sl))) (ms : List (Msg × Sl)) (ek ec ca es sa el la : List Ent), k + mz = (kinds3).length ∧ Ez = [(0, .pointer (some ⟨bw, 0, none⟩)), (1, I a), (2, I b), (10, .slice (some ⟨b4, 0, none⟩) 3 3), (11, I 3), (12, I k)] ∧ Mz = (bw, cellsO (worldC x q) 62) :: (b4, cellsO [I 1, I 2, I 3] 3) :: (wldE ek ec ca es sa el la ++ L0) ∧ (MeetIn w a b k x ∧ WldOwn x q ps ss ms ek ec ca es sa el la)) (kinds3).length (by exact kQ) (by exact kL) ⟨0, w0, q, ps, ss, ms, ek, ec, ca, es, sa, el, la, by omega, rfl, rfl, by exact ⟨hin0, htown⟩⟩ ?_
  rintro mz Ez Mz ⟨k, x, q, ps, ss, ms, ek, ec, ca, es, sa, el, la, hk, rfl, rfl, hin⟩
  rcases Nat.lt_or_ge k (kinds3).length with hlt | hge
  · obtain ⟨hmi, hown⟩ := hin
    obtain ⟨c, hc⟩ : ∃ c, kinds3[k]? = some c := ⟨_, List.getElem?_eq_getElem hlt⟩
    have hcm : c = 1 ∨ c = 2 ∨ c = 3 := by have := List.mem_of_getElem? hc; simpa using this
    have hk3 : k < 3 := hlt
    have htk := hmi.took.up (m := 1499909) (by omega)
    have hlit : takeC [I 1, I 2, I 3] (0 + k * 1) 1 = some [I c] := by
      have h3 : k = 0 ∨ k = 1 ∨ k = 2 := by omega
      rcases h3 with rfl | rfl | rfl <;> (simp at hc; subst hc; rfl)
    obtain ⟨x1, hx1⟩ : ∃ x1, asks x c a b = x1 := ⟨_, rfl⟩
    have ok1 : WOk x1 := hx1 ▸ asks_ok hmi.ok
    have tk1 : TookLe 1499910 x1 := hx1 ▸ asks_took hcm htk
    cases g1 : grew x x1 with
    | false =>
      have hmi2 := hmi.next hc hcm (phase_0 hx1 g1)
      (repeat' (first | refine nI ?_ | (refine nA ?_; intro _) | (refine nW ?_; first | (refine op_call_id ?_; refine op_call rfl (c_asksP bw x q ps ss ms ek ec ca es sa el la (front2 (by exact kF) (by exact kE)) hmi.ok hown c a b hx1 g1) rfl ?_; rintro _ _ ⟨rfl, kc1, cs1, sv1, al1, cl1, ps1, ss1, ms1, ek1, ec1, ca1, es1, sa1, el1, la1, ho1, rfl⟩)) | refine nY ?_ | refine nR ?_ | refine WC_cond rfl (fun hc => ?_) (fun hc => ?_)))
      exact loopQ_next ⟨mz - 1, _, _, by omega, by exact kQ, by exact kL, k + 1, x1, ⟨kc1, cs1, sv1, ⟨al1, x1.log.length, cl1⟩⟩, ps1, ss1, ms1, ek1, ec1, ca1, es1, sa1, el1, la1, by omega, rfl, rfl, by exact ⟨hmi2, ho1⟩⟩
    | true =>
      obtain ⟨x2, hx2⟩ : ∃ x2, bring x1 ((x1.log.length : Int) - 1) = x2 := ⟨_, rfl⟩
      have ok2 : WOk x2 := hx2 ▸ bring_ok ok1
      have tk2 : TookLe 1499911 x2 := hx2 ▸ bring_took tk1
      have l1 := ok1.ll
      have l2 := ok2.ll
      cases g2 : grew x1 x2 with
      | false =>
        have hmi2 := hmi.next hc hcm (phase_1 hx1 g1 hx2 g2)
        (repeat' (first | refine nI ?_ | (refine nA ?_; intro _) | (refine nW ?_; first | (refine op_call_id ?_; refine op_call rfl (c_asksP bw x q ps ss ms ek ec ca es sa el la (front2 (by exact kF) (by exact kE)) hmi.ok hown c a b hx1 g1) rfl ?_; rintro _ _ ⟨rfl, kc1, cs1, sv1, al1, cl1, ps1, ss1, ms1, ek1, ec1, ca1, es1, sa1, el1, la1, ho1, rfl⟩) | (refine op_call_id ?_; refine op_call rfl (c_bringP bw x1 _ ps1 ss1 ms1 ek1 ec1 ca1 es1 sa1 el1 la1 (front2 (by exact kF) (by exact kE)) ok1 (tk1.up (by omega)) ho1 _ hx2 g2) rfl ?_; rintro _ _ ⟨rfl, kc2, cs2, sv2, al2, cl2, ps2, ss2, ms2, ek2, ec2, ca2, es2, sa2, el2, la2, ho2, rfl⟩)) | refine nY ?_ | refine nR ?_ | refine WC_cond rfl (fun hc => ?_) (fun hc => ?_)))
        exact loopQ_next ⟨mz - 1, _, _, by omega, by exact kQ, by exact kL, k + 1, x2, ⟨kc2, cs2, sv2, ⟨al2, x2.log.length, cl2⟩⟩, ps2, ss2, ms2, ek2, ec2, ca2, es2, sa2, el2, la2, by omega, rfl, rfl, by exact ⟨hmi2, ho2⟩⟩
      | true =>
        obtain ⟨x3, hx3⟩ : ∃ x3, bring x2 ((x2.log.length : Int) - 1) = x3 := ⟨_, rfl⟩
        have hmi2 := hmi.next hc hcm (phase_2 hx1 g1 hx2 g2 hx3)
        obtain ⟨g3, hg3⟩ : ∃ g, grew x2 x3 = g := ⟨_, rfl⟩
        (repeat' (first | refine nI ?_ | (refine nA ?_; intro _) | (refine nW ?_; first | (refine op_call_id ?_; refine op_call rfl (c_asksP bw x q ps ss ms ek ec ca es sa el la (front2 (by exact kF) (by exact kE)) hmi.ok hown c a b hx1 g1) rfl ?_; rintro _ _ ⟨rfl, kc1, cs1, sv1, al1, cl1, ps1, ss1, ms1, ek1, ec1, ca1, es1, sa1, el1, la1, ho1, rfl⟩) | (refine op_call_id ?_; refine op_call rfl (c_bringP bw x1 _ ps1 ss1 ms1 ek1 ec1 ca1 es1 sa1 el1 la1 (front2 (by exact kF) (by exact kE)) ok1 (tk1.up (by omega)) ho1 _ hx2 g2) rfl ?_; rintro _ _ ⟨rfl, kc2, cs2, sv2, al2, cl2, ps2, ss2, ms2, ek2, ec2, ca2, es2, sa2, el2, la2, ho2, rfl⟩) | (refine op_call_id ?_; refine op_call rfl (c_bringP bw x2 _ ps2 ss2 ms2 ek2 ec2 ca2 es2 sa2 el2 la2 (front2 (by exact kF) (by exact kE)) ok2 (tk2.up (by omega)) ho2 _ hx3 hg3) rfl ?_; rintro _ _ ⟨rfl, kc3, cs3, sv3, al3, cl3, ps3, ss3, ms3, ek3, ec3, ca3, es3, sa3, el3, la3, ho3, rfl⟩)) | refine nY ?_ | refine nR ?_ | refine WC_cond rfl (fun hc => ?_) (fun hc => ?_)))
        exact loopQ_next ⟨mz - 1, _, _, by omega, by exact kQ, by exact kL, k + 1, x3, ⟨kc3, cs3, sv3, ⟨al3, x3.log.length, cl3⟩⟩, ps3, ss3, ms3, ek3, ec3, ca3, es3, sa3, el3, la3, by omega, rfl, rfl, by exact ⟨hmi2, ho3⟩⟩
  · obtain ⟨hmi, hown⟩ := hin
    have hxe : x = meet w a b := by rw [hmi.eq, take_all hge]; rfl
    subst hxe
    (repeat' (first | refine nI ?_ | (refine nA ?_; intro _) | refine nY ?_ | refine nR ?_ | refine WC_cond rfl (fun hc => ?_) (fun hc => ?_)))
    refine ret_normal (by exact kR) ?_; exact ⟨(bw, cellsO (worldC (meet w a b) q) 62) :: (wldE ek ec ca es sa el la ++ L0), by exact kP, rfl, q, ps, ss, ms, ek, ec, ca, es, sa, el, la, hown, rfl⟩
end Go.Proofs.YtoledfhjmdpihaaGreatDoor
/- Worlds that are ok: the keys to which who hears all comes. -/
set_option linter.unusedVariables false
set_option linter.unusedSectionVars false
set_option linter.unusedSimpArgs false
namespace Go.Proofs.YtoledfhjmdpihaaGreatDoor
open Go Go.Proofs Go.Proofs.YtoledfhjmdpihaaGreatDoor.VE
attribute [local irreducible] Val Op1 WO WR WA WC seqQ blockQ loopQ retQ
noncomputable def o68x4N5 : Array Oper := cops (cl (cl (cl (cr (cr (cl (cl (cr (cl (cr (cr (codeOf Tryz.f68))))))))))))
noncomputable def r68x4N5 : Run := (.st 0 0 (.st 1 0 (.st 2 0 (.st 3 1 (.st 4 0 (.st 5 0 .done))))))
set_option maxHeartbeats 8000000
theorem c_knowKeys {L : List Ent} (sk ss : Sl) (keys : List Int) (seals : List Seal) (hk : SliceAt L encInt sk keys) (hs : SliceAt L encSeal ss seals) :
    Tri Tryz.prog 68 [sk.v, ss.v] L (fun v L' => ∃ a c es, v = Sl.v ⟨a, (knowKeys keys seals).length, c⟩ ∧ Row encInt 3 ⟨a, (knowKeys keys seals).length, c⟩ (knowKeys keys seals) es ∧ L' = es ++ L) := by
  have hstep : ∀ k, k < 61 → ((List.range (k + 1)).map (fun k : Nat => (k : Int))).filter (comes keys seals) = ((List.range k).map (fun k : Nat => (k : Int))).filter (comes keys seals) ++ (if comes keys seals (k : Int) = true then [(k : Int)] else []) := fun k _ => by
    rw [List.range_succ, List.map_append, List.filter_append]
    simp only [List.map_cons, List.map_nil, List.filter_cons, List.filter_nil]
  have hl61 : (List.range 61).length = 61 := List.length_range
  refine Tri.of Tryz.func68 rfl rfl Tryz.ntmps68 rfl rfl ?_
  (repeat' (first | refine nI ?_ | (refine nA ?_; intro _) | (refine nW ?_; first | (refine op_makeSlice (l := 0) (c := 60) (e := 3) rfl rfl rfl rfl rfl rfl rfl rfl rfl rfl ?_; intro _) | (refine op_call_id ?_; refine op_call rfl (c_ringOf0 sk ss keys seals (hk.mono (by exact kS)) (hs.mono (by exact kS))) rfl ?_; rintro _ _ ⟨br, f, rfl, hf, hf0, rfl⟩)) | refine nY ?_ | refine WA_alt ?_ ?_ | refine nR ?_ | refine WC_drawL (id := 4) (ops := o68x4N5) r68x4N5 (by kernel_rfl) rfl ?_ | refine WC_cond rfl (fun hc => ?_) (fun hc => ?_)))
  rename_i b8
  refine WC_loop (fun mz Ez Mz => ∃ (k : Nat) (a2 : Option Addr) (n2 c2 : Nat) (eo : List Ent), k + mz = (List.range 61).length ∧ Ez = [(5, .slice a2 n2 c2), (11, .pointer (some ⟨br, 0, none⟩)), (12, I k)] ∧ Mz = (br, cellsO (ringC f) 167) :: (eo ++ L) ∧ (Row encInt 3 ⟨a2, n2, c2⟩ (((List.range k).map (fun k : Nat => (k : Int))).filter (comes keys seals)) eo)) (List.range 61).length (by exact kQ) (by exact kL) ⟨0, some ⟨b8, 0, none⟩, 0, 60, [(b8, cellsO (zerosOf [I 0] 60) 3)], by omega, rfl, rfl, by exact Row.made (E := encInt) rfl (by omega)⟩ ?_
  rintro mz Ez Mz ⟨k, a2, n2, c2, eo, hk, rfl, rfl, hin⟩
  rcases Nat.lt_or_ge k (List.range 61).length with hlt | hge
  · have hk' : (0 : Int) ≤ (k : Int) ∧ (k : Int) ≤ 60 := by omega
    have hg := ring_get f hk'
    have hlen := List.length_filter_le (comes keys seals) ((List.range k).map (fun k : Nat => (k : Int)))
    rw [List.length_map, List.length_range] at hlen
    have hfk : f ((k : Int)).toNat = comes keys seals (k : Int) := by
      rcases Nat.eq_zero_or_pos k with h0 | h0
      · subst h0
        have hc0 : comes keys seals ((0 : Nat) : Int) = false := (hf 0).symm.trans rfl
        rw [hc0]; exact hf0
      · rw [← hf (k : Int), within_iff.2 (show (1 : Int) ≤ (k : Int) ∧ (k : Int) ≤ 60 by omega)]; rfl
    rw [hfk] at hg
    cases hck : comes keys seals (k : Int) with
    | false =>
      rw [hck] at hg
      have hst := hstep k (by omega)
      rw [hck] at hst
      (repeat' (first | refine nI ?_ | (refine nA ?_; intro _) | (refine nW ?_; first | (refine op_load_id ?_; refine op_val rfl (by exact val_load1 rfl rfl rfl (by exact kM) hg) ?_)) | (refine WR_id ?_; refine WR_load rfl rfl rfl (by exact val_load1 rfl rfl rfl (by exact kM) hg) (by exact kS) ?_) | refine nY ?_ | refine WA_alt ?_ ?_ | refine nR ?_ | refine WC_drawL (id := 4) (ops := o68x4N5) r68x4N5 (by kernel_rfl) rfl ?_ | refine WC_cond rfl (fun hc => ?_) (fun hc => ?_)))
      exact loopQ_next ⟨mz - 1, _, _, by omega, by exact kQ, by exact kL, k + 1, a2, n2, c2, eo, by omega, rfl, rfl, by (rw [hst]; simpa using hin)⟩
    | true =>
      rw [hck] at hg
      have hst := hstep k (by omega)
      rw [hck, if_pos rfl] at hst
      (repeat' (first | refine nI ?_ | (refine nA ?_; intro _) | (refine nW ?_; first | (refine op_load_id ?_; refine op_val rfl (by exact val_load1 rfl rfl rfl (by exact kM) hg) ?_) | (refine go_append ?_; refine op_appendRow (sl := ⟨_, _, _⟩) (sx := ⟨_, _, _⟩) rfl rfl rfl rfl rfl rfl rfl rfl rfl (hin) (by exact kE) (SliceAt.one (x := (k : Int)) (by exact kM) rfl) (by (simp only [List.length_cons, List.length_nil, lim]; omega)) ?_; intro sl' es' hrow' hst')) | (refine WR_id ?_; refine WR_load rfl rfl rfl (by exact val_load1 rfl rfl rfl (by exact kM) hg) (by exact kS) ?_) | refine nY ?_ | refine WA_alt ?_ ?_ | refine nR ?_ | refine WC_drawL (id := 4) (ops := o68x4N5) r68x4N5 (by kernel_rfl) rfl ?_ | refine WC_cond rfl (fun hc => ?_) (fun hc => ?_)))
      obtain ⟨a9, n9, c9⟩ := sl'
      exact loopQ_next ⟨mz - 1, _, _, by omega, by exact kQ, by exact kL, k + 1, a9, n9, c9, es', by omega, rfl, rfl, by (rw [hst]; exact hrow')⟩
  · have hk61 : k = 61 := by omega
    subst hk61
    have hin2 : Row encInt 3 ⟨a2, n2, c2⟩ (knowKeys keys seals) eo := hin
    have hn2 := hin2.n
    dsimp only at hn2
    subst hn2
    have hcap := hin2.1.le_cap
    dsimp only at hcap
    obtain ⟨f1, hf1, hq1⟩ := hin2.clip
    (repeat' (first | refine nI ?_ | (refine nA ?_; intro _) | refine nY ?_ | refine WA_alt ?_ ?_ | refine nR ?_ | refine WC_drawL (id := 4) (ops := o68x4N5) r68x4N5 (by kernel_rfl) rfl ?_ | refine WC_cond rfl (fun hc => ?_) (fun hc => ?_)))
    refine ret_ret (by exact kR) ?_; exact ⟨f1 ++ L, SubP.trans (M := eo ++ L) (by exact kP) (hf1 L), a2, _, f1, rfl, hq1, rfl⟩
end Go.Proofs.YtoledfhjmdpihaaGreatDoor
