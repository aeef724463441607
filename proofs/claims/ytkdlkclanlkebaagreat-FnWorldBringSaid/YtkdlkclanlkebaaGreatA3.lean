/- Worlds stay in order, whatever happens. -/
import Derived.Test.YtkdlkclanlkebaaGreatA2
set_option linter.unusedVariables false
set_option linter.unusedSimpArgs false
namespace Go.Proofs.YtkdlkclanlkebaaGreat

theorem within_iff {n a b : Int} : within n a b = true ↔ a ≤ n ∧ n ≤ b := by simp [within]
theorem within_false {n a b : Int} : within n a b = false ↔ ¬ (a ≤ n ∧ n ≤ b) := by rw [← within_iff]; simp

/-! ### What is in order, as a list of facts -/
theorem wantsOk_iff (num : Int) : ∀ (ws : List Want) (last : Int), wantsOk num last ws = true ↔ (∀ x ∈ ws, giverOk x.serv = true ∧ last < x.nonce ∧ x.nonce ≤ num) ∧ ws.Pairwise (fun x y => x.nonce < y.nonce)
  | [], last => by simp [wantsOk]
  | w :: r, last => by
    have e : within w.nonce (last + 1) num = true ↔ last + 1 ≤ w.nonce ∧ w.nonce ≤ num := within_iff
    simp only [wantsOk, Bool.and_eq_true]
    rw [e, wantsOk_iff num r w.nonce]
    simp only [List.forall_mem_cons, List.pairwise_cons]
    constructor
    · rintro ⟨⟨h1, h2, h3⟩, h4, h5⟩
      refine ⟨⟨⟨h1, by omega, h3⟩, fun x hx => ?_⟩, fun x hx => (h4 x hx).2.1, h5⟩
      have := h4 x hx
      exact ⟨this.1, by omega, this.2.2⟩
    · rintro ⟨⟨⟨h1, h2, h3⟩, h4⟩, h5, h6⟩
      exact ⟨⟨h1, by omega, h3⟩, fun x hx => ⟨(h4 x hx).1, h5 x hx, (h4 x hx).2.2⟩, h6⟩
def callOk (x : Call) : Bool := servOk x.peer && madeOk x.key && timeOk x.time
theorem sentOk_iff (num : Int) : ∀ (ws : List Call) (last : Int), sentOk num last ws = true ↔ (∀ x ∈ ws, callOk x = true ∧ last < x.num ∧ x.num ≤ num) ∧ ws.Pairwise (fun x y => x.num < y.num)
  | [], last => by simp [sentOk]
  | w :: r, last => by
    have e : within w.num (last + 1) num = true ↔ last + 1 ≤ w.num ∧ w.num ≤ num := within_iff
    have e2 : sentOk num last (w :: r) = (callOk w && within w.num (last + 1) num && sentOk num w.num r) := rfl
    rw [e2]
    simp only [Bool.and_eq_true]
    rw [e, sentOk_iff num r w.num]
    simp only [List.forall_mem_cons, List.pairwise_cons]
    constructor
    · rintro ⟨⟨h1, h2, h3⟩, h4, h5⟩
      refine ⟨⟨⟨h1, by omega, h3⟩, fun x hx => ?_⟩, fun x hx => (h4 x hx).2.1, h5⟩
      have := h4 x hx
      exact ⟨this.1, by omega, this.2.2⟩
    · rintro ⟨⟨⟨h1, h2, h3⟩, h4⟩, h5, h6⟩
      exact ⟨⟨h1, by omega, h3⟩, fun x hx => ⟨(h4 x hx).1, h5 x hx, (h4 x hx).2.2⟩, h6⟩
structure COk (c : Client) : Prop where
  id : 1 ≤ c.id ∧ c.id ≤ 3
  num : 0 ≤ c.num ∧ c.num ≤ 60
  wants : ∀ x ∈ c.wants, giverOk x.serv = true ∧ 0 < x.nonce ∧ x.nonce ≤ c.num
  wp : c.wants.Pairwise (fun x y => x.nonce < y.nonce)
  creds : ∀ x ∈ c.creds, credOk x = true
  cn : (c.creds.map Cred.serv).Nodup
  sent : ∀ x ∈ c.sent, callOk x = true ∧ 0 < x.num ∧ x.num ≤ c.num
  sp : c.sent.Pairwise (fun x y => x.num < y.num)
  met : ∀ x ∈ c.met, x ∈ c.sent
  mn : c.met.Nodup
theorem clientOk_iff {c : Client} : clientOk c = true ↔ COk c := by
  have e1 : userOk c.id = true ↔ 1 ≤ c.id ∧ c.id ≤ 3 := within_iff
  have e2 : within c.num 0 60 = true ↔ 0 ≤ c.num ∧ c.num ≤ 60 := within_iff
  simp only [clientOk, credsOk, metOk, Bool.and_eq_true, decide_eq_true_eq, List.all_eq_true]
  rw [e1, e2, wantsOk_iff, sentOk_iff]
  constructor
  · rintro ⟨⟨⟨⟨⟨h1, h2⟩, h3, h4⟩, h5, h6⟩, h7, h8⟩, h9, h10⟩
    exact ⟨h1, h2, h3, h4, h5, h6, h7, h8, h9, h10⟩
  · rintro ⟨h1, h2, h3, h4, h5, h6, h7, h8, h9, h10⟩
    exact ⟨⟨⟨⟨⟨h1, h2⟩, h3, h4⟩, h5, h6⟩, h7, h8⟩, h9, h10⟩
structure AOk (xs : List Seal) : Prop where
  all : ∀ s ∈ xs, authOk s = true
  nd : xs.Nodup
  len : xs.length ≤ 20
theorem cacheOk_iff {xs : List Seal} : cacheOk xs = true ↔ AOk xs := by
  simp only [cacheOk, Bool.and_eq_true, decide_eq_true_eq, List.all_eq_true]
  exact ⟨fun ⟨⟨h1, h2⟩, h3⟩ => ⟨h1, h2, h3⟩, fun ⟨h1, h2, h3⟩ => ⟨⟨h1, h2⟩, h3⟩⟩
structure KOk (k : Kdc) : Prop where
  next : 10 ≤ k.next ∧ k.next ≤ 61
  cache : AOk k.cache
theorem kdcOk_iff {k : Kdc} : kdcOk k = true ↔ KOk k := by
  have e : within k.next 10 61 = true ↔ 10 ≤ k.next ∧ k.next ≤ 61 := within_iff
  simp only [kdcOk, Bool.and_eq_true]
  rw [e, cacheOk_iff]
  exact ⟨fun ⟨h1, h2⟩ => ⟨h1, h2⟩, fun ⟨h1, h2⟩ => ⟨h1, h2⟩⟩
structure SOk (s : Serv) : Prop where
  id : 4 ≤ s.id ∧ s.id ≤ 5
  since : -1 ≤ s.since ∧ s.since ≤ 100
  cache : AOk s.cache
  took : ∀ x ∈ s.took, tookOk x = true
theorem servOk'_iff {s : Serv} : servOk' s = true ↔ SOk s := by
  have e1 : servOk s.id = true ↔ 4 ≤ s.id ∧ s.id ≤ 5 := within_iff
  have e2 : within s.since (-1) 100 = true ↔ -1 ≤ s.since ∧ s.since ≤ 100 := within_iff
  simp only [servOk', Bool.and_eq_true, List.all_eq_true]
  rw [e1, e2, cacheOk_iff]
  exact ⟨fun ⟨⟨⟨h1, h2⟩, h3⟩, h4⟩ => ⟨h1, h2, h3, h4⟩, fun ⟨h1, h2, h3, h4⟩ => ⟨⟨⟨h1, h2⟩, h3⟩, h4⟩⟩
theorem idsFrom_iff : ∀ (xs : List Int) (n : Int), idsFrom n xs = true ↔ ∀ (i : Nat) x, xs[i]? = some x → x = n + i
  | [], n => by simp [idsFrom]
  | y :: r, n => by
    simp only [idsFrom, Bool.and_eq_true, beq_iff_eq]
    rw [idsFrom_iff r (n + 1)]
    constructor
    · rintro ⟨h1, h2⟩ i x hx
      cases i with
      | zero => simp at hx; omega
      | succ i => have := h2 i x (by simpa using hx); omega
    · intro h
      refine ⟨by have := h 0 y rfl; omega, fun i x hx => ?_⟩
      have := h (i + 1) x (by simpa using hx)
      omega
structure WOk (w : World) : Prop where
  now : 0 ≤ w.now ∧ w.now ≤ 100
  kdc : KOk w.kdc
  cl : w.clients.length = 3
  sl : w.servs.length = 2
  ll : w.log.length ≤ 80
  bad : 0 ≤ w.bad ∧ w.bad ≤ 3
  cs : ∀ (i : Nat) c, w.clients[i]? = some c → COk c ∧ c.id = i + 1
  ss : ∀ (i : Nat) s, w.servs[i]? = some s → SOk s ∧ s.id = i + 4
  ms : ∀ m ∈ w.log, msgOk m = true
theorem all_get {X : Type} {p : X → Bool} {xs : List X} : xs.all p = true ↔ ∀ (i : Nat) x, xs[i]? = some x → p x = true := by
  rw [List.all_eq_true]
  constructor
  · intro h i x hx; exact h x (List.mem_of_getElem? hx)
  · intro h x hx
    obtain ⟨i, hi⟩ := List.getElem?_of_mem hx
    exact h i x hi
theorem worldOk_iff {w : World} : worldOk w = true ↔ WOk w := by
  have e1 : timeOk w.now = true ↔ 0 ≤ w.now ∧ w.now ≤ 100 := within_iff
  have e2 : within w.bad 0 3 = true ↔ 0 ≤ w.bad ∧ w.bad ≤ 3 := within_iff
  unfold worldOk
  simp only [Bool.and_eq_true, beq_iff_eq, decide_eq_true_eq]
  rw [e1, e2, kdcOk_iff, all_get (p := clientOk), all_get (p := servOk'), List.all_eq_true, idsFrom_iff, idsFrom_iff]
  constructor
  · rintro ⟨⟨⟨⟨⟨⟨⟨⟨⟨⟨h1, h2⟩, h3⟩, h4⟩, h5⟩, h6⟩, h7⟩, h8⟩, h9⟩, h10⟩, h11⟩
    refine ⟨h1, h2, h3, h4, h5, h6, fun i c hc => ⟨clientOk_iff.1 (h7 i c hc), ?_⟩, fun i s hs => ⟨servOk'_iff.1 (h9 i s hs), ?_⟩, h11⟩
    · have := h8 i c.id (by rw [List.getElem?_map, hc]; rfl); omega
    · have := h10 i s.id (by rw [List.getElem?_map, hs]; rfl); omega
  · intro h
    refine ⟨⟨⟨⟨⟨⟨⟨⟨⟨⟨h.now, h.kdc⟩, h.cl⟩, h.sl⟩, h.ll⟩, h.bad⟩, fun i c hc => clientOk_iff.2 (h.cs i c hc).1⟩, ?_⟩, fun i s hs => servOk'_iff.2 (h.ss i s hs).1⟩, ?_⟩, h.ms⟩
    · intro i x hx
      rw [List.getElem?_map, Option.map_eq_some_iff] at hx
      obtain ⟨c, hc, rfl⟩ := hx
      have := (h.cs i c hc).2; omega
    · intro i x hx
      rw [List.getElem?_map, Option.map_eq_some_iff] at hx
      obtain ⟨c, hc, rfl⟩ := hx
      have := (h.ss i c hc).2; omega

/-! ### Words -/
theorem msgOk_seals {m : Msg} (h : msgOk m = true) : ∀ s ∈ m.seals, sealOk s = true := by
  simp only [msgOk, Bool.and_eq_true, List.all_eq_true] at h
  exact h.2
theorem msgOk_shape {m : Msg} (h : msgOk m = true) :
    (m.kind = 1 ∧ (1 ≤ m.client ∧ m.client ≤ 3) ∧ m.serv = 0 ∧ (1 ≤ m.nonce ∧ m.nonce ≤ 60) ∧ m.seals.length = 0) ∨
    ((m.kind = 2 ∨ m.kind = 4) ∧ (1 ≤ m.client ∧ m.client ≤ 3) ∧ m.serv = 0 ∧ m.nonce = 0 ∧ m.seals.length = 2) ∨
    (m.kind = 3 ∧ m.client = 0 ∧ (4 ≤ m.serv ∧ m.serv ≤ 5) ∧ (1 ≤ m.nonce ∧ m.nonce ≤ 60) ∧ m.seals.length = 2) ∨
    (m.kind = 5 ∧ m.client = 0 ∧ (4 ≤ m.serv ∧ m.serv ≤ 5) ∧ m.nonce = 0 ∧ m.seals.length = 2) ∨
    (m.kind = 6 ∧ (1 ≤ m.client ∧ m.client ≤ 3) ∧ m.serv = 0 ∧ m.nonce = 0 ∧ m.seals.length = 1) := by
  simp only [msgOk, Bool.and_eq_true] at h
  have h1 := h.1
  unfold shaped at h1
  split at h1
  · rename_i hk
    simp only [Bool.and_eq_true, beq_iff_eq, within_iff] at h1
    exact .inl ⟨hk, h1.1.1.1, h1.1.1.2, h1.1.2, h1.2⟩
  split at h1
  · rename_i hk
    simp only [Bool.and_eq_true, beq_iff_eq, within_iff] at h1
    exact .inr (.inl ⟨hk, h1.1.1.1, h1.1.1.2, h1.1.2, h1.2⟩)
  split at h1
  · rename_i hk
    simp only [Bool.and_eq_true, beq_iff_eq, within_iff] at h1
    exact .inr (.inr (.inl ⟨hk, h1.1.1.1, h1.1.1.2, h1.1.2, h1.2⟩))
  split at h1
  · rename_i hk
    simp only [Bool.and_eq_true, beq_iff_eq, within_iff] at h1
    exact .inr (.inr (.inr (.inl ⟨hk, h1.1.1.1, h1.1.1.2, h1.1.2, h1.2⟩)))
  split at h1
  · rename_i hk
    simp only [Bool.and_eq_true, beq_iff_eq, within_iff] at h1
    exact .inr (.inr (.inr (.inr ⟨hk, h1.1.1.1, h1.1.1.2, h1.1.2, h1.2⟩)))
  · cases h1
theorem two_seals {m : Msg} (h : m.seals.length = 2) : m.seals = [sealAt m 0, sealAt m 1] := by
  match hs : m.seals, h with
  | [s0, s1], _ => simp [sealAt, hs]
theorem one_seal {m : Msg} (h : m.seals.length = 1) : m.seals = [sealAt m 0] := by
  match hs : m.seals, h with
  | [s0], _ => simp [sealAt, hs]
/-- What a seal that is ok has in it. -/
theorem sealOk_cases {s : Seal} (h : sealOk s = true) :
    (s.kind = 1 ∧ s.key = s.b ∧ (1 ≤ s.a ∧ s.a ≤ 3) ∧ (4 ≤ s.b ∧ s.b ≤ 6) ∧ (10 ≤ s.c ∧ s.c ≤ 60) ∧ (0 ≤ s.d ∧ s.d ≤ 100) ∧ (0 ≤ s.e ∧ s.e ≤ 100)) ∨
    (s.kind = 2 ∧ ((1 ≤ s.key ∧ s.key ≤ 3) ∨ (10 ≤ s.key ∧ s.key ≤ 60)) ∧ (4 ≤ s.a ∧ s.a ≤ 6) ∧ (10 ≤ s.b ∧ s.b ≤ 60) ∧ (1 ≤ s.c ∧ s.c ≤ 60) ∧ (0 ≤ s.d ∧ s.d ≤ 100) ∧ s.e = 0) ∨
    (s.kind = 3 ∧ (10 ≤ s.key ∧ s.key ≤ 60) ∧ (1 ≤ s.a ∧ s.a ≤ 3) ∧ (0 ≤ s.b ∧ s.b ≤ 100) ∧ (1 ≤ s.c ∧ s.c ≤ 60) ∧ s.d = 0 ∧ s.e = 0) ∨
    (s.kind = 4 ∧ (10 ≤ s.key ∧ s.key ≤ 60) ∧ (0 ≤ s.a ∧ s.a ≤ 100) ∧ (1 ≤ s.b ∧ s.b ≤ 60) ∧ s.c = 0 ∧ s.d = 0 ∧ s.e = 0) := by
  unfold sealOk at h
  split at h
  · rename_i hk
    simp only [Bool.and_eq_true, beq_iff_eq, within_iff] at h
    exact .inl ⟨hk, h.1.1.1.1.1, h.1.1.1.1.2, h.1.1.1.2, h.1.1.2, h.1.2, h.2⟩
  split at h
  · rename_i hk
    simp only [Bool.and_eq_true, Bool.or_eq_true, beq_iff_eq, within_iff] at h
    exact .inr (.inl ⟨hk, h.1.1.1.1.1, h.1.1.1.1.2, h.1.1.1.2, h.1.1.2, h.1.2, h.2⟩)
  split at h
  · rename_i hk
    simp only [Bool.and_eq_true, beq_iff_eq, within_iff] at h
    exact .inr (.inr (.inl ⟨hk, h.1.1.1.1.1, h.1.1.1.1.2, h.1.1.1.2, h.1.1.2, h.1.2, h.2⟩))
  split at h
  · rename_i hk
    simp only [Bool.and_eq_true, beq_iff_eq, within_iff] at h
    exact .inr (.inr (.inr ⟨hk, h.1.1.1.1.1, h.1.1.1.1.2, h.1.1.1.2, h.1.1.2, h.1.2, h.2⟩))
  · cases h
theorem ok_ticket {serv user next now til : Int} (h1 : 4 ≤ serv ∧ serv ≤ 6) (h2 : 1 ≤ user ∧ user ≤ 3) (h3 : 10 ≤ next ∧ next ≤ 60) (h4 : 0 ≤ now ∧ now ≤ 100) (h5 : 0 ≤ til ∧ til ≤ 100) : sealOk (mkTicket serv user next now til) = true := by
  simp [sealOk, mkTicket, within]; omega
theorem ok_part {key serv next nonce til : Int} (h1 : 4 ≤ serv ∧ serv ≤ 6) (h2 : (1 ≤ key ∧ key ≤ 3) ∨ (10 ≤ key ∧ key ≤ 60)) (h3 : 10 ≤ next ∧ next ≤ 60) (h4 : 1 ≤ nonce ∧ nonce ≤ 60) (h5 : 0 ≤ til ∧ til ≤ 100) : sealOk (mkPart key serv next nonce til) = true := by
  simp [sealOk, mkPart, within]; omega
theorem ok_auth {id key now num : Int} (h1 : 1 ≤ id ∧ id ≤ 3) (h2 : 10 ≤ key ∧ key ≤ 60) (h3 : 0 ≤ now ∧ now ≤ 100) (h4 : 1 ≤ num ∧ num ≤ 60) : sealOk (mkAuth id key now num) = true := by
  simp [sealOk, mkAuth, within]; omega
theorem ok_back {key time num : Int} (h2 : 10 ≤ key ∧ key ≤ 60) (h3 : 0 ≤ time ∧ time ≤ 100) (h4 : 1 ≤ num ∧ num ≤ 60) : sealOk (mkBack key time num) = true := by
  simp [sealOk, mkBack, within]; omega

/-! ### What is remembered -/
theorem fresh_iff {t now : Int} : fresh t now = true ↔ now - 3 ≤ t ∧ t ≤ now := within_iff
theorem freshen_sub {xs : List Seal} {now : Int} {s : Seal} (h : s ∈ freshen xs now) : s ∈ xs := (List.mem_filter.1 h).1
theorem freshen_ok {xs : List Seal} {now : Int} (h : AOk xs) : AOk (freshen xs now) :=
  ⟨fun s hs => h.all s (freshen_sub hs), h.nd.sublist List.filter_sublist, Nat.le_trans (List.length_filter_le _ _) h.len⟩
theorem remember_ok {xs : List Seal} {a : Seal} {now : Int} (h : AOk xs) (ha : authOk a = true) : AOk (remember xs a now) := by
  unfold remember
  split
  · rename_i hk
    simp only [canKeep, Bool.and_eq_true, Bool.not_eq_true', decide_eq_true_eq, decide_eq_false_iff_not] at hk
    have hf := freshen_ok (now := now) h
    refine ⟨fun s hs => ?_, ?_, ?_⟩
    · rcases List.mem_append.1 hs with hs | hs
      · exact hf.all s hs
      · rw [List.mem_singleton.1 hs]; exact ha
    · rw [List.nodup_append]
      refine ⟨hf.nd, by simp, fun x hx y hy e => ?_⟩
      rw [List.mem_singleton.1 hy] at e
      exact hk.1.2 (e ▸ hx)
    · rw [List.length_append, List.length_singleton]; omega
  · exact freshen_ok h
theorem remember_mem {xs : List Seal} {a s : Seal} {now : Int} (h : s ∈ remember xs a now) : s ∈ xs ∨ (s = a ∧ canKeep xs a now = true) := by
  unfold remember at h
  split at h
  · rename_i hk
    rcases List.mem_append.1 h with h | h
    · exact .inl (freshen_sub h)
    · exact .inr ⟨List.mem_singleton.1 h, hk⟩
  · exact .inl (freshen_sub h)
theorem shown_iff {t a : Seal} {id now : Int} : shown t a id now = true ↔ t.kind = 1 ∧ t.key = id ∧ (t.d ≤ now ∧ now ≤ t.e) ∧ a.kind = 3 ∧ a.key = t.c ∧ a.a = t.a := by
  simp only [shown, Bool.and_eq_true, beq_iff_eq, within_iff]
  constructor
  · rintro ⟨⟨⟨⟨⟨h1, h2⟩, h3⟩, h4⟩, h5⟩, h6⟩; exact ⟨h1, h2, h3, h4, h5, h6⟩
  · rintro ⟨h1, h2, h3, h4, h5, h6⟩; exact ⟨⟨⟨⟨⟨h1, h2⟩, h3⟩, h4⟩, h5⟩, h6⟩

/-! ### Who gives tickets -/
theorem mk_msgOk {kind user : Int} {s0 s1 : Seal} (hk : kind = 2 ∨ kind = 4) (hu : 1 ≤ user ∧ user ≤ 3) (h0 : sealOk s0 = true) (h1 : sealOk s1 = true) : msgOk ⟨kind, user, 0, 0, [s0, s1]⟩ = true := by
  rcases hk with rfl | rfl <;> simp [msgOk, shaped, within, h0, h1, hu]
/-- All cases of KdcAs. -/
theorem kdcAs_cases (k : Kdc) (m : Msg) (now : Int) : kdcAs k m now = (k, none) ∨ (m.kind = 1 ∧ msgOk m = true ∧ k.next ≤ 60 ∧ kdcAs k m now = ({ k with next := k.next + 1 }, some (giveMsg k 2 m.client 6 m.client m.nonce now (if 100 < now + 12 then 100 else now + 12)))) := by
  unfold kdcAs
  split
  · exact .inl rfl
  · rename_i h
    simp only [not_or, ne_eq, Classical.not_not, Bool.not_eq_false, Int.not_lt] at h
    exact .inr ⟨h.1, h.2.1, h.2.2, rfl⟩
theorem kdcTgs_cases (k : Kdc) (m : Msg) (now : Int) : kdcTgs k m now = (k, none) ∨ (m.kind = 3 ∧ msgOk m = true ∧ k.next ≤ 60 ∧ shown (sealAt m 0) (sealAt m 1) 6 now = true ∧
    ((canKeep k.cache (sealAt m 1) now = false ∧ kdcTgs k m now = ({ k with cache := remember k.cache (sealAt m 1) now }, none)) ∨
     (canKeep k.cache (sealAt m 1) now = true ∧ kdcTgs k m now = ({ next := k.next + 1, cache := remember k.cache (sealAt m 1) now }, some (giveMsg k 4 (sealAt m 0).a m.serv (sealAt m 0).c m.nonce now (sealAt m 0).e))))) := by
  unfold kdcTgs
  split
  · exact .inl rfl
  · rename_i h
    simp only [not_or, ne_eq, Classical.not_not, Bool.not_eq_false, Int.not_lt] at h
    refine .inr ⟨h.1, h.2.1, h.2.2.1, h.2.2.2, ?_⟩
    split
    · rename_i h2; exact .inl ⟨h2, rfl⟩
    · rename_i h2; exact .inr ⟨by simpa using h2, rfl⟩
theorem til_ok {now : Int} (h : 0 ≤ now ∧ now ≤ 100) : 0 ≤ (if 100 < now + 12 then 100 else now + 12) ∧ (if 100 < now + 12 then 100 else now + 12) ≤ 100 ∧ now ≤ (if 100 < now + 12 then 100 else now + 12) := by
  split <;> omega
theorem kdcAs_ok {k : Kdc} {m : Msg} {now : Int} (hk : KOk k) (hn : 0 ≤ now ∧ now ≤ 100) : KOk (kdcAs k m now).1 ∧ ∀ a, (kdcAs k m now).2 = some a → msgOk a = true := by
  rcases kdcAs_cases k m now with h | ⟨h1, h2, h3, h⟩
  · rw [h]; exact ⟨hk, fun a ha => by cases ha⟩
  · rw [h]
    have hn' := hk.next
    have ht := til_ok hn
    have hs := msgOk_shape h2
    refine ⟨⟨⟨by dsimp only; omega, by dsimp only; omega⟩, hk.cache⟩, fun a ha => ?_⟩
    simp only [Option.some.injEq] at ha
    subst ha
    have hu : 1 ≤ m.client ∧ m.client ≤ 3 := by omega
    exact mk_msgOk (.inl rfl) hu (ok_ticket (by omega) hu (by omega) hn ⟨ht.1, ht.2.1⟩) (ok_part (by omega) (.inl hu) (by omega) (by omega) ⟨ht.1, ht.2.1⟩)
theorem seal_in {m : Msg} (hl : m.seals.length = 2) : sealAt m 0 ∈ m.seals ∧ sealAt m 1 ∈ m.seals := by
  rw [two_seals hl]; simp
theorem seal_in1 {m : Msg} (hl : m.seals.length = 1) : sealAt m 0 ∈ m.seals := by
  rw [one_seal hl]; simp
theorem kdcTgs_ok {k : Kdc} {m : Msg} {now : Int} (hk : KOk k) (hn : 0 ≤ now ∧ now ≤ 100) : KOk (kdcTgs k m now).1 ∧ ∀ a, (kdcTgs k m now).2 = some a → msgOk a = true := by
  rcases kdcTgs_cases k m now with h | ⟨h1, h2, h3, h4, h⟩
  · rw [h]; exact ⟨hk, fun a ha => by cases ha⟩
  · have hn' := hk.next
    have hs := msgOk_shape h2
    have hl : m.seals.length = 2 := by omega
    have hin := seal_in hl
    have ok0 := msgOk_seals h2 _ hin.1
    have ok1 := msgOk_seals h2 _ hin.2
    rw [shown_iff] at h4
    have c0 := sealOk_cases ok0
    have ha : authOk (sealAt m 1) = true := by simp [authOk, ok1, h4.2.2.2.1]
    have hr := remember_ok (now := now) hk.cache ha
    rcases h with ⟨h5, h⟩ | ⟨h5, h⟩
    · rw [h]; exact ⟨⟨hk.next, hr⟩, fun a ha => by cases ha⟩
    · rw [h]
      refine ⟨⟨⟨by dsimp only; omega, by dsimp only; omega⟩, hr⟩, fun a ha => ?_⟩
      simp only [Option.some.injEq] at ha
      subst ha
      have hu : 1 ≤ (sealAt m 0).a ∧ (sealAt m 0).a ≤ 3 := by omega
      exact mk_msgOk (.inr rfl) hu (ok_ticket (by omega) hu (by omega) hn (by omega)) (ok_part (by omega) (.inr (by omega)) (by omega) (by omega) (by omega))

/-! ### Users -/
theorem credOk_cases {x : Cred} (h : credOk x = true) : (4 ≤ x.serv ∧ x.serv ≤ 6) ∧ (10 ≤ x.key ∧ x.key ≤ 60) ∧ (0 ≤ x.til ∧ x.til ≤ 100) ∧ sealOk x.ticket = true := by
  simp only [credOk, Bool.and_eq_true, within_iff] at h
  exact ⟨h.1.1.1, h.1.1.2, h.1.2, h.2⟩
theorem callOk_cases {x : Call} (h : callOk x = true) : (4 ≤ x.peer ∧ x.peer ≤ 5) ∧ (10 ≤ x.key ∧ x.key ≤ 60) ∧ (0 ≤ x.time ∧ x.time ≤ 100) := by
  simp only [callOk, Bool.and_eq_true, within_iff] at h
  exact ⟨h.1.1, h.1.2, h.2⟩
theorem mk_callOk {p k t n : Int} (h1 : 4 ≤ p ∧ p ≤ 5) (h2 : 10 ≤ k ∧ k ≤ 60) (h3 : 0 ≤ t ∧ t ≤ 100) : callOk ⟨p, k, t, n⟩ = true := by
  simp [callOk, within]; omega
theorem credAt_some {c : Client} {s : Int} {x : Cred} (h : credAt c s = some x) : x ∈ c.creds ∧ x.serv = s := by
  unfold credAt at h
  exact ⟨List.mem_of_find?_eq_some h, by have := List.find?_some h; simpa using this⟩
theorem usable_some {c : Client} {g serv now many : Int} {x : Cred} (h : usable c g serv now many = some x) : credAt c g = some x ∧ c.num + many ≤ 60 ∧ (4 ≤ serv ∧ serv ≤ 5) ∧ now ≤ x.til := by
  unfold usable at h
  split at h
  · rename_i y hy
    split at h
    · cases h
    · rename_i hn
      simp only [not_or, Int.not_lt, Bool.not_eq_false] at hn
      cases h
      exact ⟨hy, hn.1, within_iff.1 hn.2.1, hn.2.2⟩
  · cases h
theorem pw_snoc {X : Type} {r : X → X → Prop} {xs : List X} {x : X} (h : xs.Pairwise r) (hx : ∀ y ∈ xs, r y x) : (xs ++ [x]).Pairwise r := by
  rw [List.pairwise_append]
  exact ⟨h, by simp, fun y hy z hz => by rw [List.mem_singleton.1 hz]; exact hx y hy⟩
theorem mem_snoc {X : Type} {xs : List X} {x y : X} (h : y ∈ xs ++ [x]) : y ∈ xs ∨ y = x := by
  rcases List.mem_append.1 h with h | h
  · exact .inl h
  · exact .inr (List.mem_singleton.1 h)
theorem clientAs_cases (c : Client) : clientAs c = (c, none) ∨ (c.num < 60 ∧ clientAs c = ({ c with num := c.num + 1, wants := c.wants ++ [⟨6, c.num + 1⟩] }, some ⟨1, c.id, 0, c.num + 1, []⟩)) := by
  unfold clientAs
  split
  · exact .inl rfl
  · exact .inr ⟨by omega, rfl⟩
theorem clientTgs_cases (c : Client) (serv now : Int) : clientTgs c serv now = (c, none) ∨ ∃ x, credAt c 6 = some x ∧ c.num + 2 ≤ 60 ∧ (4 ≤ serv ∧ serv ≤ 5) ∧ now ≤ x.til ∧
    clientTgs c serv now = ({ c with num := c.num + 2, wants := c.wants ++ [⟨serv, c.num + 2⟩] }, some ⟨3, 0, serv, c.num + 2, [x.ticket, mkAuth c.id x.key now (c.num + 1)]⟩) := by
  unfold clientTgs
  split
  · exact .inl rfl
  · rename_i x hx
    obtain ⟨h1, h2, h3, h4⟩ := usable_some hx
    exact .inr ⟨x, h1, h2, h3, h4, rfl⟩
theorem clientAp_cases (c : Client) (serv now : Int) : clientAp c serv now = (c, none) ∨ ∃ x, credAt c serv = some x ∧ c.num + 1 ≤ 60 ∧ (4 ≤ serv ∧ serv ≤ 5) ∧ now ≤ x.til ∧
    clientAp c serv now = ({ c with num := c.num + 1, sent := c.sent ++ [⟨serv, x.key, now, c.num + 1⟩] }, some ⟨5, 0, serv, 0, [x.ticket, mkAuth c.id x.key now (c.num + 1)]⟩) := by
  unfold clientAp
  split
  · exact .inl rfl
  · rename_i x hx
    obtain ⟨h1, h2, h3, h4⟩ := usable_some hx
    exact .inr ⟨x, h1, h2, h3, h4, rfl⟩
theorem clientAs_ok {c : Client} (h : COk c) : COk (clientAs c).1 ∧ (clientAs c).1.id = c.id ∧ ∀ a, (clientAs c).2 = some a → msgOk a = true := by
  rcases clientAs_cases c with e | ⟨h1, e⟩
  · rw [e]; exact ⟨h, rfl, fun a ha => by cases ha⟩
  · rw [e]
    have hn := h.num
    have hi := h.id
    refine ⟨⟨h.id, ⟨by dsimp only; omega, by dsimp only; omega⟩, fun x hx => ?_, pw_snoc h.wp fun y hy => ?_, h.creds, h.cn, fun x hx => ?_, h.sp, h.met, h.mn⟩, rfl, fun a ha => ?_⟩
    · rcases mem_snoc hx with hx | rfl
      · have := h.wants x hx; exact ⟨this.1, this.2.1, by dsimp only; omega⟩
      · exact ⟨rfl, by dsimp only; omega, by dsimp only; omega⟩
    · have := (h.wants y hy).2.2; dsimp only; omega
    · have := h.sent x hx; exact ⟨this.1, this.2.1, by dsimp only; omega⟩
    · simp only [Option.some.injEq] at ha
      subst ha
      simp [msgOk, shaped, within]; omega
theorem clientTgs_ok {c : Client} {serv now : Int} (h : COk c) (ht : 0 ≤ now ∧ now ≤ 100) : COk (clientTgs c serv now).1 ∧ (clientTgs c serv now).1.id = c.id ∧ ∀ a, (clientTgs c serv now).2 = some a → msgOk a = true := by
  rcases clientTgs_cases c serv now with e | ⟨x, h1, h2, h3, h4, e⟩
  · rw [e]; exact ⟨h, rfl, fun a ha => by cases ha⟩
  · rw [e]
    have hn := h.num
    have hi := h.id
    have hc := credOk_cases (h.creds x (credAt_some h1).1)
    refine ⟨⟨h.id, ⟨by dsimp only; omega, by dsimp only; omega⟩, fun x hx => ?_, pw_snoc h.wp fun y hy => ?_, h.creds, h.cn, fun x hx => ?_, h.sp, h.met, h.mn⟩, rfl, fun a ha => ?_⟩
    · rcases mem_snoc hx with hx | rfl
      · have := h.wants x hx; exact ⟨this.1, this.2.1, by dsimp only; omega⟩
      · exact ⟨within_iff.2 (by dsimp only; omega), by dsimp only; omega, by dsimp only; omega⟩
    · have := (h.wants y hy).2.2; dsimp only; omega
    · have := h.sent x hx; exact ⟨this.1, this.2.1, by dsimp only; omega⟩
    · simp only [Option.some.injEq] at ha
      subst ha
      have ha := ok_auth (now := now) (num := c.num + 1) hi hc.2.1 ht (by omega)
      simp [msgOk, shaped, within, ha, hc.2.2.2]; omega
theorem clientAp_ok {c : Client} {serv now : Int} (h : COk c) (ht : 0 ≤ now ∧ now ≤ 100) : COk (clientAp c serv now).1 ∧ (clientAp c serv now).1.id = c.id ∧ ∀ a, (clientAp c serv now).2 = some a → msgOk a = true := by
  rcases clientAp_cases c serv now with e | ⟨x, h1, h2, h3, h4, e⟩
  · rw [e]; exact ⟨h, rfl, fun a ha => by cases ha⟩
  · rw [e]
    have hn := h.num
    have hi := h.id
    have hc := credOk_cases (h.creds x (credAt_some h1).1)
    refine ⟨⟨h.id, ⟨by dsimp only; omega, by dsimp only; omega⟩, fun x hx => ?_, h.wp, h.creds, h.cn, fun x hx => ?_, pw_snoc h.sp fun y hy => ?_, fun x hx => List.mem_append_left _ (h.met x hx), h.mn⟩, rfl, fun a ha => ?_⟩
    · have := h.wants x hx; exact ⟨this.1, this.2.1, by dsimp only; omega⟩
    · rcases mem_snoc hx with hx | rfl
      · have := h.sent x hx; exact ⟨this.1, this.2.1, by dsimp only; omega⟩
      · exact ⟨mk_callOk h3 hc.2.1 ht, by dsimp only; omega, by dsimp only; omega⟩
    · have := (h.sent y hy).2.2; dsimp only; omega
    · simp only [Option.some.injEq] at ha
      subst ha
      have ha := ok_auth (now := now) (num := c.num + 1) hi hc.2.1 ht (by omega)
      simp [msgOk, shaped, within, ha, hc.2.2.2]; omega
theorem ask_ok {c : Client} {kind b now : Int} (h : COk c) (ht : 0 ≤ now ∧ now ≤ 100) : COk (ask c kind b now).1 ∧ (ask c kind b now).1.id = c.id ∧ ∀ a, (ask c kind b now).2 = some a → msgOk a = true := by
  unfold ask
  split
  · exact clientAs_ok h
  split
  · exact clientTgs_ok h ht
  · exact clientAp_ok h ht
theorem putCred_servs (x : Cred) : ∀ xs : List Cred, (putCred x xs).map Cred.serv = if x.serv ∈ xs.map Cred.serv then xs.map Cred.serv else xs.map Cred.serv ++ [x.serv]
  | [] => by simp [putCred]
  | y :: r => by
    by_cases h : y.serv = x.serv
    · simp [putCred, h]
    · have h' : ¬ x.serv = y.serv := fun e => h e.symm
      simp only [putCred, if_neg h, List.map_cons, putCred_servs x r, List.mem_cons, h', false_or]
      split <;> simp
theorem putCred_mem {x y : Cred} : ∀ {xs : List Cred}, y ∈ putCred x xs → y = x ∨ y ∈ xs
  | [], h => by simp only [putCred, List.mem_singleton] at h; exact .inl h
  | z :: r, h => by
    unfold putCred at h
    split at h
    · rcases List.mem_cons.1 h with h | h
      · exact .inl h
      · exact .inr (List.mem_cons_of_mem _ h)
    · rcases List.mem_cons.1 h with h | h
      · exact .inr (h ▸ List.mem_cons_self)
      · rcases putCred_mem h with h | h
        · exact .inl h
        · exact .inr (List.mem_cons_of_mem _ h)
theorem find_putCred (x : Cred) (s : Int) : ∀ xs : List Cred, (putCred x xs).find? (fun y => y.serv == s) = if x.serv = s then some x else xs.find? (fun y => y.serv == s)
  | [] => by by_cases h : x.serv = s <;> simp [putCred, h]
  | y :: r => by
    by_cases h : y.serv = x.serv
    · by_cases h2 : x.serv = s
      · simp [putCred, h, h2]
      · simp [putCred, h, h2]
    · have ih := find_putCred x s r
      by_cases h2 : y.serv = s
      · have h3 : ¬ x.serv = s := fun e => h (h2.trans e.symm)
        simp only [putCred, if_neg h]
        rw [List.find?_cons_of_pos (by simpa using h2), if_neg h3, List.find?_cons_of_pos (by simpa using h2)]
      · simp only [putCred, if_neg h]
        rw [List.find?_cons_of_neg (by simpa using h2), ih, List.find?_cons_of_neg (by simpa using h2)]
theorem metAll_mem (s : Seal) (y : Call) : ∀ sent met : List Call, y ∈ metAll s sent met → y ∈ met ∨ (y ∈ sent ∧ s.kind = 4 ∧ y.key = s.key ∧ y.time = s.a ∧ y.num = s.b)
  | [], met, h => .inl h
  | x :: r, met, h => by
    simp only [metAll] at h
    rcases metAll_mem s y r _ h with h | ⟨h1, h2⟩
    · split at h
      · rename_i hc
        rcases mem_snoc h with h | rfl
        · exact .inl h
        · exact .inr ⟨List.mem_cons_self, hc.1, hc.2.1, hc.2.2.1, hc.2.2.2.1⟩
      · exact .inl h
    · exact .inr ⟨List.mem_cons_of_mem _ h1, h2⟩
theorem metAll_sub (s : Seal) (y : Call) : ∀ sent met : List Call, y ∈ met → y ∈ metAll s sent met
  | [], met, h => h
  | x :: r, met, h => by
    simp only [metAll]
    refine metAll_sub s y r _ ?_
    split
    · exact List.mem_append_left _ h
    · exact h
theorem metAll_nodup (s : Seal) : ∀ sent met : List Call, met.Nodup → (metAll s sent met).Nodup
  | [], met, h => h
  | x :: r, met, h => by
    simp only [metAll]
    refine metAll_nodup s r _ ?_
    split
    · rename_i hc
      rw [List.nodup_append]
      exact ⟨h, by simp, fun a ha b hb e => by rw [List.mem_singleton.1 hb] at e; exact hc.2.2.2.2 (e ▸ ha)⟩
    · exact h
theorem metAll_append (s : Seal) : ∀ a b met : List Call, metAll s (a ++ b) met = metAll s b (metAll s a met)
  | [], b, met => rfl
  | x :: r, b, met => by simp only [List.cons_append, metAll]; exact metAll_append s r b _
theorem metAll_none (s : Seal) : ∀ sent met : List Call, (∀ x ∈ sent, ¬ (s.kind = 4 ∧ x.key = s.key ∧ x.time = s.a ∧ x.num = s.b ∧ x ∉ met)) → metAll s sent met = met
  | [], met, h => rfl
  | x :: r, met, h => by
    simp only [metAll]
    rw [if_neg (h x List.mem_cons_self)]
    exact metAll_none s r met fun y hy => h y (List.mem_cons_of_mem _ hy)
/-- All that hearing a word comes to. -/
theorem clientHear_cases (c : Client) (m : Msg) : clientHear c m = c ∨
    (msgOk m = true ∧ m.client = c.id ∧ ((m.kind = 2 ∧ (sealAt m 1).key = c.id ∧ (sealAt m 1).a = 6) ∨ (m.kind = 4 ∧ ∃ x, credAt c 6 = some x ∧ (sealAt m 1).key = x.key ∧ (4 ≤ (sealAt m 1).a ∧ (sealAt m 1).a ≤ 5))) ∧
      (sealAt m 1).kind = 2 ∧ (sealAt m 0).kind = 1 ∧ (⟨(sealAt m 1).a, (sealAt m 1).c⟩ : Want) ∈ c.wants ∧
      clientHear c m = { c with wants := c.wants.erase ⟨(sealAt m 1).a, (sealAt m 1).c⟩, creds := putCred ⟨(sealAt m 1).a, (sealAt m 1).b, (sealAt m 1).d, sealAt m 0⟩ c.creds }) ∨
    (msgOk m = true ∧ m.client = c.id ∧ m.kind = 6 ∧ clientHear c m = { c with met := metAll (sealAt m 0) c.sent c.met }) := by
  unfold clientHear
  split
  · exact .inl rfl
  rename_i h0
  simp only [not_or, Bool.not_eq_false, ne_eq, Classical.not_not] at h0
  split
  · rename_i hk
    split
    · rename_i h1
      unfold given
      split
      · rename_i h2
        exact .inr (.inl ⟨h0.1, h0.2, .inl ⟨hk, h1.2.1, h1.2.2⟩, h1.1, h2.1, h2.2, rfl⟩)
      · exact .inl rfl
    · exact .inl rfl
  split
  · rename_i hk
    split
    · rename_i x hx
      split
      · rename_i h1
        unfold given
        split
        · rename_i h2
          exact .inr (.inl ⟨h0.1, h0.2, .inr ⟨hk, x, hx, h1.2.1, within_iff.1 h1.2.2⟩, h1.1, h2.1, h2.2, rfl⟩)
        · exact .inl rfl
      · exact .inl rfl
    · exact .inl rfl
  split
  · rename_i hk
    exact .inr (.inr ⟨h0.1, h0.2, hk, rfl⟩)
  · exact .inl rfl
theorem clientHear_ok {c : Client} {m : Msg} (h : COk c) : COk (clientHear c m) ∧ (clientHear c m).id = c.id := by
  rcases clientHear_cases c m with e | ⟨h1, h2, h3, h4, h5, h6, e⟩ | ⟨h1, h2, h3, e⟩
  · rw [e]; exact ⟨h, rfl⟩
  · rw [e]
    have hs := msgOk_shape h1
    have hl : m.seals.length = 2 := by omega
    have hin := seal_in hl
    have ok0 := msgOk_seals h1 _ hin.1
    have c1 := sealOk_cases (msgOk_seals h1 _ hin.2)
    refine ⟨⟨h.id, h.num, fun x hx => h.wants x (List.mem_of_mem_erase hx), h.wp.sublist List.erase_sublist, fun x hx => ?_, ?_, h.sent, h.sp, h.met, h.mn⟩, rfl⟩
    · rcases putCred_mem hx with rfl | hx
      · simp [credOk, within, ok0]; omega
      · exact h.creds x hx
    · rw [putCred_servs]
      split
      · exact h.cn
      · rename_i hn
        rw [List.nodup_append]
        exact ⟨h.cn, by simp, fun a ha b hb e => by rw [List.mem_singleton.1 hb] at e; exact hn (e ▸ ha)⟩
  · rw [e]
    refine ⟨⟨h.id, h.num, h.wants, h.wp, h.creds, h.cn, h.sent, h.sp, fun x hx => ?_, metAll_nodup _ _ _ h.mn⟩, rfl⟩
    rcases metAll_mem _ _ _ _ hx with hx | hx
    · exact h.met x hx
    · exact hx.1

/-! ### Services -/
theorem servHear_cases (s : Serv) (m : Msg) (now : Int) : servHear s m now = (s, none) ∨ (m.kind = 5 ∧ msgOk m = true ∧ m.serv = s.id ∧ shown (sealAt m 0) (sealAt m 1) s.id now = true ∧ s.since < (sealAt m 1).b ∧
    ((canKeep s.cache (sealAt m 1) now = false ∧ servHear s m now = ({ s with cache := remember s.cache (sealAt m 1) now }, none)) ∨
     (canKeep s.cache (sealAt m 1) now = true ∧ servHear s m now = ({ s with cache := remember s.cache (sealAt m 1) now, took := s.took ++ [⟨(sealAt m 1).a, (sealAt m 1).key, (sealAt m 1).b, (sealAt m 1).c⟩] },
        some ⟨6, (sealAt m 1).a, 0, 0, [mkBack (sealAt m 1).key (sealAt m 1).b (sealAt m 1).c]⟩)))) := by
  unfold servHear
  split
  · exact .inl rfl
  · rename_i h
    simp only [not_or, ne_eq, Classical.not_not, Bool.not_eq_false, Int.not_le] at h
    refine .inr ⟨h.1, h.2.1, h.2.2.1, h.2.2.2.1, h.2.2.2.2, ?_⟩
    split
    · rename_i h2; exact .inl ⟨h2, rfl⟩
    · rename_i h2; exact .inr ⟨by simpa using h2, rfl⟩
theorem servHear_ok {s : Serv} {m : Msg} {now : Int} (h : SOk s) : SOk (servHear s m now).1 ∧ (servHear s m now).1.id = s.id ∧ ∀ a, (servHear s m now).2 = some a → msgOk a = true := by
  rcases servHear_cases s m now with e | ⟨h1, h2, h3, h4, h5, e⟩
  · rw [e]; exact ⟨h, rfl, fun a ha => by cases ha⟩
  · have hs := msgOk_shape h2
    have hl : m.seals.length = 2 := by omega
    have ok1 := msgOk_seals h2 _ (seal_in hl).2
    rw [shown_iff] at h4
    have c1 := sealOk_cases ok1
    have ha : authOk (sealAt m 1) = true := by simp [authOk, ok1, h4.2.2.2.1]
    have hr := remember_ok (now := now) h.cache ha
    rcases e with ⟨h6, e⟩ | ⟨h6, e⟩
    · rw [e]; exact ⟨⟨h.id, h.since, hr, h.took⟩, rfl, fun a ha => by cases ha⟩
    · rw [e]
      refine ⟨⟨h.id, h.since, hr, fun x hx => ?_⟩, rfl, fun a ha => ?_⟩
      · rcases mem_snoc hx with hx | rfl
        · exact h.took x hx
        · simp [tookOk, within]; omega
      · simp only [Option.some.injEq] at ha
        subst ha
        have hb := ok_back (key := (sealAt m 1).key) (time := (sealAt m 1).b) (num := (sealAt m 1).c) (by omega) (by omega) (by omega)
        simp [msgOk, shaped, within, hb]; omega
theorem servFall_ok {s : Serv} {now : Int} (h : SOk s) (ht : 0 ≤ now ∧ now ≤ 100) : SOk (servFall s now) ∧ (servFall s now).id = s.id := by
  have := h.since
  refine ⟨⟨h.id, ?_, ⟨by simp [servFall], by simp [servFall], by simp [servFall]⟩, h.took⟩, rfl⟩
  simp only [servFall]; split <;> omega

/-! ### Worlds -/
theorem send_cases (w : World) (m : Option Msg) : send w m = w ∨ ∃ a, m = some a ∧ w.log.length < 80 ∧ send w m = { w with log := w.log ++ [a] } := by
  unfold send
  split
  · exact .inl rfl
  · rename_i a
    split
    · rename_i h; exact .inr ⟨a, rfl, h, rfl⟩
    · exact .inl rfl
theorem send_ok {w : World} {m : Option Msg} (h : WOk w) (hm : ∀ a, m = some a → msgOk a = true) : WOk (send w m) := by
  rcases send_cases w m with e | ⟨a, ha, hl, e⟩
  · rw [e]; exact h
  · rw [e]
    refine ⟨h.now, h.kdc, h.cl, h.sl, by simp only [List.length_append, List.length_singleton]; omega, h.bad, h.cs, h.ss, fun x hx => ?_⟩
    rcases mem_snoc hx with hx | rfl
    · exact h.ms x hx
    · exact hm _ ha
theorem clientOf_get {w : World} (h : WOk w) {id : Int} (hi : 1 ≤ id ∧ id ≤ 3) : w.clients[(id - 1).toNat]? = some (clientOf w id) := by
  have hl := h.cl
  unfold clientOf
  rw [List.getD_eq_getElem?_getD, List.getElem?_eq_getElem (by omega)]; rfl
theorem servOf_get {w : World} (h : WOk w) {id : Int} (hi : 4 ≤ id ∧ id ≤ 5) : w.servs[(id - 4).toNat]? = some (servOf w id) := by
  have hl := h.sl
  unfold servOf
  rw [List.getD_eq_getElem?_getD, List.getElem?_eq_getElem (by omega)]; rfl
theorem clientOf_ok {w : World} (h : WOk w) {id : Int} (hi : 1 ≤ id ∧ id ≤ 3) : COk (clientOf w id) ∧ (clientOf w id).id = id := by
  have := h.cs _ _ (clientOf_get h hi)
  exact ⟨this.1, by omega⟩
theorem servOf_ok {w : World} (h : WOk w) {id : Int} (hi : 4 ≤ id ∧ id ≤ 5) : SOk (servOf w id) ∧ (servOf w id).id = id := by
  have := h.ss _ _ (servOf_get h hi)
  exact ⟨this.1, by omega⟩
theorem setClient_ok {w : World} (h : WOk w) {id : Int} (hi : 1 ≤ id ∧ id ≤ 3) {c : Client} (hc : COk c) (he : c.id = id) : WOk (setClient w id c) := by
  refine ⟨h.now, h.kdc, by simp [setClient, h.cl], h.sl, h.ll, h.bad, fun i x hx => ?_, h.ss, h.ms⟩
  simp only [setClient, List.getElem?_set] at hx
  split at hx
  · split at hx
    · cases hx; exact ⟨hc, by omega⟩
    · cases hx
  · exact h.cs i x hx
theorem setServ_ok {w : World} (h : WOk w) {id : Int} (hi : 4 ≤ id ∧ id ≤ 5) {s : Serv} (hc : SOk s) (he : s.id = id) : WOk (setServ w id s) := by
  refine ⟨h.now, h.kdc, h.cl, by simp [setServ, h.sl], h.ll, h.bad, h.cs, fun i x hx => ?_, h.ms⟩
  simp only [setServ, List.getElem?_set] at hx
  split at hx
  · split at hx
    · cases hx; exact ⟨hc, by omega⟩
    · cases hx
  · exact h.ss i x hx
theorem setKdc_ok {w : World} (h : WOk w) {k : Kdc} (hk : KOk k) : WOk { w with kdc := k } := ⟨h.now, hk, h.cl, h.sl, h.ll, h.bad, h.cs, h.ss, h.ms⟩
theorem asks_ok {w : World} {kind a b : Int} (h : WOk w) : WOk (asks w kind a b) := by
  unfold asks
  split
  · exact h
  · rename_i hc
    simp only [not_or, Bool.not_eq_false] at hc
    have hi := within_iff.1 hc.1
    have hco := clientOf_ok h hi
    have ho := ask_ok (kind := kind) (b := b) hco.1 h.now
    exact send_ok (setClient_ok h hi ho.1 (ho.2.1.trans hco.2)) ho.2.2
theorem bringMsg_ok {w : World} {m : Msg} (h : WOk w) (hm : msgOk m = true) : WOk (bringMsg w m) := by
  have hs := msgOk_shape hm
  unfold bringMsg
  split
  · have ho := kdcAs_ok (m := m) h.kdc h.now
    exact send_ok (setKdc_ok h ho.1) ho.2
  split
  · have ho := kdcTgs_ok (m := m) h.kdc h.now
    exact send_ok (setKdc_ok h ho.1) ho.2
  split
  · have hi : 4 ≤ m.serv ∧ m.serv ≤ 5 := by omega
    have hso := servOf_ok h hi
    have ho := servHear_ok (m := m) (now := w.now) hso.1
    exact send_ok (setServ_ok h hi ho.1 (ho.2.1.trans hso.2)) ho.2.2
  split
  · exact h
  · have hi : 1 ≤ m.client ∧ m.client ≤ 3 := by omega
    have hco := clientOf_ok h hi
    have ho := clientHear_ok (m := m) hco.1
    exact setClient_ok h hi ho.1 (ho.2.trans hco.2)
theorem bring_cases (w : World) (at_ : Int) : bring w at_ = w ∨ (0 ≤ at_ ∧ at_ < w.log.length ∧ ∃ m, w.log[at_.toNat]? = some m ∧ m ∈ w.log ∧ bring w at_ = bringMsg w m) := by
  unfold bring
  split
  · rename_i h
    have hl : at_.toNat < w.log.length := by omega
    have hg : w.log[at_.toNat]? = some (w.log.getD at_.toNat Msg.zero) := by
      rw [List.getD_eq_getElem?_getD, List.getElem?_eq_getElem hl]; rfl
    exact .inr ⟨h.1, h.2, _, hg, List.mem_of_getElem? hg, rfl⟩
  · exact .inl rfl
theorem bring_ok {w : World} {at_ : Int} (h : WOk w) : WOk (bring w at_) := by
  rcases bring_cases w at_ with e | ⟨_, _, m, _, hm, e⟩
  · rw [e]; exact h
  · rw [e]; exact bringMsg_ok h (h.ms m hm)
theorem tick_ok {w : World} (h : WOk w) : WOk (tick w) := by
  have := h.now
  refine ⟨?_, h.kdc, h.cl, h.sl, h.ll, h.bad, h.cs, h.ss, h.ms⟩
  simp only [tick]; split <;> omega
theorem fall_ok {w : World} {b : Int} (h : WOk w) : WOk (fall w b) := by
  unfold fall
  split
  · rename_i hb
    have hi := within_iff.1 hb
    have hso := servOf_ok h hi
    have ho := servFall_ok hso.1 h.now
    exact setServ_ok h hi ho.1 (ho.2.trans hso.2)
  · exact h
theorem knowBuild_ok {keys : List Int} {seals : List Seal} {m : Msg} (h : knowBuild keys seals m = true) : msgOk m = true := by
  simp only [knowBuild, Bool.and_eq_true] at h
  exact h.1
theorem step_ok {w : World} {e : Event} (h : WOk w) : WOk (step w e) := by
  unfold step
  split
  · exact asks_ok h
  split
  · exact bring_ok h
  split
  · split
    · rename_i hb
      exact send_ok h fun a ha => by cases ha; exact knowBuild_ok hb
    · exact h
  split
  · exact tick_ok h
  split
  · exact fall_ok h
  · exact h
theorem new_ok {bad : Int} (h : 0 ≤ bad ∧ bad ≤ 3) : WOk (worldNew bad) := by
  have hc : ∀ id : Int, 1 ≤ id ∧ id ≤ 3 → COk (clientNew id) := fun id hi => ⟨hi, by simp [clientNew], by simp [clientNew], by simp [clientNew], by simp [clientNew], by simp [clientNew], by simp [clientNew], by simp [clientNew], by simp [clientNew], by simp [clientNew]⟩
  have hs : ∀ id : Int, 4 ≤ id ∧ id ≤ 5 → SOk (servNew id) := fun id hi => ⟨hi, by simp [servNew], ⟨by simp [servNew], by simp [servNew], by simp [servNew]⟩, by simp [servNew]⟩
  refine ⟨by simp [worldNew], ⟨by simp [worldNew, kdcNew], ⟨by simp [worldNew, kdcNew], by simp [worldNew, kdcNew], by simp [worldNew, kdcNew]⟩⟩, rfl, rfl, by simp [worldNew], h, fun i c hc' => ?_, fun i s hs' => ?_, by simp [worldNew]⟩
  · match i, hc' with
    | 0, hc' => cases hc'; exact ⟨hc 1 (by omega), rfl⟩
    | 1, hc' => cases hc'; exact ⟨hc 2 (by omega), rfl⟩
    | 2, hc' => cases hc'; exact ⟨hc 3 (by omega), rfl⟩
  · match i, hs' with
    | 0, hs' => cases hs'; exact ⟨hs 4 (by omega), rfl⟩
    | 1, hs' => cases hs'; exact ⟨hs 5 (by omega), rfl⟩
theorem play_ok : ∀ {es : List Event} {w : World}, WOk w → WOk (play w es)
  | [], w, h => h
  | e :: r, w, h => play_ok (es := r) (step_ok (e := e) h)
end Go.Proofs.YtkdlkclanlkebaaGreat
/- Whatever happens in a world: what is so behind it. -/
set_option linter.unusedVariables false
set_option linter.unusedSimpArgs false
namespace Go.Proofs.YtkdlkclanlkebaaGreat

/-- A seal that was sent. -/
def InS (w : World) (s : Seal) : Prop := ∃ m ∈ w.log, s ∈ m.seals
/-- The bad user's key, and those in tickets of his. -/
def Bads (S : Seal → Prop) (bad k : Int) : Prop := k = bad ∨ ∃ t, S t ∧ t.kind = 1 ∧ t.c = k ∧ t.a = bad
/-- To what who hears all comes. -/
inductive Kn (S : Seal → Prop) (bad : Int) : Int → Prop
  | own (h : 1 ≤ bad) : Kn S bad bad
  | opens {s : Seal} (h : S s) (hk : Kn S bad s.key) (hp : 0 < sealHolds s) : Kn S bad (sealHolds s)
theorem Kn.mono {S S' : Seal → Prop} {bad k : Int} (hs : ∀ s, S s → S' s) (h : Kn S bad k) : Kn S' bad k := by
  induction h with
  | own h => exact .own h
  | opens h _ hp ih => exact .opens (hs _ h) ih hp

structure LogInv (S : Seal → Prop) (bad next : Int) : Prop where
  bd : 0 ≤ bad ∧ bad ≤ 3
  nx : 10 ≤ next
  ok : ∀ s, S s → sealOk s = true
  keys : ∀ s, S s → s.key < next
  next : ∀ t, S t → t.kind = 1 → t.c < next
  uniq : ∀ t u, S t → S u → t.kind = 1 → u.kind = 1 → t.c = u.c → t = u
  closed : ∀ s, S s → Bads S bad s.key → 0 < sealHolds s → Bads S bad (sealHolds s)
  known : ∀ t, S t → t.kind = 1 → t.a = bad → Kn S bad t.c
  part : ∀ p, S p → p.kind = 2 → ¬ Bads S bad p.key → ∃ t, S t ∧ t.kind = 1 ∧ t.c = p.b ∧ t.b = p.a ∧ (p.key = t.a ∨ ∃ u, S u ∧ u.kind = 1 ∧ u.c = p.key ∧ u.a = t.a)
theorem LogInv.kn {S : Seal → Prop} {bad next k : Int} (h : LogInv S bad next) (hk : Kn S bad k) : Bads S bad k := by
  induction hk with
  | own _ => exact .inl rfl
  | opens hs _ hp ih => exact h.closed _ hs ih hp
theorem LogInv.bads {S : Seal → Prop} {bad next k : Int} (h : LogInv S bad next) (hk : Bads S bad k) (h1 : 1 ≤ k) : Kn S bad k := by
  rcases hk with rfl | ⟨t, h2, h3, rfl, h5⟩
  · exact .own h1
  · exact h.known t h2 h3 h5
/-- The key in a ticket of one who is not bad is not bad. -/
theorem LogInv.good {S : Seal → Prop} {bad next : Int} (h : LogInv S bad next) {t : Seal} (ht : S t) (hk : t.kind = 1) (ha : t.a ≠ bad) : ¬ Bads S bad t.c := by
  rintro (e | ⟨u, h1, h2, h3, h4⟩)
  · have := sealOk_cases (h.ok t ht); have := h.bd; omega
  · have := h.uniq t u ht h1 hk h2 h3.symm
    subst this; exact ha h4
theorem LogInv.small {S : Seal → Prop} {bad next k : Int} (h : LogInv S bad next) (hk : k ≤ 9) (hb : k ≠ bad) : ¬ Bads S bad k := by
  rintro (e | ⟨u, h1, h2, h3, h4⟩)
  · exact hb e
  · have := sealOk_cases (h.ok u h1); omega
theorem holds_ticket {s : Seal} (h : sealOk s = true) (hk : s.kind = 1) : sealHolds s = s.c := by simp [sealHolds, holds, h, hk]
theorem holds_part {s : Seal} (h : sealOk s = true) (hk : s.kind = 2) : sealHolds s = s.b := by simp [sealHolds, holds, h, hk]
theorem holds_none {s : Seal} (h1 : s.kind ≠ 1) (h2 : s.kind ≠ 2) : sealHolds s = 0 := by simp [sealHolds, holds, h1, h2]
/-- No ticket is new. -/
theorem LogInv.add {S S' : Seal → Prop} {bad next next' : Int} (h : LogInv S bad next) (hn : next ≤ next') (hsub : ∀ s, S s → S' s)
    (hnew : ∀ s, S' s → S s ∨ (sealOk s = true ∧ s.kind ≠ 1 ∧ s.key < next' ∧ (s.kind = 2 → Bads S bad s.key ∧ Bads S bad s.b))) : LogInv S' bad next' := by
  have hold : ∀ t, S' t → t.kind = 1 → S t := fun t ht hk => by
    rcases hnew t ht with h1 | h1
    · exact h1
    · exact absurd hk h1.2.1
  have hb : ∀ k, Bads S' bad k → Bads S bad k := by
    rintro k (e | ⟨t, h1, h2, h3, h4⟩)
    · exact .inl e
    · exact .inr ⟨t, hold t h1 h2, h2, h3, h4⟩
  have hb' : ∀ k, Bads S bad k → Bads S' bad k := by
    rintro k (e | ⟨t, h1, h2, h3, h4⟩)
    · exact .inl e
    · exact .inr ⟨t, hsub t h1, h2, h3, h4⟩
  have hnx := h.nx
  refine ⟨h.bd, by omega, fun s hs => ?_, fun s hs => ?_, fun t ht hk => ?_, fun t u ht hu hk hk' => h.uniq t u (hold t ht hk) (hold u hu hk') hk hk', fun s hs hbad hp => ?_, fun t ht hk ha => (h.known t (hold t ht hk) hk ha).mono hsub, fun p hp hk hbad => ?_⟩
  · rcases hnew s hs with h1 | h1
    · exact h.ok s h1
    · exact h1.1
  · rcases hnew s hs with h1 | h1
    · have := h.keys s h1; omega
    · exact h1.2.2.1
  · have := h.next t (hold t ht hk) hk; omega
  · rcases hnew s hs with h1 | h1
    · exact hb' _ (h.closed s h1 (hb _ hbad) hp)
    · by_cases h2 : s.kind = 2
      · rw [holds_part h1.1 h2]; exact hb' _ (h1.2.2.2 h2).2
      · rw [holds_none h1.2.1 h2] at hp; omega
  · rcases hnew p hp with h1 | h1
    · obtain ⟨t, g1, g2, g3, g4, g5⟩ := h.part p h1 hk (fun h2 => hbad (hb' _ h2))
      refine ⟨t, hsub t g1, g2, g3, g4, ?_⟩
      rcases g5 with g5 | ⟨u, k1, k2, k3, k4⟩
      · exact .inl g5
      · exact .inr ⟨u, hsub u k1, k2, k3, k4⟩
    · exact absurd (hb' _ (h1.2.2.2 hk).1) hbad
/-- A ticket, and its part. -/
theorem LogInv.give {S S' : Seal → Prop} {bad next serv user key nonce now til : Int} (h : LogInv S bad next) (hs' : ∀ s, S' s ↔ S s ∨ s = mkTicket serv user next now til ∨ s = mkPart key serv next nonce til)
    (ht : sealOk (mkTicket serv user next now til) = true) (hp : sealOk (mkPart key serv next nonce til) = true)
    (hk : key = user ∨ ∃ u, S u ∧ u.kind = 1 ∧ u.c = key ∧ u.a = user) : LogInv S' bad (next + 1) := by
  have ct := sealOk_cases ht
  have cp := sealOk_cases hp
  simp only [mkTicket] at ct
  simp only [mkPart] at cp
  have hbd := h.bd
  have hnx := h.nx
  have hsub : ∀ s, S s → S' s := fun s hs => (hs' s).2 (.inl hs)
  have inT : S' (mkTicket serv user next now til) := (hs' _).2 (.inr (.inl rfl))
  have inP : S' (mkPart key serv next nonce til) := (hs' _).2 (.inr (.inr rfl))
  have hold : ∀ t, S' t → t.kind = 1 → S t ∨ t = mkTicket serv user next now til := fun t ht hk => by
    rcases (hs' t).1 ht with h1 | h1 | h1
    · exact .inl h1
    · exact .inr h1
    · rw [h1] at hk; cases hk
  have hb : ∀ k, Bads S' bad k → Bads S bad k ∨ (k = next ∧ user = bad) := by
    rintro k (e | ⟨t, h1, h2, h3, h4⟩)
    · exact .inl (.inl e)
    · rcases hold t h1 h2 with h5 | rfl
      · exact .inl (.inr ⟨t, h5, h2, h3, h4⟩)
      · exact .inr ⟨h3.symm, h4⟩
  have hb' : ∀ k, Bads S bad k → Bads S' bad k := by
    rintro k (e | ⟨t, h1, h2, h3, h4⟩)
    · exact .inl e
    · exact .inr ⟨t, hsub t h1, h2, h3, h4⟩
  have keyS : ∀ u, S u → u.kind = 1 → u.c = key → key < next := fun u h1 h2 h3 => by have := h.next u h1 h2; omega
  refine ⟨hbd, by omega, fun s hs => ?_, fun s hs => ?_, fun t ht hk => ?_, fun t u ht hu hk hk' he => ?_, fun s hs hbad hpos => ?_, fun t ht1 hk1 ha => ?_, fun p hp1 hk1 hbad => ?_⟩
  · rcases (hs' s).1 hs with h1 | rfl | rfl
    · exact h.ok s h1
    · exact ht
    · exact hp
  · rcases (hs' s).1 hs with h1 | rfl | rfl
    · have := h.keys s h1; omega
    · simp only [mkTicket]; omega
    · simp only [mkPart]
      rcases hk with rfl | ⟨u, h1, h2, h3, h4⟩
      · omega
      · have := keyS u h1 h2 h3; omega
  · rcases hold t ht hk with h1 | rfl
    · have := h.next t h1 hk; omega
    · simp only [mkTicket]; omega
  · rcases hold t ht hk with h1 | rfl
    · rcases hold u hu hk' with h2 | rfl
      · exact h.uniq t u h1 h2 hk hk' he
      · have := h.next t h1 hk; simp only [mkTicket] at he; omega
    · rcases hold u hu hk' with h2 | rfl
      · have := h.next u h2 hk'; simp only [mkTicket] at he; omega
      · rfl
  · rcases (hs' s).1 hs with h1 | rfl | rfl
    · rcases hb _ hbad with h2 | h2
      · exact hb' _ (h.closed s h1 h2 hpos)
      · have := h.keys s h1; omega
    · simp only [mkTicket] at hbad
      rcases hb _ hbad with h2 | h2
      · exact absurd h2 (h.small (by omega) (by omega))
      · omega
    · rw [holds_part hp rfl]
      simp only [mkPart] at hbad ⊢
      have : user = bad := by
        rcases hk with rfl | ⟨u, h1, h2, h3, h4⟩
        · rcases hb _ hbad with h5 | h5
          · exact Classical.byContradiction fun hne => h.small (by omega) hne h5
          · omega
        · rcases hb _ hbad with h5 | h5
          · refine Classical.byContradiction fun hne => ?_
            rw [← h3] at h5
            exact h.good h1 h2 (by rw [h4]; exact hne) h5
          · exact h5.2
      exact .inr ⟨_, inT, rfl, rfl, this⟩
  · rcases hold t ht1 hk1 with h1 | rfl
    · exact (h.known t h1 hk1 ha).mono hsub
    · simp only [mkTicket] at ha ⊢
      have h9 : Kn S' bad (mkPart key serv next nonce til).key := by
        simp only [mkPart]
        rcases hk with rfl | ⟨u, h1, h2, h3, h4⟩
        · rw [ha]; exact .own (by omega)
        · rw [← h3]; exact (h.known u h1 h2 (h4.trans ha)).mono hsub
      have h8 := Kn.opens inP h9 (by rw [holds_part hp rfl]; simp only [mkPart]; omega)
      rwa [holds_part hp rfl] at h8
  · rcases (hs' p).1 hp1 with h1 | rfl | rfl
    · obtain ⟨t, g1, g2, g3, g4, g5⟩ := h.part p h1 hk1 (fun h2 => hbad (hb' _ h2))
      refine ⟨t, hsub t g1, g2, g3, g4, ?_⟩
      rcases g5 with g5 | ⟨u, k1, k2, k3, k4⟩
      · exact .inl g5
      · exact .inr ⟨u, hsub u k1, k2, k3, k4⟩
    · cases hk1
    · refine ⟨_, inT, rfl, rfl, rfl, ?_⟩
      rcases hk with rfl | ⟨u, h1, h2, h3, h4⟩
      · exact .inl rfl
      · exact .inr ⟨u, hsub u h1, h2, h3, h4⟩

/-! ### Users and services -/
/-- There is a ticket of somebody, for somebody, with that key. -/
def Tic (S : Seal → Prop) (user serv key : Int) : Prop := ∃ t, S t ∧ t.kind = 1 ∧ t.a = user ∧ t.b = serv ∧ t.c = key
theorem Tic.mono {S S' : Seal → Prop} {u s k : Int} (hs : ∀ s, S s → S' s) (h : Tic S u s k) : Tic S' u s k := by
  obtain ⟨t, h1, h2⟩ := h
  exact ⟨t, hs t h1, h2⟩
theorem LogInv.tic {S : Seal → Prop} {bad next u s u' s' k : Int} (h : LogInv S bad next) (h1 : Tic S u s k) (h2 : Tic S u' s' k) : u = u' ∧ s = s' := by
  obtain ⟨t, a1, a2, rfl, rfl, rfl⟩ := h1
  obtain ⟨t', b1, b2, rfl, rfl, b5⟩ := h2
  have := h.uniq t t' a1 b1 a2 b2 b5.symm
  subst this; exact ⟨rfl, rfl⟩
theorem LogInv.tic_lt {S : Seal → Prop} {bad next u s k : Int} (h : LogInv S bad next) (h1 : Tic S u s k) : k < next ∧ 10 ≤ k ∧ k ≤ 60 ∧ (1 ≤ u ∧ u ≤ 3) ∧ (4 ≤ s ∧ s ≤ 6) := by
  obtain ⟨t, a1, a2, rfl, rfl, rfl⟩ := h1
  have := h.next t a1 a2
  have := sealOk_cases (h.ok t a1)
  omega
theorem LogInv.tic_good {S : Seal → Prop} {bad next u s k : Int} (h : LogInv S bad next) (h1 : Tic S u s k) (hu : u ≠ bad) : ¬ Bads S bad k := by
  obtain ⟨t, a1, a2, rfl, rfl, rfl⟩ := h1
  exact h.good a1 a2 hu
abbrev callAuth (x : Call) : Seal := ⟨x.key, 3, x.peer, x.time, x.num, 0, 0⟩
structure CInv (S : Seal → Prop) (bad now : Int) (c : Client) : Prop where
  tick : ∀ x ∈ c.creds, S x.ticket
  cred : ∀ x ∈ c.creds, Tic S c.id x.serv x.key
  time : ∀ x ∈ c.sent, x.time ≤ now
  sent : ∀ x ∈ c.sent, Tic S c.id x.peer x.key
  bad : c.id = bad → c.wants = [] ∧ c.creds = [] ∧ c.sent = [] ∧ c.met = []
structure VInv (S : Seal → Prop) (now next : Int) (v : Serv) : Prop where
  since : v.since ≤ now
  time : ∀ x ∈ v.took, x.time ≤ now
  auth : ∀ x ∈ v.took, S (callAuth x)
  tic : ∀ x ∈ v.took, Tic S x.peer v.id x.key
  old : ∀ x ∈ v.took, x.time < now - 3 ∨ x.time ≤ v.since ∨ callAuth x ∈ v.cache
  once : v.took.Nodup
  cache : ∀ a ∈ v.cache, a.key < next
/-- What is told of oneself was told by oneself. -/
def AuthBy (S : Seal → Prop) (w : World) (s : Seal) : Prop := ∃ c ∈ w.clients, c.id = s.a ∧ s.b ≤ w.now ∧ s.c ≤ c.num ∧ ∃ b, Tic S s.a b s.key ∧ (b = 6 ∨ (⟨b, s.key, s.b, s.c⟩ : Call) ∈ c.sent)
def BackBy (w : World) (s : Seal) : Prop := ∃ v ∈ w.servs, ∃ x ∈ v.took, x.key = s.key ∧ x.time = s.a ∧ x.num = s.b
def MetBy (w : World) (id : Int) (x : Call) : Prop := ∃ v ∈ w.servs, v.id = x.peer ∧ (⟨id, x.key, x.time, x.num⟩ : Call) ∈ v.took
structure Inv (w : World) : Prop where
  ok : WOk w
  log : LogInv (InS w) w.bad w.kdc.next
  cs : ∀ c ∈ w.clients, CInv (InS w) w.bad w.now c
  vs : ∀ v ∈ w.servs, VInv (InS w) w.now w.kdc.next v
  kc : ∀ a ∈ w.kdc.cache, a.key < w.kdc.next
  auth : ∀ s, InS w s → s.kind = 3 → ¬ Bads (InS w) w.bad s.key → AuthBy (InS w) w s
  back : ∀ s, InS w s → s.kind = 4 → ¬ Bads (InS w) w.bad s.key → BackBy w s
  met : ∀ c ∈ w.clients, ∀ x ∈ c.met, MetBy w c.id x

theorem new_inv {bad : Int} (h : 0 ≤ bad ∧ bad ≤ 3) : Inv (worldNew bad) := by
  have hno : ∀ s, ¬ InS (worldNew bad) s := by
    rintro s ⟨m, hm, _⟩
    simp [worldNew] at hm
  have hno' : ∀ s, InS (worldNew bad) s ↔ False := fun s => ⟨hno s, fun h => h.elim⟩
  refine ⟨new_ok h, ⟨h, by simp [worldNew, kdcNew], fun s hs => (hno s hs).elim, fun s hs => (hno s hs).elim, fun s hs => (hno s hs).elim, fun s u hs => (hno s hs).elim, fun s hs => (hno s hs).elim, fun s hs => (hno s hs).elim, fun s hs => (hno s hs).elim⟩, fun c hc => ?_, fun v hv => ?_, by simp [worldNew, kdcNew], fun s hs => (hno s hs).elim, fun s hs => (hno s hs).elim, fun c hc => ?_⟩
  · simp only [worldNew, List.mem_cons, List.not_mem_nil, or_false] at hc
    rcases hc with rfl | rfl | rfl <;> exact ⟨by simp [clientNew], by simp [clientNew], by simp [clientNew], by simp [clientNew], by simp [clientNew]⟩
  · simp only [worldNew, List.mem_cons, List.not_mem_nil, or_false] at hv
    rcases hv with rfl | rfl <;> exact ⟨by simp [servNew, worldNew], by simp [servNew], by simp [servNew], by simp [servNew], by simp [servNew], by simp [servNew], by simp [servNew]⟩
  · simp only [worldNew, List.mem_cons, List.not_mem_nil, or_false] at hc
    rcases hc with rfl | rfl | rfl <;> simp [clientNew]

/-! ### One part of a world turns -/
theorem mem_setClient {w : World} {id : Int} {c x : Client} (h : x ∈ (setClient w id c).clients) : x = c ∨ x ∈ w.clients := by
  rcases List.mem_or_eq_of_mem_set h with h | h
  · exact .inr h
  · exact .inl h
theorem mem_setServ {w : World} {id : Int} {c x : Serv} (h : x ∈ (setServ w id c).servs) : x = c ∨ x ∈ w.servs := by
  rcases List.mem_or_eq_of_mem_set h with h | h
  · exact .inr h
  · exact .inl h
/-- Each user that was is there still, or is the one who turned. -/
theorem setClient_mem {w : World} (h : WOk w) {id : Int} (hi : 1 ≤ id ∧ id ≤ 3) {c x : Client} (hx : x ∈ w.clients) : (x = clientOf w id ∧ c ∈ (setClient w id c).clients) ∨ x ∈ (setClient w id c).clients := by
  obtain ⟨i, hi'⟩ := List.getElem?_of_mem hx
  have hg := clientOf_get h hi
  have hl := h.cl
  by_cases e : i = (id - 1).toNat
  · subst e
    rw [hg] at hi'
    refine .inl ⟨(Option.some.inj hi').symm, ?_⟩
    exact List.mem_of_getElem? (i := (id - 1).toNat) (by simp only [setClient]; rw [List.getElem?_set_self (by omega)])
  · refine .inr (List.mem_of_getElem? (i := i) ?_)
    simp only [setClient]
    rw [List.getElem?_set_ne (fun h => e h.symm)]; exact hi'
theorem setServ_mem {w : World} (h : WOk w) {id : Int} (hi : 4 ≤ id ∧ id ≤ 5) {c x : Serv} (hx : x ∈ w.servs) : (x = servOf w id ∧ c ∈ (setServ w id c).servs) ∨ x ∈ (setServ w id c).servs := by
  obtain ⟨i, hi'⟩ := List.getElem?_of_mem hx
  have hg := servOf_get h hi
  have hl := h.sl
  by_cases e : i = (id - 4).toNat
  · subst e
    rw [hg] at hi'
    refine .inl ⟨(Option.some.inj hi').symm, ?_⟩
    exact List.mem_of_getElem? (i := (id - 4).toNat) (by simp only [setServ]; rw [List.getElem?_set_self (by omega)])
  · refine .inr (List.mem_of_getElem? (i := i) ?_)
    simp only [setServ]
    rw [List.getElem?_set_ne (fun h => e h.symm)]; exact hi'
theorem clientOf_mem {w : World} (h : WOk w) {id : Int} (hi : 1 ≤ id ∧ id ≤ 3) : clientOf w id ∈ w.clients := List.mem_of_getElem? (clientOf_get h hi)
theorem servOf_mem {w : World} (h : WOk w) {id : Int} (hi : 4 ≤ id ∧ id ≤ 5) : servOf w id ∈ w.servs := List.mem_of_getElem? (servOf_get h hi)

theorem Inv.setClient {w : World} (h : Inv w) {id : Int} (hi : 1 ≤ id ∧ id ≤ 3) {c : Client} (hc : COk c) (he : c.id = id) (hn : (clientOf w id).num ≤ c.num) (hsent : ∀ x ∈ (clientOf w id).sent, x ∈ c.sent)
    (hci : CInv (InS w) w.bad w.now c) (hmet : ∀ x ∈ c.met, MetBy w c.id x) : Inv (setClient w id c) := by
  refine ⟨setClient_ok h.ok hi hc he, h.log, fun x hx => ?_, h.vs, h.kc, fun s hs hk hb => ?_, h.back, fun x hx => ?_⟩
  · rcases mem_setClient hx with rfl | hx
    · exact hci
    · exact h.cs x hx
  · obtain ⟨x, hx, h1, h2, h3, b, h4, h5⟩ := h.auth s hs hk hb
    rcases setClient_mem h.ok hi (c := c) hx with ⟨rfl, hm⟩ | hm
    · refine ⟨c, hm, ?_, h2, by omega, b, h4, ?_⟩
      · rw [he, ← h1]; exact ((clientOf_ok h.ok hi).2).symm
      · rcases h5 with h5 | h5
        · exact .inl h5
        · exact .inr (hsent _ h5)
    · exact ⟨x, hm, h1, h2, h3, b, h4, h5⟩
  · rcases mem_setClient hx with rfl | hx
    · exact hmet
    · exact h.met x hx
theorem Inv.setServ {w : World} (h : Inv w) {id : Int} (hi : 4 ≤ id ∧ id ≤ 5) {v : Serv} (hv : SOk v) (he : v.id = id) (htook : ∀ x ∈ (servOf w id).took, x ∈ v.took) (hvi : VInv (InS w) w.now w.kdc.next v) : Inv (setServ w id v) := by
  refine ⟨setServ_ok h.ok hi hv he, h.log, h.cs, fun x hx => ?_, h.kc, h.auth, fun s hs hk hb => ?_, fun c hc x hx => ?_⟩
  · rcases mem_setServ hx with rfl | hx
    · exact hvi
    · exact h.vs x hx
  · obtain ⟨u, hu, x, hx, h1⟩ := h.back s hs hk hb
    rcases setServ_mem h.ok hi (c := v) hu with ⟨rfl, hm⟩ | hm
    · exact ⟨v, hm, x, htook x hx, h1⟩
    · exact ⟨u, hm, x, hx, h1⟩
  · obtain ⟨u, hu, h1, h2⟩ := h.met c hc x hx
    rcases setServ_mem h.ok hi (c := v) hu with ⟨rfl, hm⟩ | hm
    · refine ⟨v, hm, ?_, htook _ h2⟩
      rw [he, ← h1]; exact ((servOf_ok h.ok hi).2).symm
    · exact ⟨u, hm, h1, h2⟩
theorem inS_snoc {w : World} {m : Msg} {s : Seal} : InS { w with log := w.log ++ [m] } s ↔ InS w s ∨ s ∈ m.seals := by
  constructor
  · rintro ⟨x, hx, hs⟩
    rcases mem_snoc hx with hx | rfl
    · exact .inl ⟨x, hx, hs⟩
    · exact .inr hs
  · rintro (⟨x, hx, hs⟩ | hs)
    · exact ⟨x, List.mem_append_left _ hx, hs⟩
    · exact ⟨m, by simp, hs⟩
theorem CInv.mono {S S' : Seal → Prop} {bad now now' : Int} {c : Client} (hs : ∀ s, S s → S' s) (hn : now ≤ now') (h : CInv S bad now c) : CInv S' bad now' c :=
  ⟨fun x hx => hs _ (h.tick x hx), fun x hx => (h.cred x hx).mono hs, fun x hx => Int.le_trans (h.time x hx) hn, fun x hx => (h.sent x hx).mono hs, h.bad⟩
theorem VInv.mono {S S' : Seal → Prop} {now now' next next' : Int} {v : Serv} (hs : ∀ s, S s → S' s) (hn : now ≤ now') (hx : next ≤ next') (h : VInv S now next v) : VInv S' now' next' v := by
  refine ⟨Int.le_trans h.since hn, fun x hx => Int.le_trans (h.time x hx) hn, fun x hx => hs _ (h.auth x hx), fun x hx => (h.tic x hx).mono hs, fun x hx => ?_, h.once, fun a ha => Int.lt_of_lt_of_le (h.cache a ha) hx⟩
  rcases h.old x hx with h1 | h1
  · exact .inl (by omega)
  · exact .inr h1
/-- A word is sent in which no ticket is new. -/
theorem Inv.say {w : World} (h : Inv w) {m : Msg} (hl : w.log.length < 80) (hm : msgOk m = true)
    (hs : ∀ s ∈ m.seals, InS w s ∨ (s.kind ≠ 1 ∧ s.key < w.kdc.next ∧ (s.kind = 2 → Bads (InS w) w.bad s.key ∧ Bads (InS w) w.bad s.b) ∧ (s.kind = 3 → ¬ Bads (InS w) w.bad s.key → AuthBy (InS w) w s) ∧ (s.kind = 4 → ¬ Bads (InS w) w.bad s.key → BackBy w s))) :
    Inv { w with log := w.log ++ [m] } := by
  have hsub : ∀ s, InS w s → InS { w with log := w.log ++ [m] } s := fun s hs => inS_snoc.2 (.inl hs)
  have hok : WOk { w with log := w.log ++ [m] } := by
    have := send_ok (m := some m) h.ok (fun a ha => by cases ha; exact hm)
    simpa [send, hl] using this
  have hb : ∀ k, Bads (InS w) w.bad k → Bads (InS { w with log := w.log ++ [m] }) w.bad k := by
    rintro k (e | ⟨t, h1, h2⟩)
    · exact .inl e
    · exact .inr ⟨t, hsub t h1, h2⟩
  refine ⟨hok, h.log.add (Int.le_refl _) hsub fun s hs' => ?_, fun c hc => (h.cs c hc).mono hsub (Int.le_refl _), fun v hv => (h.vs v hv).mono hsub (Int.le_refl _) (Int.le_refl _), h.kc, fun s hs' hk hbad => ?_, fun s hs' hk hbad => ?_, h.met⟩
  · rcases inS_snoc.1 hs' with h1 | h1
    · exact .inl h1
    · rcases hs s h1 with h2 | h2
      · exact .inl h2
      · exact .inr ⟨msgOk_seals hm s h1, h2.1, h2.2.1, h2.2.2.1⟩
  · have : AuthBy (InS w) w s := by
      rcases inS_snoc.1 hs' with h1 | h1
      · exact h.auth s h1 hk (fun h2 => hbad (hb _ h2))
      · rcases hs s h1 with h2 | h2
        · exact h.auth s h2 hk (fun h2 => hbad (hb _ h2))
        · exact h2.2.2.2.1 hk (fun h2 => hbad (hb _ h2))
    obtain ⟨c, hc, h1, h2, h3, b, h4, h5⟩ := this
    exact ⟨c, hc, h1, h2, h3, b, h4.mono hsub, h5⟩
  · rcases inS_snoc.1 hs' with h1 | h1
    · exact h.back s h1 hk (fun h2 => hbad (hb _ h2))
    · rcases hs s h1 with h2 | h2
      · exact h.back s h2 hk (fun h2 => hbad (hb _ h2))
      · exact h2.2.2.2.2 hk (fun h2 => hbad (hb _ h2))
/-- Who gives tickets turns. -/
theorem Inv.setKdc {w : World} (h : Inv w) {k : Kdc} (hk : KOk k) (hn : w.kdc.next ≤ k.next) (hc : ∀ a ∈ k.cache, a.key < k.next) : Inv { w with kdc := k } :=
  ⟨setKdc_ok h.ok hk, h.log.add hn (fun s hs => hs) (fun s hs => .inl hs), h.cs, fun v hv => (h.vs v hv).mono (fun s hs => hs) (Int.le_refl _) hn, hc, h.auth, h.back, h.met⟩
/-- A ticket is given. -/
theorem Inv.giveT {w : World} (h : Inv w) {k : Kdc} {kind serv user key nonce now til : Int} (hkind : kind = 2 ∨ kind = 4) (hl : w.log.length < 80) (hk : KOk k) (hn : k.next = w.kdc.next + 1) (hc : ∀ a ∈ k.cache, a.key < k.next)
    (hu : 1 ≤ user ∧ user ≤ 3) (ht : sealOk (mkTicket serv user w.kdc.next now til) = true) (hp : sealOk (mkPart key serv w.kdc.next nonce til) = true) (hkey : key = user ∨ ∃ u, InS w u ∧ u.kind = 1 ∧ u.c = key ∧ u.a = user) :
    Inv { w with kdc := k, log := w.log ++ [⟨kind, user, 0, 0, [mkTicket serv user w.kdc.next now til, mkPart key serv w.kdc.next nonce til]⟩] } := by
  have hiff : ∀ s, InS { w with kdc := k, log := w.log ++ [⟨kind, user, 0, 0, [mkTicket serv user w.kdc.next now til, mkPart key serv w.kdc.next nonce til]⟩] } s ↔ InS w s ∨ s = mkTicket serv user w.kdc.next now til ∨ s = mkPart key serv w.kdc.next nonce til := fun s => by
    have := inS_snoc (w := { w with kdc := k }) (m := ⟨kind, user, 0, 0, [mkTicket serv user w.kdc.next now til, mkPart key serv w.kdc.next nonce til]⟩) (s := s)
    simp only [List.mem_cons, List.not_mem_nil, or_false] at this
    exact this
  have hsub : ∀ s, InS w s → InS { w with kdc := k, log := w.log ++ [⟨kind, user, 0, 0, [mkTicket serv user w.kdc.next now til, mkPart key serv w.kdc.next nonce til]⟩] } s := fun s hs => (hiff s).2 (.inl hs)
  have hok : WOk { w with kdc := k, log := w.log ++ [⟨kind, user, 0, 0, [mkTicket serv user w.kdc.next now til, mkPart key serv w.kdc.next nonce til]⟩] } := by
    have := send_ok (m := some ⟨kind, user, 0, 0, [mkTicket serv user w.kdc.next now til, mkPart key serv w.kdc.next nonce til]⟩) (setKdc_ok h.ok hk) (fun a ha => by cases ha; exact mk_msgOk hkind hu ht hp)
    simpa [send, hl] using this
  have hb : ∀ k', Bads (InS w) w.bad k' → Bads (InS { w with kdc := k, log := w.log ++ [⟨kind, user, 0, 0, [mkTicket serv user w.kdc.next now til, mkPart key serv w.kdc.next nonce til]⟩] }) w.bad k' := by
    rintro k' (e | ⟨t, h1, h2⟩)
    · exact .inl e
    · exact .inr ⟨t, hsub t h1, h2⟩
  have hL := h.log.give hiff ht hp hkey
  refine ⟨hok, ?_, fun c hc => (h.cs c hc).mono hsub (Int.le_refl _), fun v hv => (h.vs v hv).mono hsub (Int.le_refl _) (by dsimp only; omega), hc, fun s hs' hk hbad => ?_, fun s hs' hk hbad => ?_, h.met⟩
  · dsimp only; rw [hn]; exact hL
  · rcases (hiff s).1 hs' with h1 | rfl | rfl
    · obtain ⟨c, hc, h1, h2, h3, b, h4, h5⟩ := h.auth s h1 hk (fun h2 => hbad (hb _ h2))
      exact ⟨c, hc, h1, h2, h3, b, h4.mono hsub, h5⟩
    · cases hk
    · cases hk
  · rcases (hiff s).1 hs' with h1 | rfl | rfl
    · exact h.back s h1 hk (fun h2 => hbad (hb _ h2))
    · cases hk
    · cases hk

/-! ### What happens -/
theorem tick_inv {w : World} (h : Inv w) : Inv (tick w) := by
  have hn := h.ok.now
  have hle : w.now ≤ (tick w).now := by simp only [tick]; split <;> omega
  refine ⟨tick_ok h.ok, h.log, fun c hc => (h.cs c hc).mono (fun s hs => hs) hle, fun v hv => (h.vs v hv).mono (fun s hs => hs) hle (Int.le_refl _), h.kc, fun s hs hk hb => ?_, h.back, h.met⟩
  obtain ⟨c, hc, h1, h2, h3, h4⟩ := h.auth s hs hk hb
  exact ⟨c, hc, h1, Int.le_trans h2 hle, h3, h4⟩
theorem fall_inv {w : World} {b : Int} (h : Inv w) : Inv (fall w b) := by
  unfold fall
  split
  · rename_i hb
    have hi := within_iff.1 hb
    have hso := servOf_ok h.ok hi
    have hv := h.vs _ (servOf_mem h.ok hi)
    have ho := servFall_ok hso.1 h.ok.now
    refine h.setServ hi ho.1 (ho.2.trans hso.2) (fun x hx => hx) ⟨?_, hv.time, hv.auth, hv.tic, fun x hx => .inr (.inl ?_), hv.once, by simp [servFall]⟩
    · have := hv.since; simp only [servFall]; split <;> omega
    · have := hv.time x hx; simp only [servFall]; split <;> omega
  · exact h
theorem credAt_in {c : Client} {s : Int} {x : Cred} (h : credAt c s = some x) : x ∈ c.creds ∧ x.serv = s := credAt_some h
/-- What one asks, and what is sent then. -/
theorem asks_inv {w : World} {kind a b : Int} (h : Inv w) : Inv (asks w kind a b) := by
  unfold asks
  split
  · exact h
  rename_i hc
  simp only [not_or, Bool.not_eq_false] at hc
  have hi := within_iff.1 hc.1
  have hco := clientOf_ok h.ok hi
  have hin := clientOf_mem h.ok hi
  have hci := h.cs _ hin
  have ho := ask_ok (kind := kind) (b := b) hco.1 h.ok.now
  have hne : (clientOf w a).id ≠ w.bad := by rw [hco.2]; exact hc.2
  -- the user
  have hcl : Inv (setClient w a (ask (clientOf w a) kind b w.now).1) ∧ (∀ m, (ask (clientOf w a) kind b w.now).2 = some m → ∀ s ∈ m.seals, InS w s ∨ (s.kind = 3 ∧ s.key < w.kdc.next ∧ AuthBy (InS w) (setClient w a (ask (clientOf w a) kind b w.now).1) s)) := by
    have hset : ∀ c' : Client, c' ∈ (setClient w a c').clients := fun c' => by
      refine List.mem_of_getElem? (i := (a - 1).toNat) ?_
      have := h.ok.cl
      simp only [setClient]; rw [List.getElem?_set_self (by omega)]
    unfold ask at ho ⊢
    split at ho
    · rename_i hk
      simp only [if_pos hk]
      rcases clientAs_cases (clientOf w a) with e | ⟨h1, e⟩
      · rw [e] at ho ⊢
        exact ⟨h.setClient hi ho.1 hco.2 (Int.le_refl _) (fun x hx => hx) hci (h.met _ hin), fun m hm => by cases hm⟩
      · rw [e] at ho ⊢
        refine ⟨h.setClient hi ho.1 hco.2 (by dsimp only; omega) (fun x hx => hx) ⟨hci.tick, hci.cred, hci.time, hci.sent, fun e => absurd e hne⟩ (h.met (clientOf w a) hin), fun m hm s hs => ?_⟩
        simp only [Option.some.injEq] at hm
        subst hm; cases hs
    · rename_i hk
      simp only [if_neg hk]
      split at ho
      · rename_i hk2
        simp only [if_pos hk2]
        rcases clientTgs_cases (clientOf w a) b w.now with e | ⟨x, h1, h2, h3, h4, e⟩
        · rw [e] at ho ⊢
          exact ⟨h.setClient hi ho.1 hco.2 (Int.le_refl _) (fun x hx => hx) hci (h.met _ hin), fun m hm => by cases hm⟩
        · rw [e] at ho ⊢
          have hx := credAt_some h1
          have htic := hci.cred x hx.1
          refine ⟨h.setClient hi ho.1 hco.2 (by dsimp only; omega) (fun x hx => hx) ⟨hci.tick, hci.cred, hci.time, hci.sent, fun e => absurd e hne⟩ (h.met (clientOf w a) hin), fun m hm s hs => ?_⟩
          simp only [Option.some.injEq] at hm
          subst hm
          simp only [List.mem_cons, List.not_mem_nil, or_false] at hs
          rcases hs with rfl | rfl
          · exact .inl (hci.tick x hx.1)
          · refine .inr ⟨rfl, (h.log.tic_lt htic).1, _, hset _, rfl, Int.le_refl _, by simp only [mkAuth]; omega, 6, ?_, .inl rfl⟩
            rw [hx.2] at htic; exact htic
      · rename_i hk2
        simp only [if_neg hk2]
        rcases clientAp_cases (clientOf w a) b w.now with e | ⟨x, h1, h2, h3, h4, e⟩
        · rw [e] at ho ⊢
          exact ⟨h.setClient hi ho.1 hco.2 (Int.le_refl _) (fun x hx => hx) hci (h.met _ hin), fun m hm => by cases hm⟩
        · rw [e] at ho ⊢
          have hx := credAt_some h1
          have htic := hci.cred x hx.1
          rw [hx.2] at htic
          refine ⟨h.setClient hi ho.1 hco.2 (by dsimp only; omega) (fun x hx => List.mem_append_left _ hx) ⟨hci.tick, hci.cred, fun y hy => ?_, fun y hy => ?_, fun e => absurd e hne⟩ (h.met (clientOf w a) hin), fun m hm s hs => ?_⟩
          · rcases mem_snoc hy with hy | rfl
            · exact hci.time y hy
            · exact Int.le_refl _
          · rcases mem_snoc hy with hy | rfl
            · exact hci.sent y hy
            · exact htic
          · simp only [Option.some.injEq] at hm
            subst hm
            simp only [List.mem_cons, List.not_mem_nil, or_false] at hs
            rcases hs with rfl | rfl
            · exact .inl (hci.tick x hx.1)
            · exact .inr ⟨rfl, (h.log.tic_lt htic).1, _, hset _, rfl, Int.le_refl _, by simp only [mkAuth]; omega, b, htic, .inr (by simp [mkAuth])⟩
  rcases send_cases (setClient w a (ask (clientOf w a) kind b w.now).1) (ask (clientOf w a) kind b w.now).2 with e | ⟨m, hm, hl, e⟩
  · rw [e]; exact hcl.1
  · rw [e]
    refine hcl.1.say hl (ho.2.2 m hm) fun s hs => ?_
    rcases hcl.2 m hm s hs with h1 | ⟨h1, h2, h3⟩
    · exact .inl h1
    · exact .inr ⟨by omega, h2, fun h4 => by omega, fun _ _ => h3, fun h4 => by omega⟩
theorem forge_inv {w : World} {m : Msg} (h : Inv w) (hm : msgOk m = true) (hs : ∀ s ∈ m.seals, InS w s ∨ (Kn (InS w) w.bad s.key ∧ (sealHolds s = 0 ∨ Kn (InS w) w.bad (sealHolds s)))) : Inv (send w (some m)) := by
  rcases send_cases w (some m) with e | ⟨a, ha, hl, e⟩
  · rw [e]; exact h
  · rw [e]
    cases ha
    refine h.say hl hm fun s hs' => ?_
    rcases hs s hs' with h1 | ⟨h1, h2⟩
    · exact .inl h1
    · have hok := msgOk_seals hm s hs'
      have c := sealOk_cases hok
      have hb := h.log.kn h1
      have hbd := h.log.bd
      have hnx := h.log.nx
      have hlt : s.key < w.kdc.next := by
        rcases hb with e | ⟨t, g1, g2, g3, g4⟩
        · omega
        · have := h.log.next t g1 g2; omega
      refine .inr ⟨fun hk => ?_, hlt, fun hk => ⟨hb, ?_⟩, fun _ hn => absurd hb hn, fun _ hn => absurd hb hn⟩
      · exact h.log.small (by omega) (by omega) hb
      · rw [holds_part hok hk] at h2
        rcases h2 with h2 | h2
        · omega
        · exact h.log.kn h2
theorem bringMsg_inv {w : World} {m : Msg} (h : Inv w) (hm : m ∈ w.log) : Inv (bringMsg w m) := by
  have hmo := h.ok.ms m hm
  have hs := msgOk_shape hmo
  have hin : ∀ s ∈ m.seals, InS w s := fun s hs => ⟨m, hm, hs⟩
  unfold bringMsg
  split
  · -- a first ticket
    have ho := kdcAs_ok (m := m) h.ok.kdc h.ok.now
    rcases kdcAs_cases w.kdc m w.now with e | ⟨h1, h2, h3, e⟩
    · rw [e]
      exact h
    · rw [e] at ho ⊢
      have hkc : ∀ a ∈ w.kdc.cache, a.key < w.kdc.next + 1 := fun a ha => by have := h.kc a ha; omega
      rcases send_cases { w with kdc := { w.kdc with next := w.kdc.next + 1 } } (some (giveMsg w.kdc 2 m.client 6 m.client m.nonce w.now (if 100 < w.now + 12 then 100 else w.now + 12))) with e2 | ⟨a, ha, hl, e2⟩
      · rw [e2]
        exact h.setKdc ho.1 (by dsimp only; omega) hkc
      · rw [e2]
        cases ha
        have hok := msgOk_seals (ho.2 _ rfl)
        exact h.giveT (.inl rfl) hl ho.1 rfl hkc (by omega) (hok _ (by simp [giveMsg])) (hok _ (by simp [giveMsg])) (.inl rfl)
  split
  · -- one for a service
    have ho := kdcTgs_ok (m := m) h.ok.kdc h.ok.now
    rcases kdcTgs_cases w.kdc m w.now with e | ⟨h1, h2, h3, h4, e⟩
    · rw [e]
      exact h
    · have hl2 : m.seals.length = 2 := by omega
      have hin0 := hin _ (seal_in hl2).1
      rw [shown_iff] at h4
      have ct := sealOk_cases (h.log.ok _ hin0)
      have hlt : (sealAt m 1).key < w.kdc.next := by
        rw [h4.2.2.2.2.1]; exact h.log.next _ hin0 h4.1
      have hrem : ∀ a ∈ remember w.kdc.cache (sealAt m 1) w.now, a.key < w.kdc.next := fun a ha => by
        rcases remember_mem ha with ha | ⟨rfl, _⟩
        · exact h.kc a ha
        · exact hlt
      rcases e with ⟨h5, e⟩ | ⟨h5, e⟩
      · rw [e] at ho ⊢
        exact h.setKdc ho.1 (Int.le_refl _) hrem
      · rw [e] at ho ⊢
        have hkc : ∀ a ∈ remember w.kdc.cache (sealAt m 1) w.now, a.key < w.kdc.next + 1 := fun a ha => by have := hrem a ha; omega
        rcases send_cases { w with kdc := { next := w.kdc.next + 1, cache := remember w.kdc.cache (sealAt m 1) w.now } } (some (giveMsg w.kdc 4 (sealAt m 0).a m.serv (sealAt m 0).c m.nonce w.now (sealAt m 0).e)) with e2 | ⟨a, ha, hl, e2⟩
        · rw [e2]
          exact h.setKdc ho.1 (by dsimp only; omega) hkc
        · rw [e2]
          cases ha
          have hok := msgOk_seals (ho.2 _ rfl)
          exact h.giveT (.inr rfl) hl ho.1 rfl hkc (by omega) (hok _ (by simp [giveMsg])) (hok _ (by simp [giveMsg])) (.inr ⟨_, hin0, h4.1, rfl, rfl⟩)
  split
  · -- a call
    have hi : 4 ≤ m.serv ∧ m.serv ≤ 5 := by omega
    have hso := servOf_ok h.ok hi
    have hvm := servOf_mem h.ok hi
    have hv := h.vs _ hvm
    have ho := servHear_ok (m := m) (now := w.now) hso.1
    rcases servHear_cases (servOf w m.serv) m w.now with e | ⟨h1, h2, h3, h4, h5, e⟩
    · rw [e] at ho ⊢
      simp only [send]
      exact h.setServ hi ho.1 hso.2 (fun x hx => hx) hv
    · have hl2 : m.seals.length = 2 := by omega
      have hin0 := hin _ (seal_in hl2).1
      have hin1 := hin _ (seal_in hl2).2
      rw [shown_iff] at h4
      have ct := sealOk_cases (h.log.ok _ hin0)
      have ca := sealOk_cases (h.log.ok _ hin1)
      have hlt : (sealAt m 1).key < w.kdc.next := by
        rw [h4.2.2.2.2.1]; exact h.log.next _ hin0 h4.1
      have hrem : ∀ a ∈ remember (servOf w m.serv).cache (sealAt m 1) w.now, a.key < w.kdc.next := fun a ha => by
        rcases remember_mem ha with ha | ⟨rfl, _⟩
        · exact hv.cache a ha
        · exact hlt
      -- what was taken stays old, or remembered
      have hold : ∀ x ∈ (servOf w m.serv).took, x.time < w.now - 3 ∨ x.time ≤ (servOf w m.serv).since ∨ callAuth x ∈ remember (servOf w m.serv).cache (sealAt m 1) w.now := fun x hx => by
        rcases hv.old x hx with g | g | g
        · exact .inl g
        · exact .inr (.inl g)
        · by_cases hf : x.time < w.now - 3
          · exact .inl hf
          · refine .inr (.inr ?_)
            have hfr : callAuth x ∈ freshen (servOf w m.serv).cache w.now := by
              unfold freshen
              rw [List.mem_filter]
              exact ⟨g, fresh_iff.2 ⟨by dsimp only; omega, hv.time x hx⟩⟩
            unfold remember
            split
            · exact List.mem_append_left _ hfr
            · exact hfr
      rcases e with ⟨h6, e⟩ | ⟨h6, e⟩
      · rw [e] at ho ⊢
        simp only [send]
        exact h.setServ hi ho.1 hso.2 (fun x hx => hx) ⟨hv.since, hv.time, hv.auth, hv.tic, hold, hv.once, hrem⟩
      · rw [e] at ho ⊢
        have hk := h6
        simp only [canKeep, Bool.and_eq_true, Bool.not_eq_true', decide_eq_true_eq, decide_eq_false_iff_not] at hk
        have hfr := fresh_iff.1 hk.1.1
        have hself : callAuth ⟨(sealAt m 1).a, (sealAt m 1).key, (sealAt m 1).b, (sealAt m 1).c⟩ = sealAt m 1 := by
          have h7 : (sealAt m 1).d = 0 ∧ (sealAt m 1).e = 0 := by omega
          have h8 := h4.2.2.2.1
          cases hsm : sealAt m 1 with
          | mk k1 k2 k3 k4 k5 k6 k7 =>
            rw [hsm] at h7 h8
            simp only at h7 h8
            simp [callAuth, h7.1, h7.2, h8]
        have htic : Tic (InS w) (sealAt m 1).a (servOf w m.serv).id (sealAt m 1).key := ⟨_, hin0, h4.1, h4.2.2.2.2.2.symm, by omega, h4.2.2.2.2.1.symm⟩
        have hnew : (⟨(sealAt m 1).a, (sealAt m 1).key, (sealAt m 1).b, (sealAt m 1).c⟩ : Call) ∉ (servOf w m.serv).took := fun hx => by
          rcases hv.old _ hx with g | g | g
          · dsimp only at g; omega
          · dsimp only at g; omega
          · rw [hself] at g
            exact hk.1.2 (by unfold freshen; rw [List.mem_filter]; exact ⟨g, hk.1.1⟩)
        have hvi : VInv (InS w) w.now w.kdc.next { servOf w m.serv with cache := remember (servOf w m.serv).cache (sealAt m 1) w.now, took := (servOf w m.serv).took ++ [⟨(sealAt m 1).a, (sealAt m 1).key, (sealAt m 1).b, (sealAt m 1).c⟩] } := by
          refine ⟨hv.since, fun x hx => ?_, fun x hx => ?_, fun x hx => ?_, fun x hx => ?_, ?_, hrem⟩
          · rcases mem_snoc hx with hx | rfl
            · exact hv.time x hx
            · exact hfr.2
          · rcases mem_snoc hx with hx | rfl
            · exact hv.auth x hx
            · rw [hself]; exact hin1
          · rcases mem_snoc hx with hx | rfl
            · exact hv.tic x hx
            · exact htic
          · rcases mem_snoc hx with hx | rfl
            · exact hold x hx
            · refine .inr (.inr ?_)
              rw [hself]
              simp [remember, h6]
          · rw [List.nodup_append]
            exact ⟨hv.once, by simp, fun a ha b hb e => by rw [List.mem_singleton.1 hb] at e; exact hnew (e ▸ ha)⟩
        have hI := h.setServ hi ho.1 hso.2 (fun x hx => List.mem_append_left _ hx) hvi
        rcases send_cases (setServ w m.serv { servOf w m.serv with cache := remember (servOf w m.serv).cache (sealAt m 1) w.now, took := (servOf w m.serv).took ++ [⟨(sealAt m 1).a, (sealAt m 1).key, (sealAt m 1).b, (sealAt m 1).c⟩] }) (some ⟨6, (sealAt m 1).a, 0, 0, [mkBack (sealAt m 1).key (sealAt m 1).b (sealAt m 1).c]⟩) with e2 | ⟨a, ha, hl, e2⟩
        · rw [e2]; exact hI
        · rw [e2]
          cases ha
          refine hI.say hl (ho.2.2 _ rfl) fun s hs => ?_
          rw [List.mem_singleton.1 hs]
          refine .inr ⟨by simp [mkBack], hlt, fun h4 => by simp [mkBack] at h4, fun h4 => by simp [mkBack] at h4, fun _ _ => ?_⟩
          refine ⟨{ servOf w m.serv with cache := remember (servOf w m.serv).cache (sealAt m 1) w.now, took := (servOf w m.serv).took ++ [⟨(sealAt m 1).a, (sealAt m 1).key, (sealAt m 1).b, (sealAt m 1).c⟩] }, ?_, ⟨(sealAt m 1).a, (sealAt m 1).key, (sealAt m 1).b, (sealAt m 1).c⟩, List.mem_append_right _ (List.mem_singleton.2 rfl), rfl, rfl, rfl⟩
          refine List.mem_of_getElem? (i := (m.serv - 4).toNat) ?_
          have := h.ok.sl
          simp only [setServ]; rw [List.getElem?_set_self (by omega)]
  split
  · exact h
  · -- a user
    rename_i hk1 hk3 hk5 hbad
    have hi : 1 ≤ m.client ∧ m.client ≤ 3 := by omega
    have hco := clientOf_ok h.ok hi
    have hcm := clientOf_mem h.ok hi
    have hci := h.cs _ hcm
    have hne : (clientOf w m.client).id ≠ w.bad := by rw [hco.2]; exact hbad
    have ho := clientHear_ok (m := m) hco.1
    rcases clientHear_cases (clientOf w m.client) m with e | ⟨h1, h2, h3, h4, h5, h6, e⟩ | ⟨h1, h2, h3, e⟩
    · rw [e]
      exact h.setClient hi hco.1 hco.2 (Int.le_refl _) (fun x hx => hx) hci (h.met _ hcm)
    · rw [e] at ho ⊢
      have hk24 : m.kind = 2 ∨ m.kind = 4 := by
        rcases h3 with ⟨g, _⟩ | ⟨g, _⟩
        · exact .inl g
        · exact .inr g
      have hl2 : m.seals.length = 2 := by clear h3; omega
      have hin0 := hin _ (seal_in hl2).1
      have hin1 := hin _ (seal_in hl2).2
      have cp := sealOk_cases (h.log.ok _ hin1)
      have htic : Tic (InS w) (clientOf w m.client).id (sealAt m 1).a (sealAt m 1).b := by
        rcases h3 with ⟨_, g1, g2⟩ | ⟨_, x, g1, g2, g3⟩
        · have hnb : ¬ Bads (InS w) w.bad (sealAt m 1).key := h.log.small (by omega) (by omega)
          obtain ⟨t, k1, k2, k3, k4, k5⟩ := h.log.part _ hin1 h4 hnb
          have ct := sealOk_cases (h.log.ok _ k1)
          rcases k5 with k5 | ⟨u, j1, j2, j3, j4⟩
          · exact ⟨t, k1, k2, by omega, k4, k3⟩
          · have := sealOk_cases (h.log.ok _ j1); omega
        · have hx := credAt_some g1
          have ht6 := hci.cred x hx.1
          have hnb : ¬ Bads (InS w) w.bad (sealAt m 1).key := by rw [g2]; exact h.log.tic_good ht6 hne
          have hlt := h.log.tic_lt ht6
          obtain ⟨t, k1, k2, k3, k4, k5⟩ := h.log.part _ hin1 h4 hnb
          have ct := sealOk_cases (h.log.ok _ k1)
          rcases k5 with k5 | ⟨u, j1, j2, j3, j4⟩
          · omega
          · have := h.log.tic ht6 ⟨u, j1, j2, rfl, rfl, j3.trans g2⟩
            exact ⟨t, k1, k2, by rw [← j4]; exact this.1.symm, k4, k3⟩
      refine h.setClient hi ho.1 hco.2 (Int.le_refl _) (fun x hx => hx) ⟨fun x hx => ?_, fun x hx => ?_, hci.time, hci.sent, fun e => absurd e hne⟩ (h.met (clientOf w m.client) hcm)
      · rcases putCred_mem hx with rfl | hx
        · exact hin0
        · exact hci.tick x hx
      · rcases putCred_mem hx with rfl | hx
        · exact htic
        · exact hci.cred x hx
    · rw [e] at ho ⊢
      have hl1 : m.seals.length = 1 := by omega
      have hin0 := hin _ (seal_in1 hl1)
      refine h.setClient hi ho.1 hco.2 (Int.le_refl _) (fun x hx => hx) ⟨hci.tick, hci.cred, hci.time, hci.sent, fun e => absurd e hne⟩ fun x hx => ?_
      rcases metAll_mem _ _ _ _ hx with hx | ⟨g1, g2, g3, g4, g5⟩
      · exact h.met _ hcm x hx
      · have htic := hci.sent x g1
        have hnb : ¬ Bads (InS w) w.bad (sealAt m 0).key := by rw [← g3]; exact h.log.tic_good htic hne
        obtain ⟨v, hv, y, hy, k1, k2, k3⟩ := h.back _ hin0 g2 hnb
        have := h.log.tic ((h.vs v hv).tic y hy) (by rw [k1, ← g3]; exact htic)
        refine ⟨v, hv, this.2, ?_⟩
        have hy2 : y = (⟨(clientOf w m.client).id, x.key, x.time, x.num⟩ : Call) := by
          cases y
          simp only [Call.mk.injEq]
          exact ⟨this.1, k1.trans g3.symm, k2.trans g4.symm, k3.trans g5.symm⟩
        exact hy2 ▸ hy
theorem bring_inv {w : World} {at_ : Int} (h : Inv w) : Inv (bring w at_) := by
  rcases bring_cases w at_ with e | ⟨_, _, m, _, hm, e⟩
  · rw [e]; exact h
  · rw [e]; exact bringMsg_inv h hm

/-! ### What is known, as the program says it -/
theorem addNew_mem (s : Seal) : ∀ (l out : List Seal), s ∈ addNew out l ↔ s ∈ out ∨ s ∈ l
  | [], out => by simp [addNew]
  | x :: r, out => by
    simp only [addNew]
    rw [addNew_mem s r]
    split
    · rename_i hx
      simp only [List.mem_cons]
      constructor
      · rintro (h | h)
        · exact .inl h
        · exact .inr (.inr h)
      · rintro (h | rfl | h)
        · exact .inl h
        · exact .inl hx
        · exact .inr h
    · simp only [List.mem_append, List.mem_singleton, List.mem_cons, List.not_mem_nil, or_false, or_assoc]
theorem worldSeals_mem {w : World} {s : Seal} : s ∈ worldSeals w ↔ InS w s := by
  unfold worldSeals
  rw [addNew_mem]
  simp [InS, List.mem_flatMap]
theorem comes_iff {w : World} (hb : 0 ≤ w.bad ∧ w.bad ≤ 3) {k : Int} : Comes (own w) (worldSeals w) k ↔ Kn (InS w) w.bad k := by
  constructor
  · intro h
    induction h with
    | has h hk =>
      unfold own at h
      split at h
      · cases h
      · rw [List.mem_singleton.1 h]; exact .own (by omega)
    | opens h _ hp ih => exact .opens (worldSeals_mem.1 h) ih hp
  · intro h
    induction h with
    | own h =>
      refine .has ?_ (within_iff.2 (by omega))
      unfold own; rw [if_neg (by omega)]; simp
    | opens h _ hp ih => exact .opens (worldSeals_mem.2 h) ih hp
theorem comes_eq {keys : List Int} {seals : List Seal} {k : Int} : comes keys seals k = true ↔ Comes keys seals k := by
  unfold comes; exact @decide_eq_true_iff _ (Classical.propDecidable _)
theorem comes_true {w : World} (hb : 0 ≤ w.bad ∧ w.bad ≤ 3) {k : Int} : comes (own w) (worldSeals w) k = true ↔ Kn (InS w) w.bad k := by
  rw [comes_eq]; exact comes_iff hb
theorem Kn.range {S : Seal → Prop} {bad k : Int} (hb : 0 ≤ bad ∧ bad ≤ 3) (h : Kn S bad k) : 1 ≤ k ∧ k ≤ 60 := by
  cases h with
  | own h => omega
  | @opens s _ _ hp =>
    unfold sealHolds at hp ⊢
    split at hp
    · rename_i hok
      rw [if_pos hok]
      have := sealOk_cases hok
      unfold holds at hp ⊢
      split at hp
      · rename_i h1; rw [if_pos h1]; omega
      · rename_i h1
        rw [if_neg h1]
        split at hp
        · rename_i h2; rw [if_pos h2]; omega
        · omega
    · omega
theorem knowKeys_mem {keys : List Int} {seals : List Seal} {k : Int} (h : Comes keys seals k) (hr : 0 ≤ k ∧ k ≤ 60) : k ∈ knowKeys keys seals := by
  unfold knowKeys
  rw [List.mem_filter, List.mem_map]
  refine ⟨⟨k.toNat, by rw [List.mem_range]; omega, by omega⟩, ?_⟩
  exact comes_eq.2 h
theorem knowKeys_of {keys : List Int} {seals : List Seal} {k : Int} (h : k ∈ knowKeys keys seals) : Comes keys seals k := by
  unfold knowKeys at h
  rw [List.mem_filter] at h
  exact comes_eq.1 h.2
noncomputable def worldKeys (w : World) : List Int := knowKeys (own w) (worldSeals w)
theorem worldKeys_mem {w : World} (hb : 0 ≤ w.bad ∧ w.bad ≤ 3) {k : Int} : k ∈ worldKeys w ↔ Kn (InS w) w.bad k := by
  constructor
  · intro h; exact (comes_iff hb).1 (knowKeys_of h)
  · intro h
    have := h.range hb
    exact knowKeys_mem ((comes_iff hb).2 h) (by omega)
theorem knowBuild_cases {w : World} (hb : 0 ≤ w.bad ∧ w.bad ≤ 3) {m : Msg} (h : knowBuild (own w) (worldSeals w) m = true) : msgOk m = true ∧ ∀ s ∈ m.seals, InS w s ∨ (Kn (InS w) w.bad s.key ∧ (sealHolds s = 0 ∨ Kn (InS w) w.bad (sealHolds s))) := by
  simp only [knowBuild, Bool.and_eq_true, List.all_eq_true] at h
  refine ⟨h.1, fun s hs => ?_⟩
  have := h.2 s hs
  simp only [canMake, Bool.or_eq_true, Bool.and_eq_true, decide_eq_true_eq, beq_iff_eq] at this
  rcases this with h1 | ⟨h1, h2⟩
  · exact .inl (worldSeals_mem.1 h1)
  · refine .inr ⟨(comes_true hb).1 h1, ?_⟩
    rcases h2 with h2 | h2
    · exact .inl h2
    · exact .inr ((comes_true hb).1 h2)
theorem step_inv {w : World} {e : Event} (h : Inv w) : Inv (step w e) := by
  unfold step
  split
  · exact asks_inv h
  split
  · exact bring_inv h
  split
  · split
    · rename_i hb
      obtain ⟨h1, h2⟩ := knowBuild_cases h.ok.bad hb
      exact forge_inv h h1 h2
    · exact h
  split
  · exact tick_inv h
  split
  · exact fall_inv h
  · exact h
theorem play_inv : ∀ {es : List Event} {w : World}, Inv w → Inv (play w es)
  | [], w, h => h
  | e :: r, w, h => play_inv (es := r) (step_inv (e := e) h)
end Go.Proofs.YtkdlkclanlkebaaGreat
/- What follows from it: nobody is taken for another one, and so on. -/
set_option linter.unusedVariables false
set_option linter.unusedSimpArgs false
namespace Go.Proofs.YtkdlkclanlkebaaGreat

theorem client_self {w : World} (h : WOk w) {c : Client} (hc : c ∈ w.clients) : clientOf w c.id = c ∧ 1 ≤ c.id ∧ c.id ≤ 3 := by
  obtain ⟨i, hi⟩ := List.getElem?_of_mem hc
  have h1 := (h.cs i c hi).2
  have hl := h.cl
  have hlt := (List.getElem?_eq_some_iff.1 hi).1
  have hg := clientOf_get h (id := c.id) (by omega)
  have e : (c.id - 1).toNat = i := by omega
  rw [e, hi] at hg
  exact ⟨(Option.some.inj hg).symm, by omega, by omega⟩
theorem serv_self {w : World} (h : WOk w) {c : Serv} (hc : c ∈ w.servs) : servOf w c.id = c ∧ 4 ≤ c.id ∧ c.id ≤ 5 := by
  obtain ⟨i, hi⟩ := List.getElem?_of_mem hc
  have h1 := (h.ss i c hi).2
  have hl := h.sl
  have hlt := (List.getElem?_eq_some_iff.1 hi).1
  have hg := servOf_get h (id := c.id) (by omega)
  have e : (c.id - 4).toNat = i := by omega
  rw [e, hi] at hg
  exact ⟨(Option.some.inj hg).symm, by omega, by omega⟩
theorem tookOk_cases {x : Call} (h : tookOk x = true) : (1 ≤ x.peer ∧ x.peer ≤ 3) ∧ (10 ≤ x.key ∧ x.key ≤ 60) ∧ (0 ≤ x.time ∧ x.time ≤ 100) ∧ (1 ≤ x.num ∧ x.num ≤ 60) := by
  simp only [tookOk, Bool.and_eq_true, within_iff] at h
  exact ⟨h.1.1.1, h.1.1.2, h.1.2, h.2⟩
theorem serv_ok {w : World} (h : WOk w) {v : Serv} (hv : v ∈ w.servs) : SOk v := by
  obtain ⟨i, hi⟩ := List.getElem?_of_mem hv
  exact (h.ss i v hi).1
theorem client_ok {w : World} (h : WOk w) {c : Client} (hc : c ∈ w.clients) : COk c := by
  obtain ⟨i, hi⟩ := List.getElem?_of_mem hc
  exact (h.cs i c hi).1
theorem inv_authentic {w : World} (h : Inv w) {v : Serv} (hv : v ∈ w.servs) {x : Call} (hx : x ∈ v.took) (hne : x.peer ≠ w.bad) : (⟨v.id, x.key, x.time, x.num⟩ : Call) ∈ (clientOf w x.peer).sent := by
  have hvi := h.vs v hv
  have htic := hvi.tic x hx
  have hid := serv_self h.ok hv
  obtain ⟨c, hc, h1, h2, h3, b, h4, h5⟩ := h.auth (callAuth x) (hvi.auth x hx) rfl (h.log.tic_good htic hne)
  have hb := (h.log.tic htic h4).2
  have hs := (client_self h.ok hc).1
  simp only [callAuth] at h1
  rw [← h1, hs]
  rcases h5 with h5 | h5
  · omega
  · rw [← hb] at h5; exact h5
theorem inv_mutual {w : World} (h : Inv w) {c : Client} (hc : c ∈ w.clients) {x : Call} (hx : x ∈ c.met) : (4 ≤ x.peer ∧ x.peer ≤ 5) ∧ (⟨c.id, x.key, x.time, x.num⟩ : Call) ∈ (servOf w x.peer).took := by
  obtain ⟨v, hv, h1, h2⟩ := h.met c hc x hx
  have := serv_self h.ok hv
  rw [← h1, this.1]
  exact ⟨this.2, h2⟩
theorem worldKeys_bads {w : World} (h : Inv w) {k : Int} (hk : k ∈ worldKeys w) : Bads (InS w) w.bad k := h.log.kn ((worldKeys_mem h.ok.bad).1 hk)
theorem inv_secret {w : World} (h : Inv w) {k : Int} (h1 : 1 ≤ k) (h2 : k ≤ 6) : k ∈ worldKeys w ↔ k = w.bad := by
  constructor
  · intro hk
    exact Classical.byContradiction fun hne => h.log.small (by omega) hne (worldKeys_bads h hk)
  · rintro rfl
    exact (worldKeys_mem h.ok.bad).2 (.own h1)
theorem inv_cred_key {w : World} (h : Inv w) {c : Client} (hc : c ∈ w.clients) (hne : c.id ≠ w.bad) {x : Cred} (hx : x ∈ c.creds) : x.key ∉ worldKeys w :=
  fun hk => h.log.tic_good ((h.cs c hc).cred x hx) hne (worldKeys_bads h hk)
theorem inv_sent_key {w : World} (h : Inv w) {c : Client} (hc : c ∈ w.clients) (hne : c.id ≠ w.bad) {x : Call} (hx : x ∈ c.sent) : x.key ∉ worldKeys w :=
  fun hk => h.log.tic_good ((h.cs c hc).sent x hx) hne (worldKeys_bads h hk)
theorem inv_honest {w : World} (hb : w.bad = 0) : worldKeys w = [] := by
  apply List.eq_nil_iff_forall_not_mem.2
  intro k hk
  have := (worldKeys_mem (by omega)).1 hk
  have h0 : ∀ k, Kn (InS w) w.bad k → False := fun k hk => by
    induction hk with
    | own h => omega
    | opens _ _ _ ih => exact ih
  exact h0 k this
theorem inv_times_sent {w : World} (h : Inv w) {c : Client} (hc : c ∈ w.clients) {x : Call} (hx : x ∈ c.sent) : x.time ≤ w.now ∧ x.key < w.kdc.next :=
  ⟨(h.cs c hc).time x hx, (h.log.tic_lt ((h.cs c hc).sent x hx)).1⟩
theorem inv_times_took {w : World} (h : Inv w) {v : Serv} (hv : v ∈ w.servs) {x : Call} (hx : x ∈ v.took) : x.time ≤ w.now ∧ x.key < w.kdc.next :=
  ⟨(h.vs v hv).time x hx, (h.log.tic_lt ((h.vs v hv).tic x hx)).1⟩
/-- Whose a key is, for whom: users' tickets. -/
def Holds (c : Client) (serv key : Int) : Prop := (∃ x ∈ c.creds, x.serv = serv ∧ x.key = key) ∨ (∃ x ∈ c.sent, x.peer = serv ∧ x.key = key)
theorem holds_tic {w : World} (h : Inv w) {c : Client} (hc : c ∈ w.clients) {s k : Int} (hh : Holds c s k) : Tic (InS w) c.id s k := by
  rcases hh with ⟨x, hx, rfl, rfl⟩ | ⟨x, hx, rfl, rfl⟩
  · exact (h.cs c hc).cred x hx
  · exact (h.cs c hc).sent x hx
theorem inv_owners {w : World} (h : Inv w) {c c' : Client} (hc : c ∈ w.clients) (hc' : c' ∈ w.clients) {s s' k : Int} (h1 : Holds c s k) (h2 : Holds c' s' k) : c.id = c'.id ∧ s = s' :=
  h.log.tic (holds_tic h hc h1) (holds_tic h hc' h2)
theorem inv_tickets {w : World} (h : Inv w) {s : Seal} (hs : InS w s) (hk : s.kind = 1) : s.c < w.kdc.next ∧ (s.c ∈ worldKeys w → s.a = w.bad) := by
  refine ⟨h.log.next s hs hk, fun hm => Classical.byContradiction fun hne => ?_⟩
  exact h.log.good hs hk hne (worldKeys_bads h hm)
theorem inv_servs {w : World} (h : Inv w) {v v' : Serv} (hv : v ∈ w.servs) (hv' : v' ∈ w.servs) {x y : Call} (hx : x ∈ v.took) (hy : y ∈ v'.took) (hk : x.key = y.key) : x.peer = y.peer ∧ v.id = v'.id := by
  have := (h.vs v' hv').tic y hy
  rw [← hk] at this
  exact h.log.tic ((h.vs v hv).tic x hx) this
theorem inv_auths {w : World} (h : Inv w) {s : Seal} (hs : InS w s) (hk : s.kind = 3) (hn : s.key ∉ worldKeys w) : s.b ≤ w.now ∧ s.c ≤ (clientOf w s.a).num := by
  have ho := sealOk_cases (h.log.ok s hs)
  have hnb : ¬ Bads (InS w) w.bad s.key := fun hb => hn ((worldKeys_mem h.ok.bad).2 (h.log.bads hb (by omega)))
  obtain ⟨c, hc, h1, h2, h3, _⟩ := h.auth s hs hk hnb
  have := (client_self h.ok hc).1
  rw [← h1, this]
  exact ⟨h2, h3⟩
theorem inv_backs {w : World} (h : Inv w) {s : Seal} (hs : InS w s) (hk : s.kind = 4) (hn : s.key ∉ worldKeys w) : BackBy w s := by
  have ho := sealOk_cases (h.log.ok s hs)
  have hnb : ¬ Bads (InS w) w.bad s.key := fun hb => hn ((worldKeys_mem h.ok.bad).2 (h.log.bads hb (by omega)))
  exact h.back s hs hk hnb
theorem inv_parts {w : World} (h : Inv w) {c : Client} (hc : c ∈ w.clients) {x : Cred} (hx : x ∈ c.creds) : ∃ s ∈ worldSeals w, s.kind = 1 ∧ s.a = c.id ∧ s.b = x.serv ∧ s.c = x.key := by
  obtain ⟨t, h1, h2⟩ := (h.cs c hc).cred x hx
  exact ⟨t, worldSeals_mem.2 h1, h2⟩

/-! ### How long what was sent is -/
theorem send_log (w : World) (m : Option Msg) : (send w m).log.length ≤ w.log.length + 1 ∧ w.log.length ≤ (send w m).log.length ∧ (send w m).bad = w.bad ∧ (send w m).now = w.now ∧ (send w m).clients = w.clients ∧ (send w m).servs = w.servs ∧ (send w m).kdc = w.kdc := by
  rcases send_cases w m with e | ⟨a, _, _, e⟩ <;> rw [e]
  · exact ⟨by omega, by omega, rfl, rfl, rfl, rfl, rfl⟩
  · exact ⟨by simp, by simp, rfl, rfl, rfl, rfl, rfl⟩
theorem asks_log (w : World) (kind a b : Int) : (asks w kind a b).log.length ≤ w.log.length + 1 ∧ w.log.length ≤ (asks w kind a b).log.length ∧ (asks w kind a b).bad = w.bad := by
  unfold asks
  split
  · exact ⟨by omega, by omega, rfl⟩
  · have := send_log (setClient w a (ask (clientOf w a) kind b w.now).1) (ask (clientOf w a) kind b w.now).2
    exact ⟨this.1, this.2.1, this.2.2.1⟩
theorem bringMsg_log (w : World) (m : Msg) : (bringMsg w m).log.length ≤ w.log.length + 1 ∧ w.log.length ≤ (bringMsg w m).log.length ∧ (bringMsg w m).bad = w.bad := by
  unfold bringMsg
  split
  · have := send_log { w with kdc := (kdcAs w.kdc m w.now).1 } (kdcAs w.kdc m w.now).2
    exact ⟨this.1, this.2.1, this.2.2.1⟩
  split
  · have := send_log { w with kdc := (kdcTgs w.kdc m w.now).1 } (kdcTgs w.kdc m w.now).2
    exact ⟨this.1, this.2.1, this.2.2.1⟩
  split
  · have := send_log (setServ w m.serv (servHear (servOf w m.serv) m w.now).1) (servHear (servOf w m.serv) m w.now).2
    exact ⟨this.1, this.2.1, this.2.2.1⟩
  split
  · exact ⟨by omega, by omega, rfl⟩
  · exact ⟨by simp [setClient], by simp [setClient], rfl⟩
theorem bring_log (w : World) (k : Int) : (bring w k).log.length ≤ w.log.length + 1 ∧ w.log.length ≤ (bring w k).log.length ∧ (bring w k).bad = w.bad := by
  unfold bring
  split
  · exact bringMsg_log w _
  · exact ⟨by omega, by omega, rfl⟩
theorem step_log (w : World) (e : Event) : (step w e).log.length ≤ w.log.length + 1 ∧ w.log.length ≤ (step w e).log.length ∧ (step w e).bad = w.bad := by
  unfold step
  split
  · exact asks_log ..
  split
  · exact bring_log ..
  split
  · split
    · have := send_log w (some e.msg)
      exact ⟨this.1, this.2.1, this.2.2.1⟩
    · exact ⟨by omega, by omega, rfl⟩
  split
  · exact ⟨by simp [tick], by simp [tick], rfl⟩
  split
  · unfold fall
    split
    · exact ⟨by simp [setServ], by simp [setServ], rfl⟩
    · exact ⟨by omega, by omega, rfl⟩
  · exact ⟨by omega, by omega, rfl⟩
theorem play_log : ∀ (es : List Event) (w : World), (play w es).log.length ≤ w.log.length + es.length ∧ (play w es).bad = w.bad
  | [], w => ⟨by simp [play], rfl⟩
  | e :: r, w => by
    have h1 := step_log w e
    have h2 := play_log r (step w e)
    simp only [play, List.foldl_cons, List.length_cons] at *
    exact ⟨by omega, h2.2.trans h1.2.2⟩

/-! ### The same word once more; later; behind a fall -/
theorem freshen_again (xs : List Seal) (now : Int) : freshen (freshen xs now) now = freshen xs now := by
  simp [freshen, List.filter_filter]
theorem canKeep_no {xs : List Seal} {a : Seal} {now : Int} : canKeep (remember xs a now) a now = false := by
  cases hk : canKeep xs a now with
  | false =>
    have : remember xs a now = freshen xs now := by simp [remember, hk]
    rw [this]
    unfold canKeep at hk ⊢
    rw [freshen_again]; exact hk
  | true =>
    have h1 := hk
    simp only [canKeep, Bool.and_eq_true, Bool.not_eq_true', decide_eq_true_eq, decide_eq_false_iff_not] at h1
    have : a ∈ freshen (remember xs a now) now := by
      unfold freshen
      rw [List.mem_filter]
      exact ⟨by simp [remember, hk], h1.1.1⟩
    simp [canKeep, this]
theorem servHear_again (s : Serv) (m : Msg) (now : Int) : (servHear (servHear s m now).1 m now).2 = none ∧ (servHear (servHear s m now).1 m now).1.took = (servHear s m now).1.took := by
  have key : ∀ s' : Serv, s'.cache = remember s.cache (sealAt m 1) now → (servHear s' m now).2 = none ∧ (servHear s' m now).1.took = s'.took := fun s' hc => by
    rcases servHear_cases s' m now with e | ⟨h1, h2, h3, h4, h5, e⟩
    · rw [e]; exact ⟨rfl, rfl⟩
    · rcases e with ⟨h6, e⟩ | ⟨h6, e⟩
      · rw [e]; exact ⟨rfl, rfl⟩
      · rw [hc, canKeep_no] at h6; cases h6
  rcases servHear_cases s m now with e | ⟨h1, h2, h3, h4, h5, e⟩
  · rw [e, e]; exact ⟨rfl, rfl⟩
  · rcases e with ⟨h6, e⟩ | ⟨h6, e⟩
    · rw [e]; exact key _ rfl
    · rw [e]; exact key _ rfl
theorem servOf_setServ {w : World} (h : WOk w) {id : Int} (hi : 4 ≤ id ∧ id ≤ 5) (s : Serv) : servOf (setServ w id s) id = s := by
  have := h.sl
  simp only [servOf, setServ]
  rw [List.getD_eq_getElem?_getD, List.getElem?_set_self (by omega)]; rfl
theorem clientOf_setClient {w : World} (h : WOk w) {id : Int} (hi : 1 ≤ id ∧ id ≤ 3) (c : Client) : clientOf (setClient w id c) id = c := by
  have := h.cl
  simp only [clientOf, setClient]
  rw [List.getD_eq_getElem?_getD, List.getElem?_set_self (by omega)]; rfl
theorem servOf_send (w : World) (m : Option Msg) (id : Int) : servOf (send w m) id = servOf w id := by
  simp only [servOf, (send_log w m).2.2.2.2.2.1]
theorem clientOf_send (w : World) (m : Option Msg) (id : Int) : clientOf (send w m) id = clientOf w id := by
  simp only [clientOf, (send_log w m).2.2.2.2.1]
theorem bring_call {w : World} (h : WOk w) {k : Nat} {m : Msg} (hm : w.log[k]? = some m) (hk : m.kind = 5) :
    bring w k = send (setServ w m.serv (servHear (servOf w m.serv) m w.now).1) (servHear (servOf w m.serv) m w.now).2 := by
  have hlt := (List.getElem?_eq_some_iff.1 hm).1
  unfold bring
  rw [if_pos (by omega), List.getD_eq_getElem?_getD]
  simp only [Int.toNat_natCast]
  rw [hm]
  simp only [Option.getD_some]
  unfold bringMsg
  rw [if_neg (by omega), if_neg (by omega), if_pos hk]
theorem log_prefix_send (w : World) (m : Option Msg) {k : Nat} {x : Msg} (hx : w.log[k]? = some x) : (send w m).log[k]? = some x := by
  have hlt := (List.getElem?_eq_some_iff.1 hx).1
  rcases send_cases w m with e | ⟨a, _, _, e⟩ <;> rw [e]
  · exact hx
  · rw [List.getElem?_append_left hlt]; exact hx
theorem replay {w : World} (h : WOk w) {k : Nat} {m : Msg} (hm : w.log[k]? = some m) (hk : m.kind = 5) :
    (servOf (bring (bring w k) k) m.serv).took = (servOf (bring w k) m.serv).took ∧ (bring (bring w k) k).log.length = (bring w k).log.length := by
  have hmo := h.ms m (List.mem_of_getElem? hm)
  have hs := msgOk_shape hmo
  have hi : 4 ≤ m.serv ∧ m.serv ≤ 5 := by omega
  have h1 := bring_call h hm hk
  have hok := bring_ok (at_ := k) h
  have hm2 : (bring w k).log[k]? = some m := by rw [h1]; exact log_prefix_send _ _ hm
  have h2 := bring_call hok hm2 hk
  have hnow : (bring w k).now = w.now := by rw [h1]; exact (send_log _ _).2.2.2.1
  have hso : servOf (bring w k) m.serv = (servHear (servOf w m.serv) m w.now).1 := by
    rw [h1, servOf_send, servOf_setServ h hi]
  have ha := servHear_again (servOf w m.serv) m w.now
  rw [h2, hnow, hso, servOf_send, servOf_setServ hok hi, ha.1]
  exact ⟨ha.2, rfl⟩
/-- A call that is too old, or not later than a fall, is not taken. -/
theorem servHear_old {s : Serv} {m : Msg} {now : Int} (h : (sealAt m 1).b ≤ s.since ∨ (sealAt m 1).b < now - 3 ∨ now < (sealAt m 1).b) : (servHear s m now).2 = none ∧ (servHear s m now).1.took = s.took ∧ (servHear s m now).1.since = s.since := by
  rcases servHear_cases s m now with e | ⟨h1, h2, h3, h4, h5, e⟩
  · rw [e]; exact ⟨rfl, rfl, rfl⟩
  · rcases e with ⟨h6, e⟩ | ⟨h6, e⟩
    · rw [e]; exact ⟨rfl, rfl, rfl⟩
    · simp only [canKeep, Bool.and_eq_true] at h6
      have := fresh_iff.1 h6.1.1
      omega
end Go.Proofs.YtkdlkclanlkebaaGreat
/- Who meets. -/
set_option linter.unusedVariables false
set_option linter.unusedSimpArgs false
namespace Go.Proofs.YtkdlkclanlkebaaGreat

/-- The last word is brought, if more than so many were sent. -/
def last (n : Nat) (w : World) : World := if n < w.log.length then bring w ((w.log.length : Int) - 1) else w
def phase (w : World) (kind a b : Int) : World := last (w.log.length + 1) (last w.log.length (asks w kind a b))
def meet (w : World) (user serv : Int) : World := phase (phase (phase (tick w) 1 user serv) 2 user serv) 3 user serv
theorem last_eq {w : World} {l : List Msg} {m : Msg} {n : Nat} (hl : w.log = l ++ [m]) (hn : n ≤ l.length) : last n w = bringMsg w m := by
  unfold last
  have e : w.log.length = l.length + 1 := by rw [hl]; simp
  rw [if_pos (by omega)]
  unfold bring
  rw [if_pos (by omega)]
  have e2 : ((w.log.length : Int) - 1).toNat = l.length := by omega
  have e3 : w.log.getD l.length Msg.zero = m := by
    rw [List.getD_eq_getElem?_getD, hl]; simp
  rw [e2, e3]
theorem last_none {w : World} {n : Nat} (h : w.log.length ≤ n) : last n w = w := by unfold last; rw [if_neg (by omega)]
theorem last_ok {w : World} {n : Nat} (h : WOk w) : WOk (last n w) := by
  unfold last
  split
  · exact bring_ok h
  · exact h
theorem last_inv {w : World} {n : Nat} (h : Inv w) : Inv (last n w) := by
  unfold last
  split
  · exact bring_inv h
  · exact h
theorem phase_ok {w : World} {k a b : Int} (h : WOk w) : WOk (phase w k a b) := last_ok (last_ok (asks_ok h))
theorem phase_inv {w : World} {k a b : Int} (h : Inv w) : Inv (phase w k a b) := last_inv (last_inv (asks_inv h))
theorem meet_ok {w : World} {a b : Int} (h : WOk w) : WOk (meet w a b) := phase_ok (phase_ok (phase_ok (tick_ok h)))
theorem meet_inv {w : World} {a b : Int} (h : Inv w) : Inv (meet w a b) := phase_inv (phase_inv (phase_inv (tick_inv h)))

/-! ### What a step turns -/
structure Fr (w x : World) (who serv : Int) : Prop where
  now : x.now = w.now
  bad : x.bad = w.bad
  cs : ∀ i : Nat, i ≠ (who - 1).toNat → x.clients[i]? = w.clients[i]?
  ss : ∀ i : Nat, i ≠ (serv - 4).toNat → x.servs[i]? = w.servs[i]?
theorem Fr.refl {w : World} {a b : Int} : Fr w w a b := ⟨rfl, rfl, fun _ _ => rfl, fun _ _ => rfl⟩
theorem Fr.trans {w x y : World} {a b : Int} (h : Fr w x a b) (k : Fr x y a b) : Fr w y a b :=
  ⟨k.now.trans h.now, k.bad.trans h.bad, fun i hi => (k.cs i hi).trans (h.cs i hi), fun i hi => (k.ss i hi).trans (h.ss i hi)⟩
theorem fr_send {w : World} {m : Option Msg} {a b : Int} : Fr w (send w m) a b := by
  have := send_log w m
  exact ⟨this.2.2.2.1, this.2.2.1, fun i _ => by rw [this.2.2.2.2.1], fun i _ => by rw [this.2.2.2.2.2.1]⟩
theorem fr_setClient {w : World} {c : Client} {a b : Int} : Fr w (setClient w a c) a b :=
  ⟨rfl, rfl, fun i hi => by simp only [setClient]; rw [List.getElem?_set_ne (fun e => hi e.symm)], fun _ _ => rfl⟩
theorem fr_setServ {w : World} {c : Serv} {a b : Int} : Fr w (setServ w b c) a b :=
  ⟨rfl, rfl, fun _ _ => rfl, fun i hi => by simp only [setServ]; rw [List.getElem?_set_ne (fun e => hi e.symm)]⟩
theorem fr_kdc {w : World} {k : Kdc} {a b : Int} : Fr w { w with kdc := k } a b := ⟨rfl, rfl, fun _ _ => rfl, fun _ _ => rfl⟩

theorem mkAuth_at (t a : Seal) (k c s n : Int) : sealAt ⟨k, c, s, n, [t, a]⟩ 1 = a := rfl
theorem ask_id {c : Client} {kind b now : Int} : (ask c kind b now).1.met = c.met := by
  unfold ask
  split
  · rcases clientAs_cases c with e | ⟨_, e⟩ <;> rw [e]
  split
  · rcases clientTgs_cases c b now with e | ⟨x, _, _, _, _, e⟩ <;> rw [e]
  · rcases clientAp_cases c b now with e | ⟨x, _, _, _, _, e⟩ <;> rw [e]
/-- What one asks, as the word has it. -/
theorem ask_msg {c : Client} {kind b now : Int} {m : Msg} (hk : kind = 1 ∨ kind = 2 ∨ kind = 3) (h : (ask c kind b now).2 = some m) :
    (kind = 1 ∧ m.kind = 1 ∧ m.client = c.id) ∨ (kind = 2 ∧ m.kind = 3 ∧ (sealAt m 1).a = c.id) ∨ (kind = 3 ∧ m.kind = 5 ∧ m.serv = b ∧ (sealAt m 1).a = c.id ∧ (sealAt m 1).b = now) := by
  unfold ask at h
  rcases hk with rfl | rfl | rfl
  · rw [if_pos rfl] at h
    rcases clientAs_cases c with e | ⟨_, e⟩ <;> rw [e] at h <;> simp only [Option.some.injEq, reduceCtorEq] at h
    subst h; exact .inl ⟨rfl, rfl, rfl⟩
  · rw [if_neg (by decide), if_pos rfl] at h
    rcases clientTgs_cases c b now with e | ⟨x, _, _, _, _, e⟩ <;> rw [e] at h <;> simp only [Option.some.injEq, reduceCtorEq] at h
    subst h; exact .inr (.inl ⟨rfl, rfl, rfl⟩)
  · rw [if_neg (by decide), if_neg (by decide)] at h
    rcases clientAp_cases c b now with e | ⟨x, _, _, _, _, e⟩ <;> rw [e] at h <;> simp only [Option.some.injEq, reduceCtorEq] at h
    subst h; exact .inr (.inr ⟨rfl, rfl, rfl, rfl, rfl⟩)
theorem asks_eq {w : World} {kind a b : Int} : asks w kind a b = w ∨ ((1 ≤ a ∧ a ≤ 3) ∧ a ≠ w.bad ∧ asks w kind a b = send (setClient w a (ask (clientOf w a) kind b w.now).1) (ask (clientOf w a) kind b w.now).2) := by
  unfold asks
  split
  · exact .inl rfl
  · rename_i hc
    simp only [not_or, Bool.not_eq_false] at hc
    exact .inr ⟨within_iff.1 hc.1, hc.2, rfl⟩
theorem fr_asks {w : World} {kind a b s : Int} : Fr w (asks w kind a b) a s := by
  rcases asks_eq (w := w) (kind := kind) (a := a) (b := b) with e | ⟨_, _, e⟩ <;> rw [e]
  · exact .refl
  · exact fr_setClient.trans fr_send
theorem asks_met {w : World} (h : WOk w) {kind a b : Int} : (clientOf (asks w kind a b) a).met = (clientOf w a).met := by
  rcases asks_eq (w := w) (kind := kind) (a := a) (b := b) with e | ⟨hi, _, e⟩ <;> rw [e]
  rw [clientOf_send, clientOf_setClient h hi, ask_id]
/-- What is sent then. -/
theorem asks_sent {w : World} (h : WOk w) {kind a b : Int} (hk : kind = 1 ∨ kind = 2 ∨ kind = 3) : (asks w kind a b).log = w.log ∨ ∃ m, (asks w kind a b).log = w.log ++ [m] ∧ ((kind = 1 ∧ m.kind = 1 ∧ m.client = a) ∨ (kind = 2 ∧ m.kind = 3 ∧ (sealAt m 1).a = a) ∨ (kind = 3 ∧ m.kind = 5 ∧ m.serv = b ∧ (sealAt m 1).a = a ∧ (sealAt m 1).b = w.now)) := by
  rcases asks_eq (w := w) (kind := kind) (a := a) (b := b) with e | ⟨hi, _, e⟩ <;> rw [e]
  · exact .inl rfl
  · rcases send_cases (setClient w a (ask (clientOf w a) kind b w.now).1) (ask (clientOf w a) kind b w.now).2 with e | ⟨m, hm, _, e⟩ <;> rw [e]
    · exact .inl rfl
    · have := ask_msg hk hm
      rw [(clientOf_ok h hi).2] at this
      exact .inr ⟨m, rfl, this⟩
/-- What is answered, and what turns. -/
theorem bring_ask {w : World} {m : Msg} {a b : Int} (hk : (m.kind = 1 ∧ m.client = a) ∨ (m.kind = 3 ∧ (sealAt m 1).a = a) ∨ (m.kind = 5 ∧ m.serv = b ∧ (sealAt m 1).a = a)) :
    Fr w (bringMsg w m) a b ∧ (bringMsg w m).clients = w.clients ∧ ((bringMsg w m).log = w.log ∨ ∃ r, (bringMsg w m).log = w.log ++ [r] ∧ r.client = a ∧ ((m.kind ≠ 5 ∧ (r.kind = 2 ∨ r.kind = 4)) ∨ (m.kind = 5 ∧ r.kind = 6 ∧ (sealAt r 0).a = (sealAt m 1).b))) := by
  have hsend : ∀ (v : World) (o : Option Msg), v.log = w.log → (send v o).log = w.log ∨ ∃ r, o = some r ∧ (send v o).log = w.log ++ [r] := fun v o hv => by
    rcases send_cases v o with e | ⟨r, hr, _, e⟩ <;> rw [e]
    · exact .inl hv
    · exact .inr ⟨r, hr, by simp [hv]⟩
  unfold bringMsg
  split
  · rename_i h1
    refine ⟨fr_kdc.trans fr_send, by rw [(send_log _ _).2.2.2.2.1], ?_⟩
    rcases hsend { w with kdc := (kdcAs w.kdc m w.now).1 } (kdcAs w.kdc m w.now).2 rfl with e | ⟨r, hr, e⟩
    · exact .inl e
    · refine .inr ⟨r, e, ?_⟩
      rcases kdcAs_cases w.kdc m w.now with g | ⟨_, _, _, g⟩ <;> rw [g] at hr <;> simp only [Option.some.injEq, reduceCtorEq] at hr
      subst hr
      exact ⟨by simp only [giveMsg]; omega, .inl ⟨by omega, .inl rfl⟩⟩
  rename_i h1
  split
  · rename_i h3
    refine ⟨fr_kdc.trans fr_send, by rw [(send_log _ _).2.2.2.2.1], ?_⟩
    rcases hsend { w with kdc := (kdcTgs w.kdc m w.now).1 } (kdcTgs w.kdc m w.now).2 rfl with e | ⟨r, hr, e⟩
    · exact .inl e
    · refine .inr ⟨r, e, ?_⟩
      rcases kdcTgs_cases w.kdc m w.now with g | ⟨_, _, _, g0, ⟨_, g⟩ | ⟨_, g⟩⟩ <;> rw [g] at hr <;> simp only [Option.some.injEq, reduceCtorEq] at hr
      subst hr
      rw [shown_iff] at g0
      exact ⟨by simp only [giveMsg]; omega, .inl ⟨by omega, .inr rfl⟩⟩
  rename_i h3
  split
  · rename_i h5
    have hb : m.serv = b := by omega
    subst hb
    refine ⟨fr_setServ.trans fr_send, by rw [(send_log _ _).2.2.2.2.1]; rfl, ?_⟩
    rcases hsend (setServ w m.serv (servHear (servOf w m.serv) m w.now).1) (servHear (servOf w m.serv) m w.now).2 rfl with e | ⟨r, hr, e⟩
    · exact .inl e
    · refine .inr ⟨r, e, ?_⟩
      rcases servHear_cases (servOf w m.serv) m w.now with g | ⟨_, _, _, g0, _, ⟨_, g⟩ | ⟨_, g⟩⟩ <;> rw [g] at hr <;> simp only [Option.some.injEq, reduceCtorEq] at hr
      subst hr
      exact ⟨by dsimp only; omega, .inr ⟨by omega, rfl, rfl⟩⟩
  · omega
theorem bring_answer {w : World} {r : Msg} (hk : r.kind = 2 ∨ r.kind = 4 ∨ r.kind = 6) : bringMsg w r = w ∨ bringMsg w r = setClient w r.client (clientHear (clientOf w r.client) r) := by
  unfold bringMsg
  rw [if_neg (by omega), if_neg (by omega), if_neg (by omega)]
  split
  · exact .inl rfl
  · exact .inr rfl
theorem hear_met {c : Client} {r : Msg} (hk : r.kind = 2 ∨ r.kind = 4) : (clientHear c r).met = c.met := by
  rcases clientHear_cases c r with e | ⟨_, _, _, _, _, _, e⟩ | ⟨_, _, h, e⟩
  · rw [e]
  · rw [e]
  · omega
theorem metAll_one (s : Seal) : ∀ sent met : List Call, sent.Pairwise (fun x y => x.num < y.num) → metAll s sent met = met ∨ ∃ z ∈ sent, z.time = s.a ∧ metAll s sent met = met ++ [z]
  | [], met, h => .inl rfl
  | x :: r, met, h => by
    rw [List.pairwise_cons] at h
    simp only [metAll]
    split
    · rename_i hc
      right
      refine ⟨x, List.mem_cons_self, hc.2.2.1, ?_⟩
      exact metAll_none s r _ fun y hy hy2 => by have := h.1 y hy; omega
    · rcases metAll_one s r met h.2 with e | ⟨z, h1, h2, e⟩
      · exact .inl e
      · exact .inr ⟨z, List.mem_cons_of_mem _ h1, h2, e⟩
theorem hear_back {c : Client} {r : Msg} (hc : COk c) : (clientHear c r).met = c.met ∨ ∃ z ∈ c.sent, z.time = (sealAt r 0).a ∧ (clientHear c r).met = c.met ++ [z] := by
  rcases clientHear_cases c r with e | ⟨_, _, _, _, _, _, e⟩ | ⟨_, _, _, e⟩
  · rw [e]; exact .inl rfl
  · rw [e]; exact .inl rfl
  · rw [e]; exact metAll_one _ _ _ hc.sp
/-- Whatever comes of a phase. -/
theorem phase_any {w : World} (h : WOk w) {kind a b : Int} (hk : kind = 1 ∨ kind = 2 ∨ kind = 3) (ha : 1 ≤ a ∧ a ≤ 3) :
    Fr w (phase w kind a b) a b ∧ (phase w kind a b).log.length ≤ w.log.length + 2 ∧ ((clientOf (phase w kind a b) a).met = (clientOf w a).met ∨ (kind = 3 ∧ ∃ z, z.time = w.now ∧ (clientOf (phase w kind a b) a).met = (clientOf w a).met ++ [z])) := by
  have f1 : Fr w (asks w kind a b) a b := fr_asks
  have m1 := asks_met h (kind := kind) (a := a) (b := b)
  have o1 := asks_ok (kind := kind) (a := a) (b := b) h
  unfold phase
  rcases asks_sent h hk (a := a) (b := b) with e | ⟨m, e, hm⟩
  · rw [last_none (w := asks w kind a b) (n := w.log.length) (by rw [e]; exact Nat.le_refl _), last_none (w := asks w kind a b) (n := w.log.length + 1) (by rw [e]; omega)]
    exact ⟨f1, by rw [e]; omega, .inl m1⟩
  · rw [last_eq e (Nat.le_refl _)]
    obtain ⟨f2, c2, hr⟩ := bring_ask (w := asks w kind a b) (m := m) (a := a) (b := b) (by omega)
    have c2' : clientOf (bringMsg (asks w kind a b) m) a = clientOf (asks w kind a b) a := by simp only [clientOf, c2]
    have o2 : WOk (bringMsg (asks w kind a b) m) := bringMsg_ok o1 (o1.ms m (by rw [e]; simp))
    rcases hr with e2 | ⟨r, e2, hc, hr⟩
    · rw [last_none (by rw [e2, e]; simp)]
      exact ⟨f1.trans f2, by rw [e2, e]; simp, .inl (by rw [c2']; exact m1)⟩
    · rw [last_eq e2 (by rw [e]; simp)]
      have hlen : (bringMsg (asks w kind a b) m).log.length = w.log.length + 2 := by rw [e2, e]; simp
      rcases bring_answer (w := bringMsg (asks w kind a b) m) (r := r) (by omega) with g | g
      · rw [g]
        exact ⟨f1.trans f2, by omega, .inl (by rw [c2']; exact m1)⟩
      · rw [g, hc]
        refine ⟨(f1.trans f2).trans fr_setClient, by simp only [setClient]; omega, ?_⟩
        rw [clientOf_setClient o2 ha, c2']
        rcases hr with ⟨h5, h6⟩ | ⟨h5, h6, h7⟩
        · rw [hear_met h6]; exact .inl m1
        · rcases hear_back (c := clientOf (asks w kind a b) a) (r := r) (clientOf_ok o1 ha).1 with g2 | ⟨z, hz, h8, g2⟩
          · rw [g2]; exact .inl m1
          · refine .inr ⟨by omega, z, ?_, by rw [g2, m1]⟩
            rw [h8, h7]; omega
theorem tick_frame (w : World) : (tick w).clients = w.clients ∧ (tick w).servs = w.servs ∧ (tick w).bad = w.bad ∧ (tick w).log = w.log ∧ (tick w).kdc = w.kdc := ⟨rfl, rfl, rfl, rfl, rfl⟩
theorem meet_any {w : World} (h : WOk w) {a b : Int} (ha : 1 ≤ a ∧ a ≤ 3) :
    Fr (tick w) (meet w a b) a b ∧ (meet w a b).log.length ≤ w.log.length + 6 ∧ ((clientOf (meet w a b) a).met = (clientOf w a).met ∨ ∃ z, z.time = (meet w a b).now ∧ (clientOf (meet w a b) a).met = (clientOf w a).met ++ [z]) := by
  have o0 := tick_ok h
  have o1 := phase_ok (k := 1) (a := a) (b := b) o0
  have o2 := phase_ok (k := 2) (a := a) (b := b) o1
  obtain ⟨f1, l1, m1⟩ := phase_any o0 (kind := 1) (a := a) (b := b) (.inl rfl) ha
  obtain ⟨f2, l2, m2⟩ := phase_any o1 (kind := 2) (a := a) (b := b) (.inr (.inl rfl)) ha
  obtain ⟨f3, l3, m3⟩ := phase_any o2 (kind := 3) (a := a) (b := b) (.inr (.inr rfl)) ha
  have f12 := f1.trans f2
  have f := f12.trans f3
  have m1' : (clientOf (phase (tick w) 1 a b) a).met = (clientOf w a).met := by
    rcases m1 with m1 | m1
    · exact m1
    · omega
  have m2' : (clientOf (phase (phase (tick w) 1 a b) 2 a b) a).met = (clientOf w a).met := by
    rcases m2 with m2 | m2
    · rw [m2]; exact m1'
    · omega
  refine ⟨f, ?_, ?_⟩
  · have : (tick w).log.length = w.log.length := rfl
    unfold meet; omega
  · unfold meet
    rcases m3 with m3 | ⟨_, z, hz, m3⟩
    · rw [m3]; exact .inl m2'
    · exact .inr ⟨z, by rw [hz, f.now, f12.now], by rw [m3, m2']⟩
theorem meet_bad {w : World} {a b : Int} (ha : a = w.bad ∨ ¬ (1 ≤ a ∧ a ≤ 3)) : meet w a b = tick w := by
  have h1 : ∀ (v : World) (k : Int), v.bad = w.bad → phase v k a b = v := fun v k hv => by
    have e : asks v k a b = v := by
      unfold asks
      rw [if_pos]
      rcases ha with ha | ha
      · exact .inr (by omega)
      · exact .inl (within_false.2 ha)
    unfold phase
    rw [e, last_none (Nat.le_refl _), last_none (Nat.le_succ _)]
  unfold meet
  rw [h1 (tick w) 1 rfl, h1 (tick w) 2 rfl, h1 (tick w) 3 rfl]
end Go.Proofs.YtkdlkclanlkebaaGreat
/- Who calls while nobody meddles is met; what the bad user comes to. -/
set_option linter.unusedVariables false
set_option linter.unusedSimpArgs false
namespace Go.Proofs.YtkdlkclanlkebaaGreat

theorem send_go {v : World} {m : Msg} (h : v.log.length < 80) : send v (some m) = { v with log := v.log ++ [m] } := by simp [send, h]
theorem asks_go {w : World} {k a b : Int} {c : Client} {m : Msg} (ha : 1 ≤ a ∧ a ≤ 3) (hb : a ≠ w.bad) (h : ask (clientOf w a) k b w.now = (c, some m)) (hl : w.log.length < 80) :
    asks w k a b = { w with clients := w.clients.set (a - 1).toNat c, log := w.log ++ [m] } := by
  unfold asks
  rw [if_neg (by rw [not_or]; exact ⟨by rw [Bool.not_eq_false]; exact within_iff.2 ha, hb⟩), h]
  exact send_go (v := setClient w a c) hl
theorem bring_as {w : World} {m g : Msg} {k : Kdc} (hk : m.kind = 1) (h : kdcAs w.kdc m w.now = (k, some g)) (hl : w.log.length < 80) : bringMsg w m = { w with kdc := k, log := w.log ++ [g] } := by
  unfold bringMsg
  rw [if_pos hk, h]
  simp only [send, if_pos hl]
theorem bring_tgs {w : World} {m g : Msg} {k : Kdc} (hk : m.kind = 3) (h : kdcTgs w.kdc m w.now = (k, some g)) (hl : w.log.length < 80) : bringMsg w m = { w with kdc := k, log := w.log ++ [g] } := by
  unfold bringMsg
  rw [if_neg (by omega), if_pos hk, h]
  simp only [send, if_pos hl]
theorem bring_ap {w : World} {m g : Msg} {s : Serv} (hk : m.kind = 5) (h : servHear (servOf w m.serv) m w.now = (s, some g)) (hl : w.log.length < 80) : bringMsg w m = { w with servs := w.servs.set (m.serv - 4).toNat s, log := w.log ++ [g] } := by
  unfold bringMsg
  rw [if_neg (by omega), if_neg (by omega), if_pos hk, h]
  exact send_go (v := setServ w m.serv s) hl
theorem bring_cl {w : World} {m : Msg} (hk : m.kind = 2 ∨ m.kind = 4 ∨ m.kind = 6) (hb : m.client ≠ w.bad) : bringMsg w m = { w with clients := w.clients.set (m.client - 1).toNat (clientHear (clientOf w m.client) m) } := by
  unfold bringMsg
  rw [if_neg (by omega), if_neg (by omega), if_neg (by omega), if_neg hb]
  rfl
theorem phase_go {w x1 x2 x3 : World} {k a b : Int} {m g : Msg} (h1 : asks w k a b = x1) (l1 : x1.log = w.log ++ [m]) (h2 : bringMsg x1 m = x2) (l2 : x2.log = x1.log ++ [g]) (h3 : bringMsg x2 g = x3) : phase w k a b = x3 := by
  unfold phase
  rw [h1, last_eq l1 (Nat.le_refl _), h2, last_eq l2 (by rw [l1]; simp), h3]
theorem clientOf_set {w : World} (h : w.clients.length = 3) {a : Int} (ha : 1 ≤ a ∧ a ≤ 3) {c : Client} {v : World} (hv : v.clients = w.clients.set (a - 1).toNat c) : clientOf v a = c := by
  simp only [clientOf, hv]
  rw [List.getD_eq_getElem?_getD, List.getElem?_set_self (by omega)]; rfl
theorem servOf_set {w : World} (h : w.servs.length = 2) {a : Int} (ha : 4 ≤ a ∧ a ≤ 5) {c : Serv} {v : World} (hv : v.servs = w.servs.set (a - 4).toNat c) : servOf v a = c := by
  simp only [servOf, hv]
  rw [List.getD_eq_getElem?_getD, List.getElem?_set_self (by omega)]; rfl
theorem credAt_put {c : Client} {x : Cred} {s : Int} (h : x.serv = s) {d : Client} (hd : d.creds = putCred x c.creds) : credAt d s = some x := by
  unfold credAt
  rw [hd, find_putCred, if_pos h]
theorem credAt_put_ne {c : Client} {x : Cred} {s : Int} (h : x.serv ≠ s) {d : Client} (hd : d.creds = putCred x c.creds) : credAt d s = credAt c s := by
  unfold credAt
  rw [hd, find_putCred, if_neg h]
abbrev til (now : Int) : Int := if 100 < now + 12 then 100 else now + 12
/-- A first ticket. -/
theorem phase1 {w : World} (h : WOk w) {a b : Int} (ha : 1 ≤ a ∧ a ≤ 3) (hb : a ≠ w.bad) (hn : (clientOf w a).num + 1 ≤ 60) (hk : w.kdc.next ≤ 60) (hl : w.log.length + 2 ≤ 80) :
    ∃ m g, phase w 1 a b = { w with kdc := { w.kdc with next := w.kdc.next + 1 }, log := w.log ++ [m] ++ [g], clients := w.clients.set (a - 1).toNat { clientOf w a with num := (clientOf w a).num + 1, wants := ((clientOf w a).wants ++ [(⟨6, (clientOf w a).num + 1⟩ : Want)]).erase ⟨6, (clientOf w a).num + 1⟩, creds := putCred ⟨6, w.kdc.next, til w.now, mkTicket 6 a w.kdc.next w.now (til w.now)⟩ (clientOf w a).creds } } := by
  have hco := clientOf_ok h ha
  have hcn := hco.1.num
  have hnow := h.now
  generalize hc : clientOf w a = c at *
  obtain ⟨hco1, rfl⟩ := hco
  have e1 : ask c 1 b w.now = ({ c with num := c.num + 1, wants := c.wants ++ [⟨6, c.num + 1⟩] }, some ⟨1, c.id, 0, c.num + 1, []⟩) := by
    unfold ask
    rw [if_pos rfl]
    rcases clientAs_cases c with e | ⟨_, e⟩
    · unfold clientAs at e; rw [if_neg (by omega)] at e; simp at e
    · exact e
  have o1 := ask_ok (kind := 1) (b := b) hco1 hnow
  rw [e1] at o1
  have hmo := o1.2.2 _ rfl
  have h1 := asks_go (b := b) (k := 1) ha hb (by rw [hc]; exact e1) (by omega)
  have hmk : (⟨1, c.id, 0, c.num + 1, []⟩ : Msg).kind = 1 := rfl
  have e2 : kdcAs w.kdc ⟨1, c.id, 0, c.num + 1, []⟩ w.now = ({ w.kdc with next := w.kdc.next + 1 }, some (giveMsg w.kdc 2 c.id 6 c.id (c.num + 1) w.now (til w.now))) := by
    rcases kdcAs_cases w.kdc ⟨1, c.id, 0, c.num + 1, []⟩ w.now with e | ⟨_, _, _, e⟩
    · unfold kdcAs at e; rw [if_neg (by simp [hmo]; omega)] at e; simp at e
    · exact e
  have o2 := kdcAs_ok (m := ⟨1, c.id, 0, c.num + 1, []⟩) h.kdc hnow
  rw [e2] at o2
  have hgo := o2.2 _ rfl
  have h2 := bring_as (w := { w with clients := w.clients.set (c.id - 1).toNat { c with num := c.num + 1, wants := c.wants ++ [⟨6, c.num + 1⟩] }, log := w.log ++ [⟨1, c.id, 0, c.num + 1, []⟩] }) hmk e2 (by simp; omega)
  refine ⟨⟨1, c.id, 0, c.num + 1, []⟩, giveMsg w.kdc 2 c.id 6 c.id (c.num + 1) w.now (til w.now), ?_⟩
  refine phase_go h1 rfl h2 rfl ?_
  rw [bring_cl (.inl rfl) hb]
  simp only [giveMsg]
  rw [clientOf_set h.cl ha rfl]
  simp only [List.set_set]
  have e3 : clientHear { c with num := c.num + 1, wants := c.wants ++ [⟨6, c.num + 1⟩] } ⟨2, c.id, 0, 0, [mkTicket 6 c.id w.kdc.next w.now (til w.now), mkPart c.id 6 w.kdc.next (c.num + 1) (til w.now)]⟩ = { c with num := c.num + 1, wants := (c.wants ++ [(⟨6, c.num + 1⟩ : Want)]).erase ⟨6, c.num + 1⟩, creds := putCred ⟨6, w.kdc.next, til w.now, mkTicket 6 c.id w.kdc.next w.now (til w.now)⟩ c.creds } := by
    simp only [giveMsg] at hgo
    unfold clientHear
    rw [if_neg (by simp [hgo])]
    simp [sealAt, mkPart, mkTicket, given]
  rw [e3]
/-- One for a service. -/
theorem phase2 {w : World} (h : WOk w) {a b key d t : Int} (ha : 1 ≤ a ∧ a ≤ 3) (hb : a ≠ w.bad) (hs : 4 ≤ b ∧ b ≤ 5) (hn : (clientOf w a).num + 2 ≤ 60) (hk : w.kdc.next ≤ 60) (hl : w.log.length + 2 ≤ 80)
    (hcr : credAt (clientOf w a) 6 = some ⟨6, key, t, mkTicket 6 a key d t⟩) (hd : d ≤ w.now) (ht : w.now ≤ t) (hlen : w.kdc.cache.length ≠ 20) (hfr : ∀ x ∈ w.kdc.cache, x.key < key) :
    ∃ m g k', k'.next = w.kdc.next + 1 ∧ phase w 2 a b = { w with kdc := k', log := w.log ++ [m] ++ [g], clients := w.clients.set (a - 1).toNat { clientOf w a with num := (clientOf w a).num + 2, wants := ((clientOf w a).wants ++ [(⟨b, (clientOf w a).num + 2⟩ : Want)]).erase ⟨b, (clientOf w a).num + 2⟩, creds := putCred ⟨b, w.kdc.next, t, mkTicket b a w.kdc.next w.now t⟩ (clientOf w a).creds } } := by
  have hco := clientOf_ok h ha
  have hcn := hco.1.num
  have hnow := h.now
  have hsrv : servOk b = true := within_iff.2 hs
  generalize hc : clientOf w a = c at *
  obtain ⟨hco1, rfl⟩ := hco
  have hx := credAt_some hcr
  have hcx := credOk_cases (hco1.creds _ hx.1)
  simp only at hcx
  have e1 : ask c 2 b w.now = ({ c with num := c.num + 2, wants := c.wants ++ [⟨b, c.num + 2⟩] }, some ⟨3, 0, b, c.num + 2, [mkTicket 6 c.id key d t, mkAuth c.id key w.now (c.num + 1)]⟩) := by
    unfold ask
    rw [if_neg (by decide), if_pos rfl]
    unfold clientTgs usable
    rw [hcr]
    simp only
    rw [if_neg (by rw [not_or, not_or]; exact ⟨by omega, by simp [hsrv], by omega⟩)]
  have o1 := ask_ok (kind := 2) (b := b) hco1 hnow
  rw [e1] at o1
  have hmo := o1.2.2 _ rfl
  have h1 := asks_go (b := b) (k := 2) ha hb (by rw [hc]; exact e1) (by omega)
  have hcan : canKeep w.kdc.cache (mkAuth c.id key w.now (c.num + 1)) w.now = true := by
    simp only [canKeep, Bool.and_eq_true, Bool.not_eq_true', decide_eq_true_eq, decide_eq_false_iff_not]
    refine ⟨⟨fresh_iff.2 ⟨by simp only [mkAuth]; omega, Int.le_refl _⟩, fun hm => ?_⟩, ?_⟩
    · have := hfr _ (freshen_sub hm); simp only [mkAuth] at this; omega
    · have h1 := h.kdc.cache.len
      have h2 : (freshen w.kdc.cache w.now).length ≤ w.kdc.cache.length := List.length_filter_le _ _
      omega
  have hsh : shown (mkTicket 6 c.id key d t) (mkAuth c.id key w.now (c.num + 1)) 6 w.now = true := by
    rw [shown_iff]
    exact ⟨rfl, rfl, ⟨hd, ht⟩, rfl, rfl, rfl⟩
  have e2 : kdcTgs w.kdc ⟨3, 0, b, c.num + 2, [mkTicket 6 c.id key d t, mkAuth c.id key w.now (c.num + 1)]⟩ w.now = ({ next := w.kdc.next + 1, cache := remember w.kdc.cache (mkAuth c.id key w.now (c.num + 1)) w.now }, some (giveMsg w.kdc 4 c.id b key (c.num + 2) w.now t)) := by
    unfold kdcTgs
    rw [if_neg (by simp only [sealAt]; simp [hmo, hsh]; omega)]
    simp only [sealAt, List.getD_cons_succ, List.getD_cons_zero, hcan]
    simp [mkTicket]
  have o2 := kdcTgs_ok (m := ⟨3, 0, b, c.num + 2, [mkTicket 6 c.id key d t, mkAuth c.id key w.now (c.num + 1)]⟩) h.kdc hnow
  rw [e2] at o2
  have hgo := o2.2 _ rfl
  have h2 := bring_tgs (w := { w with clients := w.clients.set (c.id - 1).toNat { c with num := c.num + 2, wants := c.wants ++ [⟨b, c.num + 2⟩] }, log := w.log ++ [⟨3, 0, b, c.num + 2, [mkTicket 6 c.id key d t, mkAuth c.id key w.now (c.num + 1)]⟩] }) rfl e2 (by simp; omega)
  refine ⟨⟨3, 0, b, c.num + 2, [mkTicket 6 c.id key d t, mkAuth c.id key w.now (c.num + 1)]⟩, giveMsg w.kdc 4 c.id b key (c.num + 2) w.now t, { next := w.kdc.next + 1, cache := remember w.kdc.cache (mkAuth c.id key w.now (c.num + 1)) w.now }, rfl, ?_⟩
  refine phase_go h1 rfl h2 rfl ?_
  · rw [bring_cl (.inr (.inl rfl)) hb]
    simp only [giveMsg]
    rw [clientOf_set h.cl ha rfl]
    simp only [List.set_set]
    have e3 : clientHear { c with num := c.num + 2, wants := c.wants ++ [⟨b, c.num + 2⟩] } ⟨4, c.id, 0, 0, [mkTicket b c.id w.kdc.next w.now t, mkPart key b w.kdc.next (c.num + 2) t]⟩ = { c with num := c.num + 2, wants := (c.wants ++ [(⟨b, c.num + 2⟩ : Want)]).erase ⟨b, c.num + 2⟩, creds := putCred ⟨b, w.kdc.next, t, mkTicket b c.id w.kdc.next w.now t⟩ c.creds } := by
      simp only [giveMsg] at hgo
      have hcr' : credAt { c with num := c.num + 2, wants := c.wants ++ [⟨b, c.num + 2⟩] } 6 = some ⟨6, key, t, mkTicket 6 c.id key d t⟩ := hcr
      unfold clientHear
      rw [if_neg (by simp [hgo]), hcr']
      simp [sealAt, mkPart, mkTicket, given, hsrv]
    rw [e3]
/-- The call. -/
theorem phase3 {w : World} (h : WOk w) {a b key d t : Int} (ha : 1 ≤ a ∧ a ≤ 3) (hb : a ≠ w.bad) (hs : 4 ≤ b ∧ b ≤ 5) (hn : (clientOf w a).num + 1 ≤ 60) (hl : w.log.length + 2 ≤ 80)
    (hcr : credAt (clientOf w a) b = some ⟨b, key, t, mkTicket b a key d t⟩) (hd : d ≤ w.now) (ht : w.now ≤ t) (hlen : (servOf w b).cache.length ≠ 20) (hfr : ∀ x ∈ (servOf w b).cache, x.key < key) (hsent : ∀ x ∈ (clientOf w a).sent, x.key < key) (hsince : (servOf w b).since < w.now) :
    (clientOf (phase w 3 a b) a).met = (clientOf w a).met ++ [⟨b, key, w.now, (clientOf w a).num + 1⟩] ∧ (servOf (phase w 3 a b) b).took = (servOf w b).took ++ [⟨a, key, w.now, (clientOf w a).num + 1⟩] := by
  have hco := clientOf_ok h ha
  have hso := servOf_ok h hs
  have hcn := hco.1.num
  have hnow := h.now
  have hsrv : servOk b = true := within_iff.2 hs
  generalize hc : clientOf w a = c at *
  generalize hv : servOf w b = v at *
  obtain ⟨hco1, rfl⟩ := hco
  have hx := credAt_some hcr
  have hcx := credOk_cases (hco1.creds _ hx.1)
  simp only at hcx
  have e1 : ask c 3 b w.now = ({ c with num := c.num + 1, sent := c.sent ++ [⟨b, key, w.now, c.num + 1⟩] }, some ⟨5, 0, b, 0, [mkTicket b c.id key d t, mkAuth c.id key w.now (c.num + 1)]⟩) := by
    unfold ask
    rw [if_neg (by decide), if_neg (by decide)]
    unfold clientAp usable
    rw [hcr]
    simp only
    rw [if_neg (by rw [not_or, not_or]; exact ⟨by omega, by simp [hsrv], by omega⟩)]
  have o1 := ask_ok (kind := 3) (b := b) hco1 hnow
  rw [e1] at o1
  have hmo := o1.2.2 _ rfl
  have h1 := asks_go (b := b) (k := 3) ha hb (by rw [hc]; exact e1) (by omega)
  have hcan : canKeep v.cache (mkAuth c.id key w.now (c.num + 1)) w.now = true := by
    simp only [canKeep, Bool.and_eq_true, Bool.not_eq_true', decide_eq_true_eq, decide_eq_false_iff_not]
    refine ⟨⟨fresh_iff.2 ⟨by simp only [mkAuth]; omega, Int.le_refl _⟩, fun hm => ?_⟩, ?_⟩
    · have := hfr _ (freshen_sub hm); simp only [mkAuth] at this; omega
    · have h1 := hso.1.cache.len
      have h2 : (freshen v.cache w.now).length ≤ v.cache.length := List.length_filter_le _ _
      omega
  have hsh : shown (mkTicket b c.id key d t) (mkAuth c.id key w.now (c.num + 1)) v.id w.now = true := by
    rw [shown_iff]
    exact ⟨rfl, hso.2.symm, ⟨hd, ht⟩, rfl, rfl, rfl⟩
  have e2 : servHear v ⟨5, 0, b, 0, [mkTicket b c.id key d t, mkAuth c.id key w.now (c.num + 1)]⟩ w.now = ({ v with cache := remember v.cache (mkAuth c.id key w.now (c.num + 1)) w.now, took := v.took ++ [⟨c.id, key, w.now, c.num + 1⟩] }, some ⟨6, c.id, 0, 0, [mkBack key w.now (c.num + 1)]⟩) := by
    unfold servHear
    rw [if_neg (by
      rintro (g | g | g | g | g)
      · exact g rfl
      · rw [hmo] at g; cases g
      · exact g hso.2.symm
      · simp only [sealAt, List.getD_cons_succ, List.getD_cons_zero] at g; rw [hsh] at g; cases g
      · simp only [sealAt, List.getD_cons_succ, List.getD_cons_zero, mkAuth] at g; omega)]
    simp only [sealAt, List.getD_cons_succ, List.getD_cons_zero, hcan]
    simp [mkAuth]
  have o2 := servHear_ok (m := ⟨5, 0, b, 0, [mkTicket b c.id key d t, mkAuth c.id key w.now (c.num + 1)]⟩) (now := w.now) hso.1
  rw [e2] at o2
  have hgo := o2.2.2 _ rfl
  have h2 := bring_ap (w := { w with clients := w.clients.set (c.id - 1).toNat { c with num := c.num + 1, sent := c.sent ++ [⟨b, key, w.now, c.num + 1⟩] }, log := w.log ++ [⟨5, 0, b, 0, [mkTicket b c.id key d t, mkAuth c.id key w.now (c.num + 1)]⟩] }) rfl (by rw [← hv] at e2; exact e2) (by simp; omega)
  rw [hv] at h2
  have h3 := bring_cl (w := { w with clients := w.clients.set (c.id - 1).toNat { c with num := c.num + 1, sent := c.sent ++ [⟨b, key, w.now, c.num + 1⟩] }, log := w.log ++ [⟨5, 0, b, 0, [mkTicket b c.id key d t, mkAuth c.id key w.now (c.num + 1)]⟩] ++ [⟨6, c.id, 0, 0, [mkBack key w.now (c.num + 1)]⟩], servs := w.servs.set (b - 4).toNat { v with cache := remember v.cache (mkAuth c.id key w.now (c.num + 1)) w.now, took := v.took ++ [⟨c.id, key, w.now, c.num + 1⟩] } }) (m := ⟨6, c.id, 0, 0, [mkBack key w.now (c.num + 1)]⟩) (.inr (.inr rfl)) hb
  have hp := phase_go h1 rfl h2 rfl h3
  rw [hp]
  refine ⟨?_, ?_⟩
  · rw [clientOf_set (w := { w with clients := w.clients.set (c.id - 1).toNat { c with num := c.num + 1, sent := c.sent ++ [⟨b, key, w.now, c.num + 1⟩] } }) (by simp [h.cl]) ha rfl, clientOf_set h.cl ha rfl]
    unfold clientHear
    rw [if_neg (by simp [hgo])]
    simp only [sealAt, List.getD_cons_zero]
    simp only [met, metAll_append]
    have hnomet : ∀ x ∈ c.met, x.key < key := fun x hx => hsent x (hco1.met x hx)
    rw [metAll_none _ c.sent c.met (fun x hx hm => by have := hsent x hx; simp only [mkBack] at hm; omega)]
    simp only [metAll]
    have hnm : (⟨b, key, w.now, c.num + 1⟩ : Call) ∉ c.met := fun hm => by have := hnomet _ hm; simp at this
    simp [mkBack, hnm]
  · rw [servOf_set h.sl hs rfl]

/-- While nobody meddles who calls is met. -/
theorem meet_good {w : World} (h : Inv w) {a b : Int} (ha : 1 ≤ a ∧ a ≤ 3) (hb : a ≠ w.bad) (hs : 4 ≤ b ∧ b ≤ 5) (hnow : w.now ≠ 100) (hk : w.kdc.next + 1 ≤ 60) (hn : (clientOf w a).num + 4 ≤ 60) (hl : w.log.length + 6 ≤ 80) (hkc : w.kdc.cache.length ≠ 20) (hsc : (servOf w b).cache.length ≠ 20) :
    (clientOf (meet w a b) a).met = (clientOf w a).met ++ [⟨b, w.kdc.next + 1, w.now + 1, (clientOf w a).num + 4⟩] ∧ (servOf (meet w a b) b).took = (servOf w b).took ++ [⟨a, w.kdc.next + 1, w.now + 1, (clientOf w a).num + 4⟩] ∧ (meet w a b).now = w.now + 1 := by
  have hwn := h.ok.now
  have o0 := tick_ok h.ok
  have t0 : (tick w).now = w.now + 1 := by simp only [tick]; rw [if_neg (by omega)]
  have hcl0 : clientOf (tick w) a = clientOf w a := rfl
  have hsv0 : servOf (tick w) b = servOf w b := rfl
  obtain ⟨m1, g1, p1⟩ := phase1 (b := b) o0 ha hb (by rw [hcl0]; omega) (by have : (tick w).kdc = w.kdc := rfl; rw [this]; omega) (by have : (tick w).log = w.log := rfl; rw [this]; omega)
  have o1 := phase_ok (k := 1) (a := a) (b := b) o0
  have hc1 : clientOf (phase (tick w) 1 a b) a = { clientOf w a with num := (clientOf w a).num + 1, wants := ((clientOf w a).wants ++ [(⟨6, (clientOf w a).num + 1⟩ : Want)]).erase ⟨6, (clientOf w a).num + 1⟩, creds := putCred ⟨6, w.kdc.next, til (tick w).now, mkTicket 6 a w.kdc.next (tick w).now (til (tick w).now)⟩ (clientOf w a).creds } := by
    rw [p1]; exact clientOf_set o0.cl ha rfl
  have ht : 0 ≤ til (tick w).now ∧ til (tick w).now ≤ 100 ∧ (tick w).now ≤ til (tick w).now := til_ok o0.now
  generalize hT : til (tick w).now = T at *
  have k1 : (phase (tick w) 1 a b).kdc = { w.kdc with next := w.kdc.next + 1 } := by rw [p1]; rfl
  have n1 : (phase (tick w) 1 a b).now = w.now + 1 := by rw [p1]; exact t0
  have b1 : (phase (tick w) 1 a b).bad = w.bad := by rw [p1]; rfl
  have l1 : (phase (tick w) 1 a b).log.length = w.log.length + 2 := by rw [p1]; simp [tick]
  have s1 : (phase (tick w) 1 a b).servs = w.servs := by rw [p1]; rfl
  generalize hx1 : phase (tick w) 1 a b = x1 at *
  have hnx := h.ok.kdc.next
  obtain ⟨m2, g2, k', hk', p2⟩ := phase2 (w := x1) (a := a) (b := b) (key := w.kdc.next) (d := (tick w).now) (t := T) o1 ha (by rw [b1]; exact hb) hs (by rw [hc1]; dsimp only; omega) (by rw [k1]; dsimp only; omega) (by omega)
    (by rw [hc1]; exact credAt_put (c := clientOf w a) (x := ⟨6, w.kdc.next, T, mkTicket 6 a w.kdc.next (tick w).now T⟩) rfl rfl) (by rw [n1, t0]; omega) (by rw [n1]; omega) (by rw [k1]; exact hkc) (by rw [k1]; exact h.kc)
  have o2 := phase_ok (k := 2) (a := a) (b := b) o1
  have hc2 : clientOf (phase x1 2 a b) a = { clientOf x1 a with num := (clientOf x1 a).num + 2, wants := ((clientOf x1 a).wants ++ [(⟨b, (clientOf x1 a).num + 2⟩ : Want)]).erase ⟨b, (clientOf x1 a).num + 2⟩, creds := putCred ⟨b, x1.kdc.next, T, mkTicket b a x1.kdc.next x1.now T⟩ (clientOf x1 a).creds } := by
    rw [p2]; exact clientOf_set o1.cl ha rfl
  have n2 : (phase x1 2 a b).now = w.now + 1 := by rw [p2]; exact n1
  have b2 : (phase x1 2 a b).bad = w.bad := by rw [p2]; exact b1
  have l2 : (phase x1 2 a b).log.length = w.log.length + 4 := by rw [p2]; simp; omega
  have s2 : (phase x1 2 a b).servs = w.servs := by rw [p2]; exact s1
  generalize hx2 : phase x1 2 a b = x2 at *
  have hsv2 : servOf x2 b = servOf w b := by simp only [servOf, s2]
  have hv := h.vs _ (servOf_mem h.ok hs)
  have hci := h.cs _ (clientOf_mem h.ok ha)
  have hnum : (clientOf x2 a).num = (clientOf w a).num + 3 := by rw [hc2, hc1]; dsimp only; omega
  have hst : (clientOf x2 a).sent = (clientOf w a).sent := by rw [hc2, hc1]
  have hmt : (clientOf x2 a).met = (clientOf w a).met := by rw [hc2, hc1]
  have p3 := phase3 (w := x2) (a := a) (b := b) (key := w.kdc.next + 1) (d := w.now + 1) (t := T) o2 ha (by rw [b2]; exact hb) hs (by omega) (by omega)
    (by rw [hc2, k1, n1]; exact credAt_put (c := clientOf x1 a) (x := ⟨b, w.kdc.next + 1, T, mkTicket b a (w.kdc.next + 1) (w.now + 1) T⟩) rfl rfl) (by rw [n2]; omega) (by rw [n2]; omega) (by rw [hsv2]; exact hsc) (by rw [hsv2]; exact fun x hx => by have := hv.cache x hx; omega) (by rw [hst]; exact fun x hx => by have := (h.log.tic_lt (hci.sent x hx)).1; omega) (by rw [hsv2, n2]; have := hv.since; omega)
  have f3 := (phase_any o2 (kind := 3) (a := a) (b := b) (.inr (.inr rfl)) ha).1
  unfold meet
  rw [hx1, hx2, p3.1, p3.2, hnum, hmt, hsv2, n2, f3.now, n2, Int.add_assoc]
  exact ⟨rfl, rfl, rfl⟩
end Go.Proofs.YtkdlkclanlkebaaGreat
/- What the bad user comes to; laws of single steps. -/
set_option linter.unusedVariables false
set_option linter.unusedSimpArgs false
namespace Go.Proofs.YtkdlkclanlkebaaGreat

noncomputable def forge (w : World) (m : Msg) : World := if knowBuild (own w) (worldSeals w) m then send w (some m) else w
theorem step_forge (w : World) (a b : Int) (m : Msg) : step w ⟨5, a, b, m⟩ = forge w m := by simp [step, forge]
theorem step_bring (w : World) (a b : Int) (m : Msg) : step w ⟨4, a, b, m⟩ = bring w a := by simp [step]
theorem step_tick (w : World) (a b : Int) (m : Msg) : step w ⟨6, a, b, m⟩ = tick w := by simp [step]
theorem step_fall (w : World) (a b : Int) (m : Msg) : step w ⟨7, a, b, m⟩ = fall w b := by simp [step]
theorem forge_ok {w : World} {m : Msg} (h : WOk w) : WOk (forge w m) := by rw [← step_forge w 0 0]; exact step_ok h
theorem forge_inv' {w : World} {m : Msg} (h : Inv w) : Inv (forge w m) := by rw [← step_forge w 0 0]; exact step_inv h
/-- The bad user comes to a ticket for a service, and calls with it as somebody. -/
noncomputable def badCalls (w : World) (serv as_ : Int) : World :=
  if (bring (forge w ⟨1, w.bad, 0, 1, []⟩) w.log.length).log.length ≠ w.log.length + 2 then bring (forge w ⟨1, w.bad, 0, 1, []⟩) w.log.length
  else badCalls2 (bring (forge w ⟨1, w.bad, 0, 1, []⟩) w.log.length) w.log.length serv as_
where
  badCalls2 (w : World) (n : Nat) (serv as_ : Int) : World :=
    if (bring (forge w ⟨3, 0, serv, 1, [sealAt (w.log.getD (n + 1) Msg.zero) 0, mkAuth w.bad (sealAt (w.log.getD (n + 1) Msg.zero) 0).c w.now 1]⟩) ((n : Int) + 2)).log.length ≠ n + 4
    then bring (forge w ⟨3, 0, serv, 1, [sealAt (w.log.getD (n + 1) Msg.zero) 0, mkAuth w.bad (sealAt (w.log.getD (n + 1) Msg.zero) 0).c w.now 1]⟩) ((n : Int) + 2)
    else badCalls3 (bring (forge w ⟨3, 0, serv, 1, [sealAt (w.log.getD (n + 1) Msg.zero) 0, mkAuth w.bad (sealAt (w.log.getD (n + 1) Msg.zero) 0).c w.now 1]⟩) ((n : Int) + 2)) n serv as_
  badCalls3 (w : World) (n : Nat) (serv as_ : Int) : World :=
    bring (forge w ⟨5, 0, serv, 0, [sealAt (w.log.getD (n + 3) Msg.zero) 0, mkAuth as_ (sealAt (w.log.getD (n + 3) Msg.zero) 0).c w.now 1]⟩) ((n : Int) + 4)
open badCalls
theorem badCalls_inv {w : World} {serv as_ : Int} (h : Inv w) : Inv (badCalls w serv as_) := by
  unfold badCalls
  split
  · exact bring_inv (forge_inv' h)
  · unfold badCalls2
    split
    · exact bring_inv (forge_inv' (bring_inv (forge_inv' h)))
    · exact bring_inv (forge_inv' (bring_inv (forge_inv' (bring_inv (forge_inv' h)))))
theorem knowBuild_of {w : World} (hb : 0 ≤ w.bad ∧ w.bad ≤ 3) {m : Msg} (hm : msgOk m = true) (hs : ∀ s ∈ m.seals, InS w s ∨ (Kn (InS w) w.bad s.key ∧ (sealHolds s = 0 ∨ Kn (InS w) w.bad (sealHolds s)))) : knowBuild (own w) (worldSeals w) m = true := by
  simp only [knowBuild, Bool.and_eq_true, List.all_eq_true]
  refine ⟨hm, fun s h => ?_⟩
  simp only [canMake, Bool.or_eq_true, Bool.and_eq_true, decide_eq_true_eq, beq_iff_eq]
  rcases hs s h with h1 | ⟨h1, h2⟩
  · exact .inl (worldSeals_mem.2 h1)
  · refine .inr ⟨(comes_true hb).2 h1, ?_⟩
    rcases h2 with h2 | h2
    · exact .inl h2
    · exact .inr ((comes_true hb).2 h2)
theorem forge_cases (w : World) (m : Msg) : forge w m = w ∨ (msgOk m = true ∧ forge w m = { w with log := w.log ++ [m] }) := by
  unfold forge
  split
  · rename_i hb
    rcases send_cases w (some m) with e | ⟨a, ha, _, e⟩
    · exact .inl e
    · cases ha; exact .inr ⟨knowBuild_ok hb, e⟩
  · exact .inl rfl
theorem forge_go {w : World} {m : Msg} (hb : 0 ≤ w.bad ∧ w.bad ≤ 3) (hm : msgOk m = true) (hs : ∀ s ∈ m.seals, InS w s ∨ (Kn (InS w) w.bad s.key ∧ (sealHolds s = 0 ∨ Kn (InS w) w.bad (sealHolds s)))) (hl : w.log.length < 80) : forge w m = { w with log := w.log ++ [m] } := by
  unfold forge
  rw [if_pos (knowBuild_of hb hm hs)]
  simp only [send, if_pos hl]
theorem bring_last {w : World} {l : List Msg} {m : Msg} {n : Int} (hl : w.log = l ++ [m]) (hn : n = l.length) : bring w n = bringMsg w m := by
  unfold bring
  have e : w.log.length = l.length + 1 := by rw [hl]; simp
  rw [if_pos (by omega)]
  have e2 : n.toNat = l.length := by omega
  have e3 : w.log.getD l.length Msg.zero = m := by
    rw [List.getD_eq_getElem?_getD, hl]; simp
  rw [e2, e3]
theorem bring_out {w : World} {n : Int} (hn : ¬ (0 ≤ n ∧ n < w.log.length)) : bring w n = w := by unfold bring; rw [if_neg hn]
theorem bringMsg_kdc {w : World} {m : Msg} (hk : m.kind = 1 ∨ m.kind = 3) : (bringMsg w m).servs = w.servs := by
  unfold bringMsg
  split
  · rw [(send_log _ _).2.2.2.2.2.1]
  split
  · rw [(send_log _ _).2.2.2.2.2.1]
  · omega
/-- What was forged, and brought: no service turns, but by a call. -/
theorem forge_bring {w : World} {m : Msg} {n : Int} (hk : m.kind = 1 ∨ m.kind = 3) (hn : n = w.log.length) : (bring (forge w m) n).servs = w.servs ∧ ((bring (forge w m) n).log.length = w.log.length + 2 → bring (forge w m) n = bringMsg { w with log := w.log ++ [m] } m ∧ msgOk m = true) := by
  rcases forge_cases w m with e | ⟨hm, e⟩
  · rw [e, bring_out (by omega)]
    exact ⟨rfl, fun h => by omega⟩
  · rw [e, bring_last (w := { w with log := w.log ++ [m] }) (l := w.log) rfl hn]
    exact ⟨bringMsg_kdc hk, fun _ => ⟨rfl, hm⟩⟩
theorem answer_as {w : World} {m : Msg} (hk : m.kind = 1) (hl : (bringMsg w m).log.length = w.log.length + 1) : (bringMsg w m).log = w.log ++ [giveMsg w.kdc 2 m.client 6 m.client m.nonce w.now (til w.now)] ∧ (bringMsg w m).now = w.now ∧ (bringMsg w m).bad = w.bad := by
  unfold bringMsg at hl ⊢
  rw [if_pos hk] at hl ⊢
  have hs := send_log { w with kdc := (kdcAs w.kdc m w.now).1 } (kdcAs w.kdc m w.now).2
  refine ⟨?_, hs.2.2.2.1, hs.2.2.1⟩
  rcases kdcAs_cases w.kdc m w.now with g | ⟨_, _, _, g⟩
  · rw [g] at hl; simp [send] at hl
  · rw [g] at hl ⊢
    rcases send_cases { w with kdc := { w.kdc with next := w.kdc.next + 1 } } (some (giveMsg w.kdc 2 m.client 6 m.client m.nonce w.now (if 100 < w.now + 12 then 100 else w.now + 12))) with e | ⟨a, ha, _, e⟩
    · rw [e] at hl; simp at hl
    · rw [e]; cases ha; rfl
theorem answer_tgs {w : World} {m : Msg} (hk : m.kind = 3) (hl : (bringMsg w m).log.length = w.log.length + 1) : (bringMsg w m).log = w.log ++ [giveMsg w.kdc 4 (sealAt m 0).a m.serv (sealAt m 0).c m.nonce w.now (sealAt m 0).e] ∧ (bringMsg w m).now = w.now ∧ (bringMsg w m).bad = w.bad := by
  unfold bringMsg at hl ⊢
  rw [if_neg (by omega), if_pos hk] at hl ⊢
  have hs := send_log { w with kdc := (kdcTgs w.kdc m w.now).1 } (kdcTgs w.kdc m w.now).2
  refine ⟨?_, hs.2.2.2.1, hs.2.2.1⟩
  rcases kdcTgs_cases w.kdc m w.now with g | ⟨_, _, _, _, ⟨_, g⟩ | ⟨_, g⟩⟩
  · rw [g] at hl; simp [send] at hl
  · rw [g] at hl; simp [send] at hl
  · rw [g] at hl ⊢
    rcases send_cases { w with kdc := { next := w.kdc.next + 1, cache := remember w.kdc.cache (sealAt m 1) w.now } } (some (giveMsg w.kdc 4 (sealAt m 0).a m.serv (sealAt m 0).c m.nonce w.now (sealAt m 0).e)) with e | ⟨a, ha, _, e⟩
    · rw [e] at hl; simp at hl
    · rw [e]; cases ha; rfl
theorem getD_last {l : List Msg} {m : Msg} {k : Nat} (h : l.length = k) : (l ++ [m]).getD k Msg.zero = m := by
  subst h; rw [List.getD_eq_getElem?_getD]; simp
/-- He cannot call as another one. -/
theorem bad_other {w : World} {serv as_ : Int} (h : WOk w) (hs : 4 ≤ serv ∧ serv ≤ 5) (hne : as_ ≠ w.bad) : (servOf (badCalls w serv as_) serv).took = (servOf w serv).took := by
  have g1 := forge_bring (w := w) (m := ⟨1, w.bad, 0, 1, []⟩) (n := w.log.length) (.inl rfl) rfl
  have o1 : WOk (bring (forge w ⟨1, w.bad, 0, 1, []⟩) w.log.length) := bring_ok (forge_ok h)
  unfold badCalls
  split
  · simp only [servOf, g1.1]
  rename_i hl1
  simp only [ne_eq, Classical.not_not] at hl1
  obtain ⟨e1, _⟩ := g1.2 hl1
  have a1 := answer_as (w := { w with log := w.log ++ [⟨1, w.bad, 0, 1, []⟩] }) (m := ⟨1, w.bad, 0, 1, []⟩) rfl (by rw [← e1, hl1]; simp)
  rw [← e1] at a1
  have hsv1 : (bring (forge w ⟨1, w.bad, 0, 1, []⟩) w.log.length).servs = w.servs := g1.1
  generalize bring (forge w ⟨1, w.bad, 0, 1, []⟩) w.log.length = w2 at *
  have ht : sealAt (w2.log.getD (w.log.length + 1) Msg.zero) 0 = mkTicket 6 w.bad w.kdc.next w.now (til w.now) := by
    rw [a1.1, getD_last (by simp)]; rfl
  unfold badCalls2
  rw [ht]
  have g2 := forge_bring (w := w2) (m := ⟨3, 0, serv, 1, [mkTicket 6 w.bad w.kdc.next w.now (til w.now), mkAuth w2.bad (mkTicket 6 w.bad w.kdc.next w.now (til w.now)).c w2.now 1]⟩) (n := (w.log.length : Int) + 2) (.inr rfl) (by omega)
  have o2 : WOk (bring (forge w2 ⟨3, 0, serv, 1, [mkTicket 6 w.bad w.kdc.next w.now (til w.now), mkAuth w2.bad (mkTicket 6 w.bad w.kdc.next w.now (til w.now)).c w2.now 1]⟩) ((w.log.length : Int) + 2)) := bring_ok (forge_ok o1)
  split
  · simp only [servOf, g2.1, hsv1]
  rename_i hl2
  simp only [ne_eq, Classical.not_not] at hl2
  obtain ⟨e2, _⟩ := g2.2 (by omega)
  have a2 := answer_tgs (w := { w2 with log := w2.log ++ [⟨3, 0, serv, 1, [mkTicket 6 w.bad w.kdc.next w.now (til w.now), mkAuth w2.bad (mkTicket 6 w.bad w.kdc.next w.now (til w.now)).c w2.now 1]⟩] }) (m := ⟨3, 0, serv, 1, [mkTicket 6 w.bad w.kdc.next w.now (til w.now), mkAuth w2.bad (mkTicket 6 w.bad w.kdc.next w.now (til w.now)).c w2.now 1]⟩) rfl (by rw [← e2, hl2]; simp; omega)
  rw [← e2] at a2
  have hsv2 := g2.1
  generalize bring (forge w2 ⟨3, 0, serv, 1, [mkTicket 6 w.bad w.kdc.next w.now (til w.now), mkAuth w2.bad (mkTicket 6 w.bad w.kdc.next w.now (til w.now)).c w2.now 1]⟩) ((w.log.length : Int) + 2) = w4 at *
  have hu : sealAt (w4.log.getD (w.log.length + 3) Msg.zero) 0 = mkTicket serv w.bad w2.kdc.next w2.now (til w.now) := by
    rw [a2.1, getD_last (by simp; omega)]; rfl
  unfold badCalls3
  rw [hu]
  have hsv4 : servOf w4 serv = servOf w serv := by simp only [servOf, hsv2, hsv1]
  rcases forge_cases w4 ⟨5, 0, serv, 0, [mkTicket serv w.bad w2.kdc.next w2.now (til w.now), mkAuth as_ (mkTicket serv w.bad w2.kdc.next w2.now (til w.now)).c w4.now 1]⟩ with e | ⟨_, e⟩
  · rw [e, bring_out (by omega), hsv4]
  · rw [e, bring_last (w := { w4 with log := w4.log ++ [⟨5, 0, serv, 0, [mkTicket serv w.bad w2.kdc.next w2.now (til w.now), mkAuth as_ (mkTicket serv w.bad w2.kdc.next w2.now (til w.now)).c w4.now 1]⟩] }) (l := w4.log) rfl (by omega)]
    unfold bringMsg
    rw [if_neg (by simp), if_neg (by simp), if_pos rfl]
    rw [servOf_send, servOf_set o2.sl hs rfl]
    show (servHear (servOf w4 serv) _ w4.now).1.took = _
    have hno : servHear (servOf w4 serv) ⟨5, 0, serv, 0, [mkTicket serv w.bad w2.kdc.next w2.now (til w.now), mkAuth as_ (mkTicket serv w.bad w2.kdc.next w2.now (til w.now)).c w4.now 1]⟩ w4.now = (servOf w4 serv, none) := by
      unfold servHear
      rw [if_pos]
      refine .inr (.inr (.inr (.inl ?_)))
      rw [Bool.eq_false_iff]
      intro hh
      rw [shown_iff] at hh
      exact hne hh.2.2.2.2.2
    rw [hno, hsv4]
/-- He can call as what he is. -/
theorem bad_own {w : World} {serv : Int} (h : Inv w) (hs : 4 ≤ serv ∧ serv ≤ 5) (hb : w.bad ≠ 0) (hk : w.kdc.next + 1 ≤ 60) (hl : w.log.length + 5 ≤ 80) (hkc : w.kdc.cache.length ≠ 20) (hsc : (servOf w serv).cache.length ≠ 20) (hsi : (servOf w serv).since ≠ w.now) :
    (servOf (badCalls w serv w.bad) serv).took = (servOf w serv).took ++ [⟨w.bad, w.kdc.next + 1, w.now, 1⟩] := by
  have hbd := h.ok.bad
  have hnow := h.ok.now
  have hnx := h.ok.kdc.next
  have hbb : 1 ≤ w.bad ∧ w.bad ≤ 3 := by omega
  have ht := til_ok (now := w.now) hnow
  have hsrv : servOk serv = true := within_iff.2 hs
  -- asks
  have hm1 : msgOk ⟨1, w.bad, 0, 1, []⟩ = true := by simp [msgOk, shaped, within]; omega
  have f1 := forge_go hbd hm1 (fun s hs => by cases hs) (by omega)
  have i1 : Inv (forge w ⟨1, w.bad, 0, 1, []⟩) := forge_inv' h
  rw [f1] at i1
  have e1 : kdcAs w.kdc ⟨1, w.bad, 0, 1, []⟩ w.now = ({ w.kdc with next := w.kdc.next + 1 }, some (giveMsg w.kdc 2 w.bad 6 w.bad 1 w.now (til w.now))) := by
    rcases kdcAs_cases w.kdc ⟨1, w.bad, 0, 1, []⟩ w.now with e | ⟨_, _, _, e⟩
    · unfold kdcAs at e; rw [if_neg (by simp [hm1]; omega)] at e; simp at e
    · exact e
  have b1 := bring_as (w := { w with log := w.log ++ [⟨1, w.bad, 0, 1, []⟩] }) (m := ⟨1, w.bad, 0, 1, []⟩) rfl e1 (by simp; omega)
  have i2 := bringMsg_inv (m := ⟨1, w.bad, 0, 1, []⟩) i1 (by simp)
  unfold badCalls
  rw [f1, bring_last (w := { w with log := w.log ++ [⟨1, w.bad, 0, 1, []⟩] }) (l := w.log) rfl rfl]
  rw [b1] at i2 ⊢
  rw [if_neg (by simp)]
  have ht1 : sealAt ((w.log ++ [(⟨1, w.bad, 0, 1, []⟩ : Msg)] ++ [giveMsg w.kdc 2 w.bad 6 w.bad 1 w.now (til w.now)]).getD (w.log.length + 1) Msg.zero) 0 = mkTicket 6 w.bad w.kdc.next w.now (til w.now) := by
    rw [getD_last (by simp)]; rfl
  unfold badCalls2
  simp only [ht1]
  -- what he knows
  generalize hw2 : ({ w with kdc := { w.kdc with next := w.kdc.next + 1 }, log := w.log ++ [⟨1, w.bad, 0, 1, []⟩] ++ [giveMsg w.kdc 2 w.bad 6 w.bad 1 w.now (til w.now)] } : World) = w2 at *
  have w2b : w2.bad = w.bad := by rw [← hw2]
  have w2n : w2.now = w.now := by rw [← hw2]
  have w2k : w2.kdc = { w.kdc with next := w.kdc.next + 1 } := by rw [← hw2]
  have w2s : w2.servs = w.servs := by rw [← hw2]
  have w2l : w2.log.length = w.log.length + 2 := by rw [← hw2]; simp
  have inT : InS w2 (mkTicket 6 w.bad w.kdc.next w.now (til w.now)) := by rw [← hw2]; exact ⟨_, List.mem_append_right _ (List.mem_singleton.2 rfl), by simp [giveMsg]⟩
  have kn1 : Kn (InS w2) w2.bad w.kdc.next := (i2.log.bads (.inr ⟨_, inT, rfl, rfl, w2b.symm⟩) (by omega))
  have ok1 := i2.log.ok _ inT
  have hau1 : sealOk (mkAuth w.bad w.kdc.next w.now 1) = true := ok_auth hbb (by omega) hnow (by omega)
  have hm2 : msgOk ⟨3, 0, serv, 1, [mkTicket 6 w.bad w.kdc.next w.now (til w.now), mkAuth w.bad w.kdc.next w.now 1]⟩ = true := by
    simp [msgOk, shaped, within, ok1, hau1]; omega
  have hc : (mkTicket 6 w.bad w.kdc.next w.now (til w.now)).c = w.kdc.next := rfl
  simp only [hc, w2b, w2n]
  have f2 := forge_go (w := w2) (by rw [w2b]; exact hbd) hm2 (fun s hs => by
    simp only [List.mem_cons, List.not_mem_nil, or_false] at hs
    rcases hs with rfl | rfl
    · exact .inl inT
    · exact .inr ⟨kn1, .inl (holds_none (by simp [mkAuth]) (by simp [mkAuth]))⟩) (by omega)
  have i3 : Inv (forge w2 ⟨3, 0, serv, 1, [mkTicket 6 w.bad w.kdc.next w.now (til w.now), mkAuth w.bad w.kdc.next w.now 1]⟩) := forge_inv' i2
  rw [f2] at i3
  have hcan1 : canKeep w.kdc.cache (mkAuth w.bad w.kdc.next w.now 1) w.now = true := by
    simp only [canKeep, Bool.and_eq_true, Bool.not_eq_true', decide_eq_true_eq, decide_eq_false_iff_not]
    refine ⟨⟨fresh_iff.2 ⟨by simp only [mkAuth]; omega, Int.le_refl _⟩, fun hm => ?_⟩, ?_⟩
    · have := h.kc _ (freshen_sub hm); simp only [mkAuth] at this; omega
    · have h1 := h.ok.kdc.cache.len
      have h2 : (freshen w.kdc.cache w.now).length ≤ w.kdc.cache.length := List.length_filter_le _ _
      omega
  have hsh1 : shown (mkTicket 6 w.bad w.kdc.next w.now (til w.now)) (mkAuth w.bad w.kdc.next w.now 1) 6 w.now = true := by
    rw [shown_iff]
    exact ⟨rfl, rfl, ⟨Int.le_refl _, ht.2.2⟩, rfl, rfl, rfl⟩
  have e2 : kdcTgs w2.kdc ⟨3, 0, serv, 1, [mkTicket 6 w.bad w.kdc.next w.now (til w.now), mkAuth w.bad w.kdc.next w.now 1]⟩ w2.now = ({ next := w.kdc.next + 1 + 1, cache := remember w.kdc.cache (mkAuth w.bad w.kdc.next w.now 1) w.now }, some (giveMsg { w.kdc with next := w.kdc.next + 1 } 4 w.bad serv w.kdc.next 1 w.now (til w.now))) := by
    rw [w2k, w2n]
    unfold kdcTgs
    rw [if_neg (by simp only [sealAt]; simp [hm2, hsh1]; omega)]
    simp only [sealAt, List.getD_cons_succ, List.getD_cons_zero, hcan1]
    simp [mkTicket]
  have b2 := bring_tgs (w := { w2 with log := w2.log ++ [⟨3, 0, serv, 1, [mkTicket 6 w.bad w.kdc.next w.now (til w.now), mkAuth w.bad w.kdc.next w.now 1]⟩] }) (m := ⟨3, 0, serv, 1, [mkTicket 6 w.bad w.kdc.next w.now (til w.now), mkAuth w.bad w.kdc.next w.now 1]⟩) rfl e2 (by simp; omega)
  have i4 := bringMsg_inv (m := ⟨3, 0, serv, 1, [mkTicket 6 w.bad w.kdc.next w.now (til w.now), mkAuth w.bad w.kdc.next w.now 1]⟩) i3 (by simp)
  rw [f2, bring_last (w := { w2 with log := w2.log ++ [⟨3, 0, serv, 1, [mkTicket 6 w.bad w.kdc.next w.now (til w.now), mkAuth w.bad w.kdc.next w.now 1]⟩] }) (l := w2.log) rfl (by omega)]
  rw [b2] at i4 ⊢
  rw [if_neg (by simp; omega)]
  unfold badCalls3
  have hu1 : sealAt ((w2.log ++ [(⟨3, 0, serv, 1, [mkTicket 6 w.bad w.kdc.next w.now (til w.now), mkAuth w.bad w.kdc.next w.now 1]⟩ : Msg)] ++ [giveMsg { w.kdc with next := w.kdc.next + 1 } 4 w.bad serv w.kdc.next 1 w.now (til w.now)]).getD (w.log.length + 3) Msg.zero) 0 = mkTicket serv w.bad (w.kdc.next + 1) w.now (til w.now) := by
    rw [getD_last (by simp; omega)]; rfl
  simp only [hu1]
  generalize hw4 : ({ w2 with kdc := { next := w.kdc.next + 1 + 1, cache := remember w.kdc.cache (mkAuth w.bad w.kdc.next w.now 1) w.now }, log := w2.log ++ [⟨3, 0, serv, 1, [mkTicket 6 w.bad w.kdc.next w.now (til w.now), mkAuth w.bad w.kdc.next w.now 1]⟩] ++ [giveMsg { w.kdc with next := w.kdc.next + 1 } 4 w.bad serv w.kdc.next 1 w.now (til w.now)] } : World) = w4 at *
  have w4b : w4.bad = w.bad := by rw [← hw4]; exact w2b
  have w4n : w4.now = w.now := by rw [← hw4]; exact w2n
  have w4s : w4.servs = w.servs := by rw [← hw4]; exact w2s
  have w4l : w4.log.length = w.log.length + 4 := by rw [← hw4]; simp; omega
  have inU : InS w4 (mkTicket serv w.bad (w.kdc.next + 1) w.now (til w.now)) := by rw [← hw4]; exact ⟨_, List.mem_append_right _ (List.mem_singleton.2 rfl), by simp [giveMsg]⟩
  have kn2 : Kn (InS w4) w4.bad (w.kdc.next + 1) := (i4.log.bads (.inr ⟨_, inU, rfl, rfl, w4b.symm⟩) (by omega))
  have ok2 := i4.log.ok _ inU
  have hau2 : sealOk (mkAuth w.bad (w.kdc.next + 1) w.now 1) = true := ok_auth hbb (by omega) hnow (by omega)
  have hm3 : msgOk ⟨5, 0, serv, 0, [mkTicket serv w.bad (w.kdc.next + 1) w.now (til w.now), mkAuth w.bad (w.kdc.next + 1) w.now 1]⟩ = true := by
    simp [msgOk, shaped, within, ok2, hau2]; omega
  have hc2 : (mkTicket serv w.bad (w.kdc.next + 1) w.now (til w.now)).c = w.kdc.next + 1 := rfl
  simp only [hc2, w4n, w2n]
  have f3 := forge_go (w := w4) (by rw [w4b]; exact hbd) hm3 (fun s hs => by
    simp only [List.mem_cons, List.not_mem_nil, or_false] at hs
    rcases hs with rfl | rfl
    · exact .inl inU
    · exact .inr ⟨kn2, .inl (holds_none (by simp [mkAuth]) (by simp [mkAuth]))⟩) (by omega)
  rw [f3, bring_last (w := { w4 with log := w4.log ++ [⟨5, 0, serv, 0, [mkTicket serv w.bad (w.kdc.next + 1) w.now (til w.now), mkAuth w.bad (w.kdc.next + 1) w.now 1]⟩] }) (l := w4.log) rfl (by omega)]
  have hsv : servOf w4 serv = servOf w serv := by simp only [servOf, w4s]
  have hv := h.vs _ (servOf_mem h.ok hs)
  have hso := servOf_ok h.ok hs
  have hcan2 : canKeep (servOf w serv).cache (mkAuth w.bad (w.kdc.next + 1) w.now 1) w.now = true := by
    simp only [canKeep, Bool.and_eq_true, Bool.not_eq_true', decide_eq_true_eq, decide_eq_false_iff_not]
    refine ⟨⟨fresh_iff.2 ⟨by simp only [mkAuth]; omega, Int.le_refl _⟩, fun hm => ?_⟩, ?_⟩
    · have := hv.cache _ (freshen_sub hm); simp only [mkAuth] at this; omega
    · have h1 := hso.1.cache.len
      have h2 : (freshen (servOf w serv).cache w.now).length ≤ (servOf w serv).cache.length := List.length_filter_le _ _
      omega
  have hsh2 : shown (mkTicket serv w.bad (w.kdc.next + 1) w.now (til w.now)) (mkAuth w.bad (w.kdc.next + 1) w.now 1) (servOf w serv).id w.now = true := by
    rw [shown_iff]
    exact ⟨rfl, hso.2.symm, ⟨Int.le_refl _, ht.2.2⟩, rfl, rfl, rfl⟩
  have hsn := hv.since
  have e3 : servHear (servOf w serv) ⟨5, 0, serv, 0, [mkTicket serv w.bad (w.kdc.next + 1) w.now (til w.now), mkAuth w.bad (w.kdc.next + 1) w.now 1]⟩ w.now = ({ servOf w serv with cache := remember (servOf w serv).cache (mkAuth w.bad (w.kdc.next + 1) w.now 1) w.now, took := (servOf w serv).took ++ [⟨w.bad, w.kdc.next + 1, w.now, 1⟩] }, some ⟨6, w.bad, 0, 0, [mkBack (w.kdc.next + 1) w.now 1]⟩) := by
    unfold servHear
    rw [if_neg (by
      rintro (g | g | g | g | g)
      · exact g rfl
      · rw [hm3] at g; cases g
      · exact g hso.2.symm
      · simp only [sealAt, List.getD_cons_succ, List.getD_cons_zero] at g; rw [hsh2] at g; cases g
      · simp only [sealAt, List.getD_cons_succ, List.getD_cons_zero, mkAuth] at g; omega)]
    simp only [sealAt, List.getD_cons_succ, List.getD_cons_zero, hcan2]
    simp [mkAuth]
  unfold bringMsg
  rw [if_neg (by simp), if_neg (by simp), if_pos rfl]
  rw [servOf_send, servOf_set i4.ok.sl hs rfl]
  show (servHear (servOf w4 serv) _ w4.now).1.took = _
  rw [hsv, w4n, e3]
end Go.Proofs.YtkdlkclanlkebaaGreat
/- Laws of single steps; of what is not brought; of what comes too late. -/
set_option linter.unusedVariables false
set_option linter.unusedSimpArgs false
namespace Go.Proofs.YtkdlkclanlkebaaGreat

theorem send_prefix (w : World) (m : Option Msg) : ∃ l, (send w m).log = w.log ++ l := by
  rcases send_cases w m with e | ⟨a, _, _, e⟩ <;> rw [e]
  · exact ⟨[], by simp⟩
  · exact ⟨[a], rfl⟩
theorem bringMsg_prefix (w : World) (m : Msg) : ∃ l, (bringMsg w m).log = w.log ++ l := by
  unfold bringMsg
  split
  · exact send_prefix { w with kdc := (kdcAs w.kdc m w.now).1 } _
  split
  · exact send_prefix { w with kdc := (kdcTgs w.kdc m w.now).1 } _
  split
  · exact send_prefix (setServ w m.serv (servHear (servOf w m.serv) m w.now).1) _
  split
  · exact ⟨[], by simp⟩
  · exact ⟨[], by simp [setClient]⟩
theorem step_prefix (w : World) (e : Event) : ∃ l, (step w e).log = w.log ++ l := by
  unfold step
  split
  · rcases asks_eq (w := w) (kind := e.kind) (a := e.a) (b := e.b) with g | ⟨_, _, g⟩ <;> rw [g]
    · exact ⟨[], by simp⟩
    · exact send_prefix (setClient w e.a (ask (clientOf w e.a) e.kind e.b w.now).1) _
  split
  · rcases bring_cases w e.a with g | ⟨_, _, m, _, _, g⟩ <;> rw [g]
    · exact ⟨[], by simp⟩
    · exact bringMsg_prefix w m
  split
  · split
    · exact send_prefix w _
    · exact ⟨[], by simp⟩
  split
  · exact ⟨[], by simp [tick]⟩
  split
  · unfold fall
    split
    · exact ⟨[], by simp [setServ]⟩
    · exact ⟨[], by simp⟩
  · exact ⟨[], by simp⟩
theorem step_inS {w : World} {e : Event} {s : Seal} (h : InS w s) : InS (step w e) s := by
  obtain ⟨m, hm, hs⟩ := h
  obtain ⟨l, hl⟩ := step_prefix w e
  exact ⟨m, by rw [hl]; exact List.mem_append_left _ hm, hs⟩
theorem worldKeys_congr {w x : World} (hw : 0 ≤ w.bad ∧ w.bad ≤ 3) (hx : 0 ≤ x.bad ∧ x.bad ≤ 3) (h : ∀ k, Kn (InS w) w.bad k ↔ Kn (InS x) x.bad k) : worldKeys w = worldKeys x := by
  unfold worldKeys knowKeys
  apply List.filter_congr
  intro k _
  rw [Bool.eq_iff_iff, comes_true hw, comes_true hx]
  exact h k
theorem keys_grow {w : World} {e : Event} (h : WOk w) {k : Int} (hk : k ∈ worldKeys w) : k ∈ worldKeys (step w e) := by
  have hb := (step_log w e).2.2
  rw [worldKeys_mem h.bad] at hk
  rw [worldKeys_mem (step_ok h).bad, hb]
  exact hk.mono fun s hs => step_inS hs
theorem keys_forge {w : World} {e : Event} (h : WOk w) (hk : e.kind = 5) : worldKeys (step w e) = worldKeys w := by
  have he : step w e = forge w e.msg := by
    unfold step forge
    rw [if_neg (by omega), if_neg (by omega), if_pos hk]
  have hx := (step_ok (e := e) h).bad
  refine worldKeys_congr hx h.bad fun k => ?_
  rw [he] at hx ⊢
  unfold forge
  split
  · rename_i hb
    obtain ⟨h1, h2⟩ := knowBuild_cases h.bad hb
    rcases send_cases w (some e.msg) with g | ⟨a, ha, _, g⟩ <;> rw [g]
    cases ha
    constructor
    · intro hkn
      induction hkn with
      | own h => exact .own h
      | opens hs _ hp ih =>
        rcases inS_snoc.1 hs with hs | hs
        · exact .opens hs ih hp
        · rcases h2 _ hs with h3 | ⟨_, h3 | h3⟩
          · exact .opens h3 ih hp
          · omega
          · exact h3
    · intro hkn
      exact hkn.mono fun s hs => inS_snoc.2 (.inl hs)
  · exact Iff.rfl

/-! ### Nothing is brought -/
structure Unheard (w : World) : Prop where
  cs : ∀ c ∈ w.clients, c.creds = [] ∧ c.sent = [] ∧ c.met = []
  vs : ∀ v ∈ w.servs, v.took = []
  next : w.kdc.next = 10
theorem new_unheard (bad : Int) : Unheard (worldNew bad) := by
  refine ⟨fun c hc => ?_, fun v hv => ?_, rfl⟩
  · simp only [worldNew, List.mem_cons, List.not_mem_nil, or_false] at hc
    rcases hc with rfl | rfl | rfl <;> simp [clientNew]
  · simp only [worldNew, List.mem_cons, List.not_mem_nil, or_false] at hv
    rcases hv with rfl | rfl <;> simp [servNew]
theorem ask_unheard {c : Client} {k b now : Int} (h : c.creds = [] ∧ c.sent = [] ∧ c.met = []) : (ask c k b now).1.creds = [] ∧ (ask c k b now).1.sent = [] ∧ (ask c k b now).1.met = [] := by
  unfold ask
  split
  · rcases clientAs_cases c with e | ⟨_, e⟩ <;> rw [e] <;> exact h
  split
  · rcases clientTgs_cases c b now with e | ⟨x, hx, _⟩
    · rw [e]; exact h
    · have := (credAt_some hx).1; rw [h.1] at this; cases this
  · rcases clientAp_cases c b now with e | ⟨x, hx, _⟩
    · rw [e]; exact h
    · have := (credAt_some hx).1; rw [h.1] at this; cases this
theorem step_unheard {w : World} {e : Event} (ho : WOk w) (h : Unheard w) (hk : e.kind ≠ 4) : Unheard (step w e) := by
  unfold step
  split
  · rcases asks_eq (w := w) (kind := e.kind) (a := e.a) (b := e.b) with g | ⟨hi, _, g⟩ <;> rw [g]
    · exact h
    · have hs := send_log (setClient w e.a (ask (clientOf w e.a) e.kind e.b w.now).1) (ask (clientOf w e.a) e.kind e.b w.now).2
      refine ⟨fun c hc => ?_, fun v hv => ?_, by rw [hs.2.2.2.2.2.2]; exact h.next⟩
      · rw [hs.2.2.2.2.1] at hc
        rcases mem_setClient hc with rfl | hc
        · exact ask_unheard (h.cs _ (clientOf_mem ho hi))
        · exact h.cs c hc
      · rw [hs.2.2.2.2.2.1] at hv; exact h.vs v hv
  split
  · split
    · have hs := send_log w (some e.msg)
      exact ⟨fun c hc => h.cs c (by rwa [hs.2.2.2.2.1] at hc), fun v hv => h.vs v (by rwa [hs.2.2.2.2.2.1] at hv), by rw [hs.2.2.2.2.2.2]; exact h.next⟩
    · exact h
  split
  · exact ⟨h.cs, h.vs, h.next⟩
  split
  · unfold fall
    split
    · rename_i hb
      refine ⟨h.cs, fun v hv => ?_, h.next⟩
      rcases mem_setServ hv with rfl | hv
      · exact h.vs (servOf w e.b) (servOf_mem ho (within_iff.1 hb))
      · exact h.vs v hv
    · exact h
  · exact h
theorem play_unheard : ∀ {es : List Event} {w : World}, WOk w → Unheard w → (∀ e ∈ es, e.kind ≠ 4) → Unheard (play w es)
  | [], w, _, h, _ => h
  | e :: r, w, ho, h, hk => play_unheard (es := r) (step_ok (e := e) ho) (step_unheard ho h (hk e List.mem_cons_self)) fun x hx => hk x (List.mem_cons_of_mem _ hx)
theorem play_append (w : World) (a b : List Event) : play w (a ++ b) = play (play w a) b := by simp [play]

/-! ### What comes too late, or behind a fall -/
/-- It is as it was, but for what services remember. -/
structure Took (w x : World) : Prop where
  log : x.log = w.log
  now : x.now = w.now
  clients : x.clients = w.clients
  took : ∀ id, 4 ≤ id ∧ id ≤ 5 → (servOf x id).took = (servOf w id).took ∧ (servOf x id).since = (servOf w id).since
theorem Took.refl {w : World} : Took w w := ⟨rfl, rfl, rfl, fun _ _ => ⟨rfl, rfl⟩⟩
theorem bring_late {w x : World} (ho : WOk x) (h : Took w x) {k : Nat} {m : Msg} (hm : w.log[k]? = some m) (hk : m.kind = 5)
    (hold : (sealAt m 1).b ≤ (servOf w m.serv).since ∨ (sealAt m 1).b < w.now - 3 ∨ w.now < (sealAt m 1).b) : Took w (bring x k) ∧ (bring x k).kdc = x.kdc := by
  have hm2 : x.log[k]? = some m := by rw [h.log]; exact hm
  have hmo := ho.ms m (List.mem_of_getElem? hm2)
  have hs := msgOk_shape hmo
  have hi : 4 ≤ m.serv ∧ m.serv ≤ 5 := by omega
  have ht := h.took m.serv hi
  have hh := servHear_old (s := servOf x m.serv) (m := m) (now := x.now) (by rw [ht.2, h.now]; exact hold)
  rw [bring_call ho hm2 hk, hh.1]
  simp only [send]
  refine ⟨⟨h.log, h.now, h.clients, fun id hid => ?_⟩, rfl⟩
  by_cases e : id = m.serv
  · subst e
    rw [servOf_setServ ho hi, hh.2.1, hh.2.2]
    exact ht
  · have : servOf (setServ x m.serv (servHear (servOf x m.serv) m x.now).1) id = servOf x id := by
      simp only [servOf, setServ]
      rw [List.getD_eq_getElem?_getD, List.getElem?_set_ne (by omega), ← List.getD_eq_getElem?_getD]
    rw [this]; exact h.took id hid
theorem fall_since {w : World} (h : WOk w) {b : Int} (hb : 4 ≤ b ∧ b ≤ 5) : w.now ≤ (servOf (fall w b) b).since ∧ (servOf (fall w b) b).took = (servOf w b).took ∧ (fall w b).log = w.log ∧ (fall w b).now = w.now := by
  unfold fall
  rw [if_pos (within_iff.2 hb), servOf_setServ h hb]
  refine ⟨?_, rfl, rfl, rfl⟩
  simp only [servFall]; split <;> omega

/-! ### Single steps -/
theorem step_idle {w : World} {e : Event} (h : ¬ (1 ≤ e.kind ∧ e.kind ≤ 7)) : step w e = w := by
  unfold step
  rw [if_neg (by omega), if_neg (by omega), if_neg (by omega), if_neg (by omega), if_neg (by omega)]
theorem asks_idle {w : World} {k a b : Int} (h : ¬ (1 ≤ a ∧ a ≤ 3) ∨ a = w.bad) : asks w k a b = w := by
  unfold asks
  rw [if_pos]
  rcases h with h | h
  · exact .inl (within_false.2 h)
  · exact .inr h
theorem fall_idle {w : World} {b : Int} (h : ¬ (4 ≤ b ∧ b ≤ 5)) : fall w b = w := by
  unfold fall
  rw [if_neg (by rw [Bool.not_eq_true]; exact within_false.2 h)]
theorem asks_others {w : World} {k a b : Int} : (asks w k a b).servs = w.servs ∧ (asks w k a b).kdc = w.kdc ∧ (asks w k a b).now = w.now ∧ ∀ i : Nat, i ≠ (a - 1).toNat → (asks w k a b).clients[i]? = w.clients[i]? := by
  rcases asks_eq (w := w) (kind := k) (a := a) (b := b) with e | ⟨_, _, e⟩ <;> rw [e]
  · exact ⟨rfl, rfl, rfl, fun _ _ => rfl⟩
  · have hs := send_log (setClient w a (ask (clientOf w a) k b w.now).1) (ask (clientOf w a) k b w.now).2
    refine ⟨hs.2.2.2.2.2.1, hs.2.2.2.2.2.2, hs.2.2.2.1, fun i hi => ?_⟩
    rw [hs.2.2.2.2.1]
    simp only [setClient]
    rw [List.getElem?_set_ne (fun e => hi e.symm)]
theorem bringMsg_others {w : World} {m : Msg} : ((m.kind = 1 ∨ m.kind = 3) ∨ (bringMsg w m).kdc = w.kdc) ∧ (∀ i : Nat, (m.kind = 1 ∨ m.kind = 3 ∨ m.kind = 5 ∨ i ≠ (m.client - 1).toNat ∨ m.client = w.bad) → (bringMsg w m).clients[i]? = w.clients[i]?) ∧ (∀ i : Nat, (m.kind ≠ 5 ∨ i ≠ (m.serv - 4).toNat) → (bringMsg w m).servs[i]? = w.servs[i]?) := by
  unfold bringMsg
  split
  · rename_i h1
    have hs := send_log { w with kdc := (kdcAs w.kdc m w.now).1 } (kdcAs w.kdc m w.now).2
    exact ⟨.inl (.inl h1), fun i _ => by rw [hs.2.2.2.2.1], fun i _ => by rw [hs.2.2.2.2.2.1]⟩
  rename_i h1
  split
  · rename_i h3
    have hs := send_log { w with kdc := (kdcTgs w.kdc m w.now).1 } (kdcTgs w.kdc m w.now).2
    exact ⟨.inl (.inr h3), fun i _ => by rw [hs.2.2.2.2.1], fun i _ => by rw [hs.2.2.2.2.2.1]⟩
  rename_i h3
  split
  · rename_i h5
    have hs := send_log (setServ w m.serv (servHear (servOf w m.serv) m w.now).1) (servHear (servOf w m.serv) m w.now).2
    refine ⟨.inr hs.2.2.2.2.2.2, fun i _ => by rw [hs.2.2.2.2.1]; rfl, fun i hi => ?_⟩
    rw [hs.2.2.2.2.2.1]
    simp only [setServ]
    rw [List.getElem?_set_ne (by omega)]
  rename_i h5
  split
  · exact ⟨.inr rfl, fun i _ => rfl, fun i _ => rfl⟩
  · rename_i hb
    refine ⟨.inr rfl, fun i hi => ?_, fun i _ => rfl⟩
    simp only [setClient]
    rw [List.getElem?_set_ne (by omega)]
end Go.Proofs.YtkdlkclanlkebaaGreat
