/- Worlds stay in order, whatever happens. -/
import Derived.Test.YtoledfhjmdpihaaGreatA2
set_option linter.unusedVariables false
set_option linter.unusedSimpArgs false
namespace Go.Proofs.YtoledfhjmdpihaaGreat

theorem within_iff {n a b : Int} : within n a b = true ↔ a ≤ n ∧ n ≤ b := by simp [within]
theorem within_false {n a b : Int} : within n a b = false ↔ ¬ (a ≤ n ∧ n ≤ b) := by rw [← within_iff]; simp

/-! ### What is in order, as a list of facts -/
theorem wantsOk_iff (num : Int) : ∀ (ws : List Want) (last : Int), wantsOk num last ws = true ↔ (∀ x ∈ ws, giverOk x.serv = true ∧ last < x.nonce ∧ x.nonce ≤ num) ∧ ws.Pairwise (fun x y => x.nonce < y.nonce)
  | [], last => by simp [wantsOk]
  | w :: r, last => by
    have e : within w.nonce (last + 1) num = true ↔ last + 1 ≤ w.nonce ∧ w.nonce ≤ num := within_iff
    simp only [wantsOk, Bool.and_eq_true]
    rw [e, wantsOk_iff num r w.nonce]
    simp only [List.forall_mem_cons, List.pairwise_cons]
    constructor
    · rintro ⟨⟨h1, h2, h3⟩, h4, h5⟩
      refine ⟨⟨⟨h1, by omega, h3⟩, fun x hx => ?_⟩, fun x hx => (h4 x hx).2.1, h5⟩
      have := h4 x hx
      exact ⟨this.1, by omega, this.2.2⟩
    · rintro ⟨⟨⟨h1, h2, h3⟩, h4⟩, h5, h6⟩
      exact ⟨⟨h1, by omega, h3⟩, fun x hx => ⟨(h4 x hx).1, h5 x hx, (h4 x hx).2.2⟩, h6⟩
def callOk (x : Call) : Bool := servOk x.peer && madeOk x.key && timeOk x.time
theorem sentOk_iff (num : Int) : ∀ (ws : List Call) (last : Int), sentOk num last ws = true ↔ (∀ x ∈ ws, callOk x = true ∧ last < x.num ∧ x.num ≤ num) ∧ ws.Pairwise (fun x y => x.num < y.num)
  | [], last => by simp [sentOk]
  | w :: r, last => by
    have e : within w.num (last + 1) num = true ↔ last + 1 ≤ w.num ∧ w.num ≤ num := within_iff
    have e2 : sentOk num last (w :: r) = (callOk w && within w.num (last + 1) num && sentOk num w.num r) := rfl
    rw [e2]
    simp only [Bool.and_eq_true]
    rw [e, sentOk_iff num r w.num]
    simp only [List.forall_mem_cons, List.pairwise_cons]
    constructor
    · rintro ⟨⟨h1, h2, h3⟩, h4, h5⟩
      refine ⟨⟨⟨h1, by omega, h3⟩, fun x hx => ?_⟩, fun x hx => (h4 x hx).2.1, h5⟩
      have := h4 x hx
      exact ⟨this.1, by omega, this.2.2⟩
    · rintro ⟨⟨⟨h1, h2, h3⟩, h4⟩, h5, h6⟩
      exact ⟨⟨h1, by omega, h3⟩, fun x hx => ⟨(h4 x hx).1, h5 x hx, (h4 x hx).2.2⟩, h6⟩
structure COk (c : Client) : Prop where
  id : 1 ≤ c.id ∧ c.id ≤ 3
  num : 0 ≤ c.num ∧ c.num ≤ 60
  wants : ∀ x ∈ c.wants, giverOk x.serv = true ∧ 0 < x.nonce ∧ x.nonce ≤ c.num
  wp : c.wants.Pairwise (fun x y => x.nonce < y.nonce)
  creds : ∀ x ∈ c.creds, credOk x = true
  cn : (c.creds.map Cred.serv).Nodup
  sent : ∀ x ∈ c.sent, callOk x = true ∧ 0 < x.num ∧ x.num ≤ c.num
  sp : c.sent.Pairwise (fun x y => x.num < y.num)
  met : ∀ x ∈ c.met, x ∈ c.sent
  mn : c.met.Nodup
theorem clientOk_iff {c : Client} : clientOk c = true ↔ COk c := by
  have e1 : userOk c.id = true ↔ 1 ≤ c.id ∧ c.id ≤ 3 := within_iff
  have e2 : within c.num 0 60 = true ↔ 0 ≤ c.num ∧ c.num ≤ 60 := within_iff
  simp only [clientOk, credsOk, metOk, Bool.and_eq_true, decide_eq_true_eq, List.all_eq_true]
  rw [e1, e2, wantsOk_iff, sentOk_iff]
  constructor
  · rintro ⟨⟨⟨⟨⟨h1, h2⟩, h3, h4⟩, h5, h6⟩, h7, h8⟩, h9, h10⟩
    exact ⟨h1, h2, h3, h4, h5, h6, h7, h8, h9, h10⟩
  · rintro ⟨h1, h2, h3, h4, h5, h6, h7, h8, h9, h10⟩
    exact ⟨⟨⟨⟨⟨h1, h2⟩, h3, h4⟩, h5, h6⟩, h7, h8⟩, h9, h10⟩
structure AOk (xs : List Seal) : Prop where
  all : ∀ s ∈ xs, authOk s = true
  nd : xs.Nodup
  len : xs.length ≤ 20
theorem cacheOk_iff {xs : List Seal} : cacheOk xs = true ↔ AOk xs := by
  simp only [cacheOk, Bool.and_eq_true, decide_eq_true_eq, List.all_eq_true]
  exact ⟨fun ⟨⟨h1, h2⟩, h3⟩ => ⟨h1, h2, h3⟩, fun ⟨h1, h2, h3⟩ => ⟨⟨h1, h2⟩, h3⟩⟩
structure KOk (k : Kdc) : Prop where
  next : 10 ≤ k.next ∧ k.next ≤ 61
  cache : AOk k.cache
theorem kdcOk_iff {k : Kdc} : kdcOk k = true ↔ KOk k := by
  have e : within k.next 10 61 = true ↔ 10 ≤ k.next ∧ k.next ≤ 61 := within_iff
  simp only [kdcOk, Bool.and_eq_true]
  rw [e, cacheOk_iff]
  exact ⟨fun ⟨h1, h2⟩ => ⟨h1, h2⟩, fun ⟨h1, h2⟩ => ⟨h1, h2⟩⟩
structure SOk (s : Serv) : Prop where
  id : 4 ≤ s.id ∧ s.id ≤ 5
  since : -1 ≤ s.since ∧ s.since ≤ 100
  cache : AOk s.cache
  took : ∀ x ∈ s.took, tookOk x = true
theorem servOk'_iff {s : Serv} : servOk' s = true ↔ SOk s := by
  have e1 : servOk s.id = true ↔ 4 ≤ s.id ∧ s.id ≤ 5 := within_iff
  have e2 : within s.since (-1) 100 = true ↔ -1 ≤ s.since ∧ s.since ≤ 100 := within_iff
  simp only [servOk', Bool.and_eq_true, List.all_eq_true]
  rw [e1, e2, cacheOk_iff]
  exact ⟨fun ⟨⟨⟨h1, h2⟩, h3⟩, h4⟩ => ⟨h1, h2, h3, h4⟩, fun ⟨h1, h2, h3, h4⟩ => ⟨⟨⟨h1, h2⟩, h3⟩, h4⟩⟩
theorem idsFrom_iff : ∀ (xs : List Int) (n : Int), idsFrom n xs = true ↔ ∀ (i : Nat) x, xs[i]? = some x → x = n + i
  | [], n => by simp [idsFrom]
  | y :: r, n => by
    simp only [idsFrom, Bool.and_eq_true, beq_iff_eq]
    rw [idsFrom_iff r (n + 1)]
    constructor
    · rintro ⟨h1, h2⟩ i x hx
      cases i with
      | zero => simp at hx; omega
      | succ i => have := h2 i x (by simpa using hx); omega
    · intro h
      refine ⟨by have := h 0 y rfl; omega, fun i x hx => ?_⟩
      have := h (i + 1) x (by simpa using hx)
      omega
structure WOk (w : World) : Prop where
  now : 0 ≤ w.now ∧ w.now ≤ 100
  kdc : KOk w.kdc
  cl : w.clients.length = 3
  sl : w.servs.length = 2
  ll : w.log.length ≤ 80
  bad : 0 ≤ w.bad ∧ w.bad ≤ 3
  cs : ∀ (i : Nat) c, w.clients[i]? = some c → COk c ∧ c.id = i + 1
  ss : ∀ (i : Nat) s, w.servs[i]? = some s → SOk s ∧ s.id = i + 4
  ms : ∀ m ∈ w.log, msgOk m = true
theorem all_get {X : Type} {p : X → Bool} {xs : List X} : xs.all p = true ↔ ∀ (i : Nat) x, xs[i]? = some x → p x = true := by
  rw [List.all_eq_true]
  constructor
  · intro h i x hx; exact h x (List.mem_of_getElem? hx)
  · intro h x hx
    obtain ⟨i, hi⟩ := List.getElem?_of_mem hx
    exact h i x hi
theorem worldOk_iff {w : World} : worldOk w = true ↔ WOk w := by
  have e1 : timeOk w.now = true ↔ 0 ≤ w.now ∧ w.now ≤ 100 := within_iff
  have e2 : within w.bad 0 3 = true ↔ 0 ≤ w.bad ∧ w.bad ≤ 3 := within_iff
  unfold worldOk
  simp only [Bool.and_eq_true, beq_iff_eq, decide_eq_true_eq]
  rw [e1, e2, kdcOk_iff, all_get (p := clientOk), all_get (p := servOk'), List.all_eq_true, idsFrom_iff, idsFrom_iff]
  constructor
  · rintro ⟨⟨⟨⟨⟨⟨⟨⟨⟨⟨h1, h2⟩, h3⟩, h4⟩, h5⟩, h6⟩, h7⟩, h8⟩, h9⟩, h10⟩, h11⟩
    refine ⟨h1, h2, h3, h4, h5, h6, fun i c hc => ⟨clientOk_iff.1 (h7 i c hc), ?_⟩, fun i s hs => ⟨servOk'_iff.1 (h9 i s hs), ?_⟩, h11⟩
    · have := h8 i c.id (by rw [List.getElem?_map, hc]; rfl); omega
    · have := h10 i s.id (by rw [List.getElem?_map, hs]; rfl); omega
  · intro h
    refine ⟨⟨⟨⟨⟨⟨⟨⟨⟨⟨h.now, h.kdc⟩, h.cl⟩, h.sl⟩, h.ll⟩, h.bad⟩, fun i c hc => clientOk_iff.2 (h.cs i c hc).1⟩, ?_⟩, fun i s hs => servOk'_iff.2 (h.ss i s hs).1⟩, ?_⟩, h.ms⟩
    · intro i x hx
      rw [List.getElem?_map, Option.map_eq_some_iff] at hx
      obtain ⟨c, hc, rfl⟩ := hx
      have := (h.cs i c hc).2; omega
    · intro i x hx
      rw [List.getElem?_map, Option.map_eq_some_iff] at hx
      obtain ⟨c, hc, rfl⟩ := hx
      have := (h.ss i c hc).2; omega

/-! ### Words -/
theorem msgOk_seals {m : Msg} (h : msgOk m = true) : ∀ s ∈ m.seals, sealOk s = true := by
  simp only [msgOk, Bool.and_eq_true, List.all_eq_true] at h
  exact h.2
theorem msgOk_shape {m : Msg} (h : msgOk m = true) :
    (m.kind = 1 ∧ (1 ≤ m.client ∧ m.client ≤ 3) ∧ m.serv = 0 ∧ (1 ≤ m.nonce ∧ m.nonce ≤ 60) ∧ m.seals.length = 0) ∨
    ((m.kind = 2 ∨ m.kind = 4) ∧ (1 ≤ m.client ∧ m.client ≤ 3) ∧ m.serv = 0 ∧ m.nonce = 0 ∧ m.seals.length = 2) ∨
    (m.kind = 3 ∧ m.client = 0 ∧ (4 ≤ m.serv ∧ m.serv ≤ 5) ∧ (1 ≤ m.nonce ∧ m.nonce ≤ 60) ∧ m.seals.length = 2) ∨
    (m.kind = 5 ∧ m.client = 0 ∧ (4 ≤ m.serv ∧ m.serv ≤ 5) ∧ m.nonce = 0 ∧ m.seals.length = 2) ∨
    (m.kind = 6 ∧ (1 ≤ m.client ∧ m.client ≤ 3) ∧ m.serv = 0 ∧ m.nonce = 0 ∧ m.seals.length = 1) := by
  simp only [msgOk, Bool.and_eq_true] at h
  have h1 := h.1
  unfold shaped at h1
  split at h1
  · rename_i hk
    simp only [Bool.and_eq_true, beq_iff_eq, within_iff] at h1
    exact .inl ⟨hk, h1.1.1.1, h1.1.1.2, h1.1.2, h1.2⟩
  split at h1
  · rename_i hk
    simp only [Bool.and_eq_true, beq_iff_eq, within_iff] at h1
    exact .inr (.inl ⟨hk, h1.1.1.1, h1.1.1.2, h1.1.2, h1.2⟩)
  split at h1
  · rename_i hk
    simp only [Bool.and_eq_true, beq_iff_eq, within_iff] at h1
    exact .inr (.inr (.inl ⟨hk, h1.1.1.1, h1.1.1.2, h1.1.2, h1.2⟩))
  split at h1
  · rename_i hk
    simp only [Bool.and_eq_true, beq_iff_eq, within_iff] at h1
    exact .inr (.inr (.inr (.inl ⟨hk, h1.1.1.1, h1.1.1.2, h1.1.2, h1.2⟩)))
  split at h1
  · rename_i hk
    simp only [Bool.and_eq_true, beq_iff_eq, within_iff] at h1
    exact .inr (.inr (.inr (.inr ⟨hk, h1.1.1.1, h1.1.1.2, h1.1.2, h1.2⟩)))
  · cases h1
theorem two_seals {m : Msg} (h : m.seals.length = 2) : m.seals = [sealAt m 0, sealAt m 1] := by
  match hs : m.seals, h with
  | [s0, s1], _ => simp [sealAt, hs]
theorem one_seal {m : Msg} (h : m.seals.length = 1) : m.seals = [sealAt m 0] := by
  match hs : m.seals, h with
  | [s0], _ => simp [sealAt, hs]
/-- What a seal that is ok has in it. -/
theorem sealOk_cases {s : Seal} (h : sealOk s = true) :
    (s.kind = 1 ∧ s.key = s.b ∧ (1 ≤ s.a ∧ s.a ≤ 3) ∧ (4 ≤ s.b ∧ s.b ≤ 6) ∧ (10 ≤ s.c ∧ s.c ≤ 60) ∧ (0 ≤ s.d ∧ s.d ≤ 100) ∧ (0 ≤ s.e ∧ s.e ≤ 100)) ∨
    (s.kind = 2 ∧ ((1 ≤ s.key ∧ s.key ≤ 3) ∨ (10 ≤ s.key ∧ s.key ≤ 60)) ∧ (4 ≤ s.a ∧ s.a ≤ 6) ∧ (10 ≤ s.b ∧ s.b ≤ 60) ∧ (1 ≤ s.c ∧ s.c ≤ 60) ∧ (0 ≤ s.d ∧ s.d ≤ 100) ∧ s.e = 0) ∨
    (s.kind = 3 ∧ (10 ≤ s.key ∧ s.key ≤ 60) ∧ (1 ≤ s.a ∧ s.a ≤ 3) ∧ (0 ≤ s.b ∧ s.b ≤ 100) ∧ (1 ≤ s.c ∧ s.c ≤ 60) ∧ s.d = 0 ∧ s.e = 0) ∨
    (s.kind = 4 ∧ (10 ≤ s.key ∧ s.key ≤ 60) ∧ (0 ≤ s.a ∧ s.a ≤ 100) ∧ (1 ≤ s.b ∧ s.b ≤ 60) ∧ s.c = 0 ∧ s.d = 0 ∧ s.e = 0) := by
  unfold sealOk at h
  split at h
  · rename_i hk
    simp only [Bool.and_eq_true, beq_iff_eq, within_iff] at h
    exact .inl ⟨hk, h.1.1.1.1.1, h.1.1.1.1.2, h.1.1.1.2, h.1.1.2, h.1.2, h.2⟩
  split at h
  · rename_i hk
    simp only [Bool.and_eq_true, Bool.or_eq_true, beq_iff_eq, within_iff] at h
    exact .inr (.inl ⟨hk, h.1.1.1.1.1, h.1.1.1.1.2, h.1.1.1.2, h.1.1.2, h.1.2, h.2⟩)
  split at h
  · rename_i hk
    simp only [Bool.and_eq_true, beq_iff_eq, within_iff] at h
    exact .inr (.inr (.inl ⟨hk, h.1.1.1.1.1, h.1.1.1.1.2, h.1.1.1.2, h.1.1.2, h.1.2, h.2⟩))
  split at h
  · rename_i hk
    simp only [Bool.and_eq_true, beq_iff_eq, within_iff] at h
    exact .inr (.inr (.inr ⟨hk, h.1.1.1.1.1, h.1.1.1.1.2, h.1.1.1.2, h.1.1.2, h.1.2, h.2⟩))
  · cases h
theorem ok_ticket {serv user next now til : Int} (h1 : 4 ≤ serv ∧ serv ≤ 6) (h2 : 1 ≤ user ∧ user ≤ 3) (h3 : 10 ≤ next ∧ next ≤ 60) (h4 : 0 ≤ now ∧ now ≤ 100) (h5 : 0 ≤ til ∧ til ≤ 100) : sealOk (mkTicket serv user next now til) = true := by
  simp [sealOk, mkTicket, within]; omega
theorem ok_part {key serv next nonce til : Int} (h1 : 4 ≤ serv ∧ serv ≤ 6) (h2 : (1 ≤ key ∧ key ≤ 3) ∨ (10 ≤ key ∧ key ≤ 60)) (h3 : 10 ≤ next ∧ next ≤ 60) (h4 : 1 ≤ nonce ∧ nonce ≤ 60) (h5 : 0 ≤ til ∧ til ≤ 100) : sealOk (mkPart key serv next nonce til) = true := by
  simp [sealOk, mkPart, within]; omega
theorem ok_auth {id key now num : Int} (h1 : 1 ≤ id ∧ id ≤ 3) (h2 : 10 ≤ key ∧ key ≤ 60) (h3 : 0 ≤ now ∧ now ≤ 100) (h4 : 1 ≤ num ∧ num ≤ 60) : sealOk (mkAuth id key now num) = true := by
  simp [sealOk, mkAuth, within]; omega
theorem ok_back {key time num : Int} (h2 : 10 ≤ key ∧ key ≤ 60) (h3 : 0 ≤ time ∧ time ≤ 100) (h4 : 1 ≤ num ∧ num ≤ 60) : sealOk (mkBack key time num) = true := by
  simp [sealOk, mkBack, within]; omega

/-! ### What is remembered -/
theorem fresh_iff {t now : Int} : fresh t now = true ↔ now - 3 ≤ t ∧ t ≤ now := within_iff
theorem freshen_sub {xs : List Seal} {now : Int} {s : Seal} (h : s ∈ freshen xs now) : s ∈ xs := (List.mem_filter.1 h).1
theorem freshen_ok {xs : List Seal} {now : Int} (h : AOk xs) : AOk (freshen xs now) :=
  ⟨fun s hs => h.all s (freshen_sub hs), h.nd.sublist List.filter_sublist, Nat.le_trans (List.length_filter_le _ _) h.len⟩
theorem remember_ok {xs : List Seal} {a : Seal} {now : Int} (h : AOk xs) (ha : authOk a = true) : AOk (remember xs a now) := by
  unfold remember
  split
  · rename_i hk
    simp only [canKeep, Bool.and_eq_true, Bool.not_eq_true', decide_eq_true_eq, decide_eq_false_iff_not] at hk
    have hf := freshen_ok (now := now) h
    refine ⟨fun s hs => ?_, ?_, ?_⟩
    · rcases List.mem_append.1 hs with hs | hs
      · exact hf.all s hs
      · rw [List.mem_singleton.1 hs]; exact ha
    · rw [List.nodup_append]
      refine ⟨hf.nd, by simp, fun x hx y hy e => ?_⟩
      rw [List.mem_singleton.1 hy] at e
      exact hk.1.2 (e ▸ hx)
    · rw [List.length_append, List.length_singleton]; omega
  · exact freshen_ok h
theorem remember_mem {xs : List Seal} {a s : Seal} {now : Int} (h : s ∈ remember xs a now) : s ∈ xs ∨ (s = a ∧ canKeep xs a now = true) := by
  unfold remember at h
  split at h
  · rename_i hk
    rcases List.mem_append.1 h with h | h
    · exact .inl (freshen_sub h)
    · exact .inr ⟨List.mem_singleton.1 h, hk⟩
  · exact .inl (freshen_sub h)
theorem shown_iff {t a : Seal} {id now : Int} : shown t a id now = true ↔ t.kind = 1 ∧ t.key = id ∧ (t.d ≤ now ∧ now ≤ t.e) ∧ a.kind = 3 ∧ a.key = t.c ∧ a.a = t.a := by
  simp only [shown, Bool.and_eq_true, beq_iff_eq, within_iff]
  constructor
  · rintro ⟨⟨⟨⟨⟨h1, h2⟩, h3⟩, h4⟩, h5⟩, h6⟩; exact ⟨h1, h2, h3, h4, h5, h6⟩
  · rintro ⟨h1, h2, h3, h4, h5, h6⟩; exact ⟨⟨⟨⟨⟨h1, h2⟩, h3⟩, h4⟩, h5⟩, h6⟩

/-! ### Who gives tickets -/
theorem mk_msgOk {kind user : Int} {s0 s1 : Seal} (hk : kind = 2 ∨ kind = 4) (hu : 1 ≤ user ∧ user ≤ 3) (h0 : sealOk s0 = true) (h1 : sealOk s1 = true) : msgOk ⟨kind, user, 0, 0, [s0, s1]⟩ = true := by
  rcases hk with rfl | rfl <;> simp [msgOk, shaped, within, h0, h1, hu]
/-- All cases of KdcAs. -/
theorem kdcAs_cases (k : Kdc) (m : Msg) (now : Int) : kdcAs k m now = (k, none) ∨ (m.kind = 1 ∧ msgOk m = true ∧ k.next ≤ 60 ∧ kdcAs k m now = ({ k with next := k.next + 1 }, some (giveMsg k 2 m.client 6 m.client m.nonce now (if 100 < now + 12 then 100 else now + 12)))) := by
  unfold kdcAs
  split
  · exact .inl rfl
  · rename_i h
    simp only [not_or, ne_eq, Classical.not_not, Bool.not_eq_false, Int.not_lt] at h
    exact .inr ⟨h.1, h.2.1, h.2.2, rfl⟩
theorem kdcTgs_cases (k : Kdc) (m : Msg) (now : Int) : kdcTgs k m now = (k, none) ∨ (m.kind = 3 ∧ msgOk m = true ∧ k.next ≤ 60 ∧ shown (sealAt m 0) (sealAt m 1) 6 now = true ∧
    ((canKeep k.cache (sealAt m 1) now = false ∧ kdcTgs k m now = ({ k with cache := remember k.cache (sealAt m 1) now }, none)) ∨
     (canKeep k.cache (sealAt m 1) now = true ∧ kdcTgs k m now = ({ next := k.next + 1, cache := remember k.cache (sealAt m 1) now }, some (giveMsg k 4 (sealAt m 0).a m.serv (sealAt m 0).c m.nonce now (sealAt m 0).e))))) := by
  unfold kdcTgs
  split
  · exact .inl rfl
  · rename_i h
    simp only [not_or, ne_eq, Classical.not_not, Bool.not_eq_false, Int.not_lt] at h
    refine .inr ⟨h.1, h.2.1, h.2.2.1, h.2.2.2, ?_⟩
    split
    · rename_i h2; exact .inl ⟨h2, rfl⟩
    · rename_i h2; exact .inr ⟨by simpa using h2, rfl⟩
theorem til_ok {now : Int} (h : 0 ≤ now ∧ now ≤ 100) : 0 ≤ (if 100 < now + 12 then 100 else now + 12) ∧ (if 100 < now + 12 then 100 else now + 12) ≤ 100 ∧ now ≤ (if 100 < now + 12 then 100 else now + 12) := by
  split <;> omega
theorem kdcAs_ok {k : Kdc} {m : Msg} {now : Int} (hk : KOk k) (hn : 0 ≤ now ∧ now ≤ 100) : KOk (kdcAs k m now).1 ∧ ∀ a, (kdcAs k m now).2 = some a → msgOk a = true := by
  rcases kdcAs_cases k m now with h | ⟨h1, h2, h3, h⟩
  · rw [h]; exact ⟨hk, fun a ha => by cases ha⟩
  · rw [h]
    have hn' := hk.next
    have ht := til_ok hn
    have hs := msgOk_shape h2
    refine ⟨⟨⟨by dsimp only; omega, by dsimp only; omega⟩, hk.cache⟩, fun a ha => ?_⟩
    simp only [Option.some.injEq] at ha
    subst ha
    have hu : 1 ≤ m.client ∧ m.client ≤ 3 := by omega
    exact mk_msgOk (.inl rfl) hu (ok_ticket (by omega) hu (by omega) hn ⟨ht.1, ht.2.1⟩) (ok_part (by omega) (.inl hu) (by omega) (by omega) ⟨ht.1, ht.2.1⟩)
theorem seal_in {m : Msg} (hl : m.seals.length = 2) : sealAt m 0 ∈ m.seals ∧ sealAt m 1 ∈ m.seals := by
  rw [two_seals hl]; simp
theorem seal_in1 {m : Msg} (hl : m.seals.length = 1) : sealAt m 0 ∈ m.seals := by
  rw [one_seal hl]; simp
theorem kdcTgs_ok {k : Kdc} {m : Msg} {now : Int} (hk : KOk k) (hn : 0 ≤ now ∧ now ≤ 100) : KOk (kdcTgs k m now).1 ∧ ∀ a, (kdcTgs k m now).2 = some a → msgOk a = true := by
  rcases kdcTgs_cases k m now with h | ⟨h1, h2, h3, h4, h⟩
  · rw [h]; exact ⟨hk, fun a ha => by cases ha⟩
  · have hn' := hk.next
    have hs := msgOk_shape h2
    have hl : m.seals.length = 2 := by omega
    have hin := seal_in hl
    have ok0 := msgOk_seals h2 _ hin.1
    have ok1 := msgOk_seals h2 _ hin.2
    rw [shown_iff] at h4
    have c0 := sealOk_cases ok0
    have ha : authOk (sealAt m 1) = true := by simp [authOk, ok1, h4.2.2.2.1]
    have hr := remember_ok (now := now) hk.cache ha
    rcases h with ⟨h5, h⟩ | ⟨h5, h⟩
    · rw [h]; exact ⟨⟨hk.next, hr⟩, fun a ha => by cases ha⟩
    · rw [h]
      refine ⟨⟨⟨by dsimp only; omega, by dsimp only; omega⟩, hr⟩, fun a ha => ?_⟩
      simp only [Option.some.injEq] at ha
      subst ha
      have hu : 1 ≤ (sealAt m 0).a ∧ (sealAt m 0).a ≤ 3 := by omega
      exact mk_msgOk (.inr rfl) hu (ok_ticket (by omega) hu (by omega) hn (by omega)) (ok_part (by omega) (.inr (by omega)) (by omega) (by omega) (by omega))

/-! ### Users -/
theorem credOk_cases {x : Cred} (h : credOk x = true) : (4 ≤ x.serv ∧ x.serv ≤ 6) ∧ (10 ≤ x.key ∧ x.key ≤ 60) ∧ (0 ≤ x.til ∧ x.til ≤ 100) ∧ sealOk x.ticket = true := by
  simp only [credOk, Bool.and_eq_true, within_iff] at h
  exact ⟨h.1.1.1, h.1.1.2, h.1.2, h.2⟩
theorem callOk_cases {x : Call} (h : callOk x = true) : (4 ≤ x.peer ∧ x.peer ≤ 5) ∧ (10 ≤ x.key ∧ x.key ≤ 60) ∧ (0 ≤ x.time ∧ x.time ≤ 100) := by
  simp only [callOk, Bool.and_eq_true, within_iff] at h
  exact ⟨h.1.1, h.1.2, h.2⟩
theorem mk_callOk {p k t n : Int} (h1 : 4 ≤ p ∧ p ≤ 5) (h2 : 10 ≤ k ∧ k ≤ 60) (h3 : 0 ≤ t ∧ t ≤ 100) : callOk ⟨p, k, t, n⟩ = true := by
  simp [callOk, within]; omega
theorem credAt_some {c : Client} {s : Int} {x : Cred} (h : credAt c s = some x) : x ∈ c.creds ∧ x.serv = s := by
  unfold credAt at h
  exact ⟨List.mem_of_find?_eq_some h, by have := List.find?_some h; simpa using this⟩
theorem usable_some {c : Client} {g serv now many : Int} {x : Cred} (h : usable c g serv now many = some x) : credAt c g = some x ∧ c.num + many ≤ 60 ∧ (4 ≤ serv ∧ serv ≤ 5) ∧ now ≤ x.til := by
  unfold usable at h
  split at h
  · rename_i y hy
    split at h
    · cases h
    · rename_i hn
      simp only [not_or, Int.not_lt, Bool.not_eq_false] at hn
      cases h
      exact ⟨hy, hn.1, within_iff.1 hn.2.1, hn.2.2⟩
  · cases h
theorem pw_snoc {X : Type} {r : X → X → Prop} {xs : List X} {x : X} (h : xs.Pairwise r) (hx : ∀ y ∈ xs, r y x) : (xs ++ [x]).Pairwise r := by
  rw [List.pairwise_append]
  exact ⟨h, by simp, fun y hy z hz => by rw [List.mem_singleton.1 hz]; exact hx y hy⟩
theorem mem_snoc {X : Type} {xs : List X} {x y : X} (h : y ∈ xs ++ [x]) : y ∈ xs ∨ y = x := by
  rcases List.mem_append.1 h with h | h
  · exact .inl h
  · exact .inr (List.mem_singleton.1 h)
theorem clientAs_cases (c : Client) : clientAs c = (c, none) ∨ (c.num < 60 ∧ clientAs c = ({ c with num := c.num + 1, wants := c.wants ++ [⟨6, c.num + 1⟩] }, some ⟨1, c.id, 0, c.num + 1, []⟩)) := by
  unfold clientAs
  split
  · exact .inl rfl
  · exact .inr ⟨by omega, rfl⟩
theorem clientTgs_cases (c : Client) (serv now : Int) : clientTgs c serv now = (c, none) ∨ ∃ x, credAt c 6 = some x ∧ c.num + 2 ≤ 60 ∧ (4 ≤ serv ∧ serv ≤ 5) ∧ now ≤ x.til ∧
    clientTgs c serv now = ({ c with num := c.num + 2, wants := c.wants ++ [⟨serv, c.num + 2⟩] }, some ⟨3, 0, serv, c.num + 2, [x.ticket, mkAuth c.id x.key now (c.num + 1)]⟩) := by
  unfold clientTgs
  split
  · exact .inl rfl
  · rename_i x hx
    obtain ⟨h1, h2, h3, h4⟩ := usable_some hx
    exact .inr ⟨x, h1, h2, h3, h4, rfl⟩
theorem clientAp_cases (c : Client) (serv now : Int) : clientAp c serv now = (c, none) ∨ ∃ x, credAt c serv = some x ∧ c.num + 1 ≤ 60 ∧ (4 ≤ serv ∧ serv ≤ 5) ∧ now ≤ x.til ∧
    clientAp c serv now = ({ c with num := c.num + 1, sent := c.sent ++ [⟨serv, x.key, now, c.num + 1⟩] }, some ⟨5, 0, serv, 0, [x.ticket, mkAuth c.id x.key now (c.num + 1)]⟩) := by
  unfold clientAp
  split
  · exact .inl rfl
  · rename_i x hx
    obtain ⟨h1, h2, h3, h4⟩ := usable_some hx
    exact .inr ⟨x, h1, h2, h3, h4, rfl⟩
theorem clientAs_ok {c : Client} (h : COk c) : COk (clientAs c).1 ∧ (clientAs c).1.id = c.id ∧ ∀ a, (clientAs c).2 = some a → msgOk a = true := by
  rcases clientAs_cases c with e | ⟨h1, e⟩
  · rw [e]; exact ⟨h, rfl, fun a ha => by cases ha⟩
  · rw [e]
    have hn := h.num
    have hi := h.id
    refine ⟨⟨h.id, ⟨by dsimp only; omega, by dsimp only; omega⟩, fun x hx => ?_, pw_snoc h.wp fun y hy => ?_, h.creds, h.cn, fun x hx => ?_, h.sp, h.met, h.mn⟩, rfl, fun a ha => ?_⟩
    · rcases mem_snoc hx with hx | rfl
      · have := h.wants x hx; exact ⟨this.1, this.2.1, by dsimp only; omega⟩
      · exact ⟨rfl, by dsimp only; omega, by dsimp only; omega⟩
    · have := (h.wants y hy).2.2; dsimp only; omega
    · have := h.sent x hx; exact ⟨this.1, this.2.1, by dsimp only; omega⟩
    · simp only [Option.some.injEq] at ha
      subst ha
      simp [msgOk, shaped, within]; omega
theorem clientTgs_ok {c : Client} {serv now : Int} (h : COk c) (ht : 0 ≤ now ∧ now ≤ 100) : COk (clientTgs c serv now).1 ∧ (clientTgs c serv now).1.id = c.id ∧ ∀ a, (clientTgs c serv now).2 = some a → msgOk a = true := by
  rcases clientTgs_cases c serv now with e | ⟨x, h1, h2, h3, h4, e⟩
  · rw [e]; exact ⟨h, rfl, fun a ha => by cases ha⟩
  · rw [e]
    have hn := h.num
    have hi := h.id
    have hc := credOk_cases (h.creds x (credAt_some h1).1)
    refine ⟨⟨h.id, ⟨by dsimp only; omega, by dsimp only; omega⟩, fun x hx => ?_, pw_snoc h.wp fun y hy => ?_, h.creds, h.cn, fun x hx => ?_, h.sp, h.met, h.mn⟩, rfl, fun a ha => ?_⟩
    · rcases mem_snoc hx with hx | rfl
      · have := h.wants x hx; exact ⟨this.1, this.2.1, by dsimp only; omega⟩
      · exact ⟨within_iff.2 (by dsimp only; omega), by dsimp only; omega, by dsimp only; omega⟩
    · have := (h.wants y hy).2.2; dsimp only; omega
    · have := h.sent x hx; exact ⟨this.1, this.2.1, by dsimp only; omega⟩
    · simp only [Option.some.injEq] at ha
      subst ha
      have ha := ok_auth (now := now) (num := c.num + 1) hi hc.2.1 ht (by omega)
      simp [msgOk, shaped, within, ha, hc.2.2.2]; omega
theorem clientAp_ok {c : Client} {serv now : Int} (h : COk c) (ht : 0 ≤ now ∧ now ≤ 100) : COk (clientAp c serv now).1 ∧ (clientAp c serv now).1.id = c.id ∧ ∀ a, (clientAp c serv now).2 = some a → msgOk a = true := by
  rcases clientAp_cases c serv now with e | ⟨x, h1, h2, h3, h4, e⟩
  · rw [e]; exact ⟨h, rfl, fun a ha => by cases ha⟩
  · rw [e]
    have hn := h.num
    have hi := h.id
    have hc := credOk_cases (h.creds x (credAt_some h1).1)
    refine ⟨⟨h.id, ⟨by dsimp only; omega, by dsimp only; omega⟩, fun x hx => ?_, h.wp, h.creds, h.cn, fun x hx => ?_, pw_snoc h.sp fun y hy => ?_, fun x hx => List.mem_append_left _ (h.met x hx), h.mn⟩, rfl, fun a ha => ?_⟩
    · have := h.wants x hx; exact ⟨this.1, this.2.1, by dsimp only; omega⟩
    · rcases mem_snoc hx with hx | rfl
      · have := h.sent x hx; exact ⟨this.1, this.2.1, by dsimp only; omega⟩
      · exact ⟨mk_callOk h3 hc.2.1 ht, by dsimp only; omega, by dsimp only; omega⟩
    · have := (h.sent y hy).2.2; dsimp only; omega
    · simp only [Option.some.injEq] at ha
      subst ha
      have ha := ok_auth (now := now) (num := c.num + 1) hi hc.2.1 ht (by omega)
      simp [msgOk, shaped, within, ha, hc.2.2.2]; omega
theorem ask_ok {c : Client} {kind b now : Int} (h : COk c) (ht : 0 ≤ now ∧ now ≤ 100) : COk (ask c kind b now).1 ∧ (ask c kind b now).1.id = c.id ∧ ∀ a, (ask c kind b now).2 = some a → msgOk a = true := by
  unfold ask
  split
  · exact clientAs_ok h
  split
  · exact clientTgs_ok h ht
  · exact clientAp_ok h ht
theorem putCred_servs (x : Cred) : ∀ xs : List Cred, (putCred x xs).map Cred.serv = if x.serv ∈ xs.map Cred.serv then xs.map Cred.serv else xs.map Cred.serv ++ [x.serv]
  | [] => by simp [putCred]
  | y :: r => by
    by_cases h : y.serv = x.serv
    · simp [putCred, h]
    · have h' : ¬ x.serv = y.serv := fun e => h e.symm
      simp only [putCred, if_neg h, List.map_cons, putCred_servs x r, List.mem_cons, h', false_or]
      split <;> simp
theorem putCred_mem {x y : Cred} : ∀ {xs : List Cred}, y ∈ putCred x xs → y = x ∨ y ∈ xs
  | [], h => by simp only [putCred, List.mem_singleton] at h; exact .inl h
  | z :: r, h => by
    unfold putCred at h
    split at h
    · rcases List.mem_cons.1 h with h | h
      · exact .inl h
      · exact .inr (List.mem_cons_of_mem _ h)
    · rcases List.mem_cons.1 h with h | h
      · exact .inr (h ▸ List.mem_cons_self)
      · rcases putCred_mem h with h | h
        · exact .inl h
        · exact .inr (List.mem_cons_of_mem _ h)
theorem find_putCred (x : Cred) (s : Int) : ∀ xs : List Cred, (putCred x xs).find? (fun y => y.serv == s) = if x.serv = s then some x else xs.find? (fun y => y.serv == s)
  | [] => by by_cases h : x.serv = s <;> simp [putCred, h]
  | y :: r => by
    by_cases h : y.serv = x.serv
    · by_cases h2 : x.serv = s
      · simp [putCred, h, h2]
      · simp [putCred, h, h2]
    · have ih := find_putCred x s r
      by_cases h2 : y.serv = s
      · have h3 : ¬ x.serv = s := fun e => h (h2.trans e.symm)
        simp only [putCred, if_neg h]
        rw [List.find?_cons_of_pos (by simpa using h2), if_neg h3, List.find?_cons_of_pos (by simpa using h2)]
      · simp only [putCred, if_neg h]
        rw [List.find?_cons_of_neg (by simpa using h2), ih, List.find?_cons_of_neg (by simpa using h2)]
theorem metAll_mem (s : Seal) (y : Call) : ∀ sent met : List Call, y ∈ metAll s sent met → y ∈ met ∨ (y ∈ sent ∧ s.kind = 4 ∧ y.key = s.key ∧ y.time = s.a ∧ y.num = s.b)
  | [], met, h => .inl h
  | x :: r, met, h => by
    simp only [metAll] at h
    rcases metAll_mem s y r _ h with h | ⟨h1, h2⟩
    · split at h
      · rename_i hc
        rcases mem_snoc h with h | rfl
        · exact .inl h
        · exact .inr ⟨List.mem_cons_self, hc.1, hc.2.1, hc.2.2.1, hc.2.2.2.1⟩
      · exact .inl h
    · exact .inr ⟨List.mem_cons_of_mem _ h1, h2⟩
theorem metAll_sub (s : Seal) (y : Call) : ∀ sent met : List Call, y ∈ met → y ∈ metAll s sent met
  | [], met, h => h
  | x :: r, met, h => by
    simp only [metAll]
    refine metAll_sub s y r _ ?_
    split
    · exact List.mem_append_left _ h
    · exact h
theorem metAll_nodup (s : Seal) : ∀ sent met : List Call, met.Nodup → (metAll s sent met).Nodup
  | [], met, h => h
  | x :: r, met, h => by
    simp only [metAll]
    refine metAll_nodup s r _ ?_
    split
    · rename_i hc
      rw [List.nodup_append]
      exact ⟨h, by simp, fun a ha b hb e => by rw [List.mem_singleton.1 hb] at e; exact hc.2.2.2.2 (e ▸ ha)⟩
    · exact h
theorem metAll_append (s : Seal) : ∀ a b met : List Call, metAll s (a ++ b) met = metAll s b (metAll s a met)
  | [], b, met => rfl
  | x :: r, b, met => by simp only [List.cons_append, metAll]; exact metAll_append s r b _
theorem metAll_none (s : Seal) : ∀ sent met : List Call, (∀ x ∈ sent, ¬ (s.kind = 4 ∧ x.key = s.key ∧ x.time = s.a ∧ x.num = s.b ∧ x ∉ met)) → metAll s sent met = met
  | [], met, h => rfl
  | x :: r, met, h => by
    simp only [metAll]
    rw [if_neg (h x List.mem_cons_self)]
    exact metAll_none s r met fun y hy => h y (List.mem_cons_of_mem _ hy)
/-- All that hearing a word comes to. -/
theorem clientHear_cases (c : Client) (m : Msg) : clientHear c m = c ∨
    (msgOk m = true ∧ m.client = c.id ∧ ((m.kind = 2 ∧ (sealAt m 1).key = c.id ∧ (sealAt m 1).a = 6) ∨ (m.kind = 4 ∧ ∃ x, credAt c 6 = some x ∧ (sealAt m 1).key = x.key ∧ (4 ≤ (sealAt m 1).a ∧ (sealAt m 1).a ≤ 5))) ∧
      (sealAt m 1).kind = 2 ∧ (sealAt m 0).kind = 1 ∧ (⟨(sealAt m 1).a, (sealAt m 1).c⟩ : Want) ∈ c.wants ∧
      clientHear c m = { c with wants := c.wants.erase ⟨(sealAt m 1).a, (sealAt m 1).c⟩, creds := putCred ⟨(sealAt m 1).a, (sealAt m 1).b, (sealAt m 1).d, sealAt m 0⟩ c.creds }) ∨
    (msgOk m = true ∧ m.client = c.id ∧ m.kind = 6 ∧ clientHear c m = { c with met := metAll (sealAt m 0) c.sent c.met }) := by
  unfold clientHear
  split
  · exact .inl rfl
  rename_i h0
  simp only [not_or, Bool.not_eq_false, ne_eq, Classical.not_not] at h0
  split
  · rename_i hk
    split
    · rename_i h1
      unfold given
      split
      · rename_i h2
        exact .inr (.inl ⟨h0.1, h0.2, .inl ⟨hk, h1.2.1, h1.2.2⟩, h1.1, h2.1, h2.2, rfl⟩)
      · exact .inl rfl
    · exact .inl rfl
  split
  · rename_i hk
    split
    · rename_i x hx
      split
      · rename_i h1
        unfold given
        split
        · rename_i h2
          exact .inr (.inl ⟨h0.1, h0.2, .inr ⟨hk, x, hx, h1.2.1, within_iff.1 h1.2.2⟩, h1.1, h2.1, h2.2, rfl⟩)
        · exact .inl rfl
      · exact .inl rfl
    · exact .inl rfl
  split
  · rename_i hk
    exact .inr (.inr ⟨h0.1, h0.2, hk, rfl⟩)
  · exact .inl rfl
theorem clientHear_ok {c : Client} {m : Msg} (h : COk c) : COk (clientHear c m) ∧ (clientHear c m).id = c.id := by
  rcases clientHear_cases c m with e | ⟨h1, h2, h3, h4, h5, h6, e⟩ | ⟨h1, h2, h3, e⟩
  · rw [e]; exact ⟨h, rfl⟩
  · rw [e]
    have hs := msgOk_shape h1
    have hl : m.seals.length = 2 := by omega
    have hin := seal_in hl
    have ok0 := msgOk_seals h1 _ hin.1
    have c1 := sealOk_cases (msgOk_seals h1 _ hin.2)
    refine ⟨⟨h.id, h.num, fun x hx => h.wants x (List.mem_of_mem_erase hx), h.wp.sublist List.erase_sublist, fun x hx => ?_, ?_, h.sent, h.sp, h.met, h.mn⟩, rfl⟩
    · rcases putCred_mem hx with rfl | hx
      · simp [credOk, within, ok0]; omega
      · exact h.creds x hx
    · rw [putCred_servs]
      split
      · exact h.cn
      · rename_i hn
        rw [List.nodup_append]
        exact ⟨h.cn, by simp, fun a ha b hb e => by rw [List.mem_singleton.1 hb] at e; exact hn (e ▸ ha)⟩
  · rw [e]
    refine ⟨⟨h.id, h.num, h.wants, h.wp, h.creds, h.cn, h.sent, h.sp, fun x hx => ?_, metAll_nodup _ _ _ h.mn⟩, rfl⟩
    rcases metAll_mem _ _ _ _ hx with hx | hx
    · exact h.met x hx
    · exact hx.1

/-! ### Services -/
theorem servHear_cases (s : Serv) (m : Msg) (now : Int) : servHear s m now = (s, none) ∨ (m.kind = 5 ∧ msgOk m = true ∧ m.serv = s.id ∧ shown (sealAt m 0) (sealAt m 1) s.id now = true ∧ s.since < (sealAt m 1).b ∧
    ((canKeep s.cache (sealAt m 1) now = false ∧ servHear s m now = ({ s with cache := remember s.cache (sealAt m 1) now }, none)) ∨
     (canKeep s.cache (sealAt m 1) now = true ∧ servHear s m now = ({ s with cache := remember s.cache (sealAt m 1) now, took := s.took ++ [⟨(sealAt m 1).a, (sealAt m 1).key, (sealAt m 1).b, (sealAt m 1).c⟩] },
        some ⟨6, (sealAt m 1).a, 0, 0, [mkBack (sealAt m 1).key (sealAt m 1).b (sealAt m 1).c]⟩)))) := by
  unfold servHear
  split
  · exact .inl rfl
  · rename_i h
    simp only [not_or, ne_eq, Classical.not_not, Bool.not_eq_false, Int.not_le] at h
    refine .inr ⟨h.1, h.2.1, h.2.2.1, h.2.2.2.1, h.2.2.2.2, ?_⟩
    split
    · rename_i h2; exact .inl ⟨h2, rfl⟩
    · rename_i h2; exact .inr ⟨by simpa using h2, rfl⟩
theorem servHear_ok {s : Serv} {m : Msg} {now : Int} (h : SOk s) : SOk (servHear s m now).1 ∧ (servHear s m now).1.id = s.id ∧ ∀ a, (servHear s m now).2 = some a → msgOk a = true := by
  rcases servHear_cases s m now with e | ⟨h1, h2, h3, h4, h5, e⟩
  · rw [e]; exact ⟨h, rfl, fun a ha => by cases ha⟩
  · have hs := msgOk_shape h2
    have hl : m.seals.length = 2 := by omega
    have ok1 := msgOk_seals h2 _ (seal_in hl).2
    rw [shown_iff] at h4
    have c1 := sealOk_cases ok1
    have ha : authOk (sealAt m 1) = true := by simp [authOk, ok1, h4.2.2.2.1]
    have hr := remember_ok (now := now) h.cache ha
    rcases e with ⟨h6, e⟩ | ⟨h6, e⟩
    · rw [e]; exact ⟨⟨h.id, h.since, hr, h.took⟩, rfl, fun a ha => by cases ha⟩
    · rw [e]
      refine ⟨⟨h.id, h.since, hr, fun x hx => ?_⟩, rfl, fun a ha => ?_⟩
      · rcases mem_snoc hx with hx | rfl
        · exact h.took x hx
        · simp [tookOk, within]; omega
      · simp only [Option.some.injEq] at ha
        subst ha
        have hb := ok_back (key := (sealAt m 1).key) (time := (sealAt m 1).b) (num := (sealAt m 1).c) (by omega) (by omega) (by omega)
        simp [msgOk, shaped, within, hb]; omega
theorem servFall_ok {s : Serv} {now : Int} (h : SOk s) (ht : 0 ≤ now ∧ now ≤ 100) : SOk (servFall s now) ∧ (servFall s now).id = s.id := by
  have := h.since
  refine ⟨⟨h.id, ?_, ⟨by simp [servFall], by simp [servFall], by simp [servFall]⟩, h.took⟩, rfl⟩
  simp only [servFall]; split <;> omega

/-! ### Worlds -/
theorem send_cases (w : World) (m : Option Msg) : send w m = w ∨ ∃ a, m = some a ∧ w.log.length < 80 ∧ send w m = { w with log := w.log ++ [a] } := by
  unfold send
  split
  · exact .inl rfl
  · rename_i a
    split
    · rename_i h; exact .inr ⟨a, rfl, h, rfl⟩
    · exact .inl rfl
theorem send_ok {w : World} {m : Option Msg} (h : WOk w) (hm : ∀ a, m = some a → msgOk a = true) : WOk (send w m) := by
  rcases send_cases w m with e | ⟨a, ha, hl, e⟩
  · rw [e]; exact h
  · rw [e]
    refine ⟨h.now, h.kdc, h.cl, h.sl, by simp only [List.length_append, List.length_singleton]; omega, h.bad, h.cs, h.ss, fun x hx => ?_⟩
    rcases mem_snoc hx with hx | rfl
    · exact h.ms x hx
    · exact hm _ ha
theorem clientOf_get {w : World} (h : WOk w) {id : Int} (hi : 1 ≤ id ∧ id ≤ 3) : w.clients[(id - 1).toNat]? = some (clientOf w id) := by
  have hl := h.cl
  unfold clientOf
  rw [List.getD_eq_getElem?_getD, List.getElem?_eq_getElem (by omega)]; rfl
theorem servOf_get {w : World} (h : WOk w) {id : Int} (hi : 4 ≤ id ∧ id ≤ 5) : w.servs[(id - 4).toNat]? = some (servOf w id) := by
  have hl := h.sl
  unfold servOf
  rw [List.getD_eq_getElem?_getD, List.getElem?_eq_getElem (by omega)]; rfl
theorem clientOf_ok {w : World} (h : WOk w) {id : Int} (hi : 1 ≤ id ∧ id ≤ 3) : COk (clientOf w id) ∧ (clientOf w id).id = id := by
  have := h.cs _ _ (clientOf_get h hi)
  exact ⟨this.1, by omega⟩
theorem servOf_ok {w : World} (h : WOk w) {id : Int} (hi : 4 ≤ id ∧ id ≤ 5) : SOk (servOf w id) ∧ (servOf w id).id = id := by
  have := h.ss _ _ (servOf_get h hi)
  exact ⟨this.1, by omega⟩
theorem setClient_ok {w : World} (h : WOk w) {id : Int} (hi : 1 ≤ id ∧ id ≤ 3) {c : Client} (hc : COk c) (he : c.id = id) : WOk (setClient w id c) := by
  refine ⟨h.now, h.kdc, by simp [setClient, h.cl], h.sl, h.ll, h.bad, fun i x hx => ?_, h.ss, h.ms⟩
  simp only [setClient, List.getElem?_set] at hx
  split at hx
  · split at hx
    · cases hx; exact ⟨hc, by omega⟩
    · cases hx
  · exact h.cs i x hx
theorem setServ_ok {w : World} (h : WOk w) {id : Int} (hi : 4 ≤ id ∧ id ≤ 5) {s : Serv} (hc : SOk s) (he : s.id = id) : WOk (setServ w id s) := by
  refine ⟨h.now, h.kdc, h.cl, by simp [setServ, h.sl], h.ll, h.bad, h.cs, fun i x hx => ?_, h.ms⟩
  simp only [setServ, List.getElem?_set] at hx
  split at hx
  · split at hx
    · cases hx; exact ⟨hc, by omega⟩
    · cases hx
  · exact h.ss i x hx
theorem setKdc_ok {w : World} (h : WOk w) {k : Kdc} (hk : KOk k) : WOk { w with kdc := k } := ⟨h.now, hk, h.cl, h.sl, h.ll, h.bad, h.cs, h.ss, h.ms⟩
theorem asks_ok {w : World} {kind a b : Int} (h : WOk w) : WOk (asks w kind a b) := by
  unfold asks
  split
  · exact h
  · rename_i hc
    simp only [not_or, Bool.not_eq_false] at hc
    have hi := within_iff.1 hc.1
    have hco := clientOf_ok h hi
    have ho := ask_ok (kind := kind) (b := b) hco.1 h.now
    exact send_ok (setClient_ok h hi ho.1 (ho.2.1.trans hco.2)) ho.2.2
theorem bringMsg_ok {w : World} {m : Msg} (h : WOk w) (hm : msgOk m = true) : WOk (bringMsg w m) := by
  have hs := msgOk_shape hm
  unfold bringMsg
  split
  · have ho := kdcAs_ok (m := m) h.kdc h.now
    exact send_ok (setKdc_ok h ho.1) ho.2
  split
  · have ho := kdcTgs_ok (m := m) h.kdc h.now
    exact send_ok (setKdc_ok h ho.1) ho.2
  split
  · have hi : 4 ≤ m.serv ∧ m.serv ≤ 5 := by omega
    have hso := servOf_ok h hi
    have ho := servHear_ok (m := m) (now := w.now) hso.1
    exact send_ok (setServ_ok h hi ho.1 (ho.2.1.trans hso.2)) ho.2.2
  split
  · exact h
  · have hi : 1 ≤ m.client ∧ m.client ≤ 3 := by omega
    have hco := clientOf_ok h hi
    have ho := clientHear_ok (m := m) hco.1
    exact setClient_ok h hi ho.1 (ho.2.trans hco.2)
theorem bring_cases (w : World) (at_ : Int) : bring w at_ = w ∨ (0 ≤ at_ ∧ at_ < w.log.length ∧ ∃ m, w.log[at_.toNat]? = some m ∧ m ∈ w.log ∧ bring w at_ = bringMsg w m) := by
  unfold bring
  split
  · rename_i h
    have hl : at_.toNat < w.log.length := by omega
    have hg : w.log[at_.toNat]? = some (w.log.getD at_.toNat Msg.zero) := by
      rw [List.getD_eq_getElem?_getD, List.getElem?_eq_getElem hl]; rfl
    exact .inr ⟨h.1, h.2, _, hg, List.mem_of_getElem? hg, rfl⟩
  · exact .inl rfl
theorem bring_ok {w : World} {at_ : Int} (h : WOk w) : WOk (bring w at_) := by
  rcases bring_cases w at_ with e | ⟨_, _, m, _, hm, e⟩
  · rw [e]; exact h
  · rw [e]; exact bringMsg_ok h (h.ms m hm)
theorem tick_ok {w : World} (h : WOk w) : WOk (tick w) := by
  have := h.now
  refine ⟨?_, h.kdc, h.cl, h.sl, h.ll, h.bad, h.cs, h.ss, h.ms⟩
  simp only [tick]; split <;> omega
theorem fall_ok {w : World} {b : Int} (h : WOk w) : WOk (fall w b) := by
  unfold fall
  split
  · rename_i hb
    have hi := within_iff.1 hb
    have hso := servOf_ok h hi
    have ho := servFall_ok hso.1 h.now
    exact setServ_ok h hi ho.1 (ho.2.trans hso.2)
  · exact h
theorem knowBuild_ok {keys : List Int} {seals : List Seal} {m : Msg} (h : knowBuild keys seals m = true) : msgOk m = true := by
  simp only [knowBuild, Bool.and_eq_true] at h
  exact h.1
theorem step_ok {w : World} {e : Event} (h : WOk w) : WOk (step w e) := by
  unfold step
  split
  · exact asks_ok h
  split
  · exact bring_ok h
  split
  · split
    · rename_i hb
      exact send_ok h fun a ha => by cases ha; exact knowBuild_ok hb
    · exact h
  split
  · exact tick_ok h
  split
  · exact fall_ok h
  · exact h
theorem new_ok {bad : Int} (h : 0 ≤ bad ∧ bad ≤ 3) : WOk (worldNew bad) := by
  have hc : ∀ id : Int, 1 ≤ id ∧ id ≤ 3 → COk (clientNew id) := fun id hi => ⟨hi, by simp [clientNew], by simp [clientNew], by simp [clientNew], by simp [clientNew], by simp [clientNew], by simp [clientNew], by simp [clientNew], by simp [clientNew], by simp [clientNew]⟩
  have hs : ∀ id : Int, 4 ≤ id ∧ id ≤ 5 → SOk (servNew id) := fun id hi => ⟨hi, by simp [servNew], ⟨by simp [servNew], by simp [servNew], by simp [servNew]⟩, by simp [servNew]⟩
  refine ⟨by simp [worldNew], ⟨by simp [worldNew, kdcNew], ⟨by simp [worldNew, kdcNew], by simp [worldNew, kdcNew], by simp [worldNew, kdcNew]⟩⟩, rfl, rfl, by simp [worldNew], h, fun i c hc' => ?_, fun i s hs' => ?_, by simp [worldNew]⟩
  · match i, hc' with
    | 0, hc' => cases hc'; exact ⟨hc 1 (by omega), rfl⟩
    | 1, hc' => cases hc'; exact ⟨hc 2 (by omega), rfl⟩
    | 2, hc' => cases hc'; exact ⟨hc 3 (by omega), rfl⟩
  · match i, hs' with
    | 0, hs' => cases hs'; exact ⟨hs 4 (by omega), rfl⟩
    | 1, hs' => cases hs'; exact ⟨hs 5 (by omega), rfl⟩
theorem play_ok : ∀ {es : List Event} {w : World}, WOk w → WOk (play w es)
  | [], w, h => h
  | e :: r, w, h => play_ok (es := r) (step_ok (e := e) h)
end Go.Proofs.YtoledfhjmdpihaaGreat
/- Who meets; how the log grows. (What the texts of lines need of the plain laws, and no more.) -/
set_option linter.unusedVariables false
set_option linter.unusedSimpArgs false
namespace Go.Proofs.YtoledfhjmdpihaaGreat
theorem tookOk_cases {x : Call} (h : tookOk x = true) : (1 ≤ x.peer ∧ x.peer ≤ 3) ∧ (10 ≤ x.key ∧ x.key ≤ 60) ∧ (0 ≤ x.time ∧ x.time ≤ 100) ∧ (1 ≤ x.num ∧ x.num ≤ 60) := by
  simp only [tookOk, Bool.and_eq_true, within_iff] at h
  exact ⟨h.1.1.1, h.1.1.2, h.1.2, h.2⟩
theorem send_log (w : World) (m : Option Msg) : (send w m).log.length ≤ w.log.length + 1 ∧ w.log.length ≤ (send w m).log.length ∧ (send w m).bad = w.bad ∧ (send w m).now = w.now ∧ (send w m).clients = w.clients ∧ (send w m).servs = w.servs ∧ (send w m).kdc = w.kdc := by
  rcases send_cases w m with e | ⟨a, _, _, e⟩ <;> rw [e]
  · exact ⟨by omega, by omega, rfl, rfl, rfl, rfl, rfl⟩
  · exact ⟨by simp, by simp, rfl, rfl, rfl, rfl, rfl⟩
theorem asks_log (w : World) (kind a b : Int) : (asks w kind a b).log.length ≤ w.log.length + 1 ∧ w.log.length ≤ (asks w kind a b).log.length ∧ (asks w kind a b).bad = w.bad := by
  unfold asks
  split
  · exact ⟨by omega, by omega, rfl⟩
  · have := send_log (setClient w a (ask (clientOf w a) kind b w.now).1) (ask (clientOf w a) kind b w.now).2
    exact ⟨this.1, this.2.1, this.2.2.1⟩
theorem bringMsg_log (w : World) (m : Msg) : (bringMsg w m).log.length ≤ w.log.length + 1 ∧ w.log.length ≤ (bringMsg w m).log.length ∧ (bringMsg w m).bad = w.bad := by
  unfold bringMsg
  split
  · have := send_log { w with kdc := (kdcAs w.kdc m w.now).1 } (kdcAs w.kdc m w.now).2
    exact ⟨this.1, this.2.1, this.2.2.1⟩
  split
  · have := send_log { w with kdc := (kdcTgs w.kdc m w.now).1 } (kdcTgs w.kdc m w.now).2
    exact ⟨this.1, this.2.1, this.2.2.1⟩
  split
  · have := send_log (setServ w m.serv (servHear (servOf w m.serv) m w.now).1) (servHear (servOf w m.serv) m w.now).2
    exact ⟨this.1, this.2.1, this.2.2.1⟩
  split
  · exact ⟨by omega, by omega, rfl⟩
  · exact ⟨by simp [setClient], by simp [setClient], rfl⟩
theorem bring_log (w : World) (k : Int) : (bring w k).log.length ≤ w.log.length + 1 ∧ w.log.length ≤ (bring w k).log.length ∧ (bring w k).bad = w.bad := by
  unfold bring
  split
  · exact bringMsg_log w _
  · exact ⟨by omega, by omega, rfl⟩
/-- The last word is brought, if more than so many were sent. -/
def last (n : Nat) (w : World) : World := if n < w.log.length then bring w ((w.log.length : Int) - 1) else w
def phase (w : World) (kind a b : Int) : World := last (w.log.length + 1) (last w.log.length (asks w kind a b))
def meet (w : World) (user serv : Int) : World := phase (phase (phase (tick w) 1 user serv) 2 user serv) 3 user serv
theorem last_eq {w : World} {l : List Msg} {m : Msg} {n : Nat} (hl : w.log = l ++ [m]) (hn : n ≤ l.length) : last n w = bringMsg w m := by
  unfold last
  have e : w.log.length = l.length + 1 := by rw [hl]; simp
  rw [if_pos (by omega)]
  unfold bring
  rw [if_pos (by omega)]
  have e2 : ((w.log.length : Int) - 1).toNat = l.length := by omega
  have e3 : w.log.getD l.length Msg.zero = m := by
    rw [List.getD_eq_getElem?_getD, hl]; simp
  rw [e2, e3]
theorem last_none {w : World} {n : Nat} (h : w.log.length ≤ n) : last n w = w := by unfold last; rw [if_neg (by omega)]
theorem last_ok {w : World} {n : Nat} (h : WOk w) : WOk (last n w) := by
  unfold last
  split
  · exact bring_ok h
  · exact h
theorem phase_ok {w : World} {k a b : Int} (h : WOk w) : WOk (phase w k a b) := last_ok (last_ok (asks_ok h))
theorem meet_ok {w : World} {a b : Int} (h : WOk w) : WOk (meet w a b) := phase_ok (phase_ok (phase_ok (tick_ok h)))
end Go.Proofs.YtoledfhjmdpihaaGreat
