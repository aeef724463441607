/- Texts, without memory: numbers in decimals, texts cut at a byte, texts of seals and words, what lines do; what the functions come to on them. -/
import Derived.Lib.ItoaNum
import Derived.Lib.SplitLaws
import Derived.Lib.IndexBytes
import Derived.Test.YtoledfhjmdpihaaGreatDoorA3
set_option linter.unusedVariables false
set_option linter.unusedSimpArgs false
namespace Go.Proofs.YtoledfhjmdpihaaGreatDoor
open Go

abbrev Str := List UInt8

/-! ### Numbers in decimals -/
def decF : Nat → Nat → Str
  | 0, _ => []
  | k + 1, u => if u < 10 then [UInt8.ofNat (48 + u)] else decF k (u / 10) ++ [UInt8.ofNat (48 + u % 10)]
def dec (n : Int) : Str := decF 20 n.toNat
theorem decF_eq : ∀ (k u : Nat), u < 10 ^ k → 0 < k → decF k u = Lib.decDigits u
  | 0, _, _, h => absurd h (by omega)
  | k + 1, u, hu, _ => by
    rw [decF, Lib.decDigits]
    by_cases h : u < 10
    · rw [if_pos h, dif_pos h]
    · rw [if_neg h, dif_neg h]
      have hk : 0 < k := by
        rcases Nat.eq_zero_or_pos k with rfl | hk
        · simp at hu; omega
        · exact hk
      rw [decF_eq k (u / 10) (by rw [Nat.pow_succ] at hu; omega) hk]
theorem dec_itoa {n : Int} (h0 : 0 ≤ n) (h1 : n ≤ 9223372036854775807) : dec n = Lib.itoa n := by
  unfold dec Lib.itoa
  rw [if_neg (by omega)]
  exact decF_eq 20 n.toNat (by omega) (by omega)
theorem decF_len : ∀ (k u : Nat), (decF k u).length ≤ k
  | 0, _ => Nat.le_refl _
  | k + 1, u => by
    unfold decF
    split
    · simp
    · have := decF_len k (u / 10)
      simp; omega
theorem dec_len (n : Int) : (dec n).length ≤ 20 := decF_len 20 _
theorem dec_small {n : Int} (h0 : 0 ≤ n) (h1 : n < 10) : dec n = [UInt8.ofNat (48 + n.toNat)] := by
  unfold dec decF
  rw [if_pos (by omega)]
theorem decF_up : ∀ (k u : Nat), u < 10 ^ k → 0 < k → decF (k + 1) u = decF k u := fun k u h hk => by
  rw [decF_eq (k + 1) u (by rw [Nat.pow_succ]; omega) (by omega), decF_eq k u h hk]
theorem dec_big {n : Int} (h0 : 10 ≤ n) (h1 : n ≤ 9223372036854775807) : dec n = dec (n / 10) ++ [UInt8.ofNat (48 + (n % 10).toNat)] := by
  have e1 : (n / 10).toNat = n.toNat / 10 := by omega
  have e2 : (n % 10).toNat = n.toNat % 10 := by omega
  unfold dec
  rw [e1, e2, decF, if_neg (by omega)]
  rw [← decF_up 19 (n.toNat / 10) (by omega) (by omega)]

/-! ### Texts cut at a byte -/
def cutAt (at_ : UInt8) : Str → List Str
  | [] => [[]]
  | c :: r => if c = at_ then [] :: cutAt at_ r else match cutAt at_ r with
    | [] => [[c]]
    | w :: ws => (c :: w) :: ws
theorem cutAt_ne (a : UInt8) : ∀ s, cutAt a s ≠ []
  | [] => by simp [cutAt]
  | c :: r => by
    unfold cutAt
    split
    · simp
    · split <;> simp
/-- The last piece grows. -/
def addLast (c : UInt8) : List Str → List Str
  | [] => [[c]]
  | [w] => [w ++ [c]]
  | w :: x :: ws => w :: addLast c (x :: ws)
theorem addLast_cons {c : UInt8} {w : Str} {ws : List Str} (h : ws ≠ []) : addLast c (w :: ws) = w :: addLast c ws := by
  cases ws with
  | nil => exact absurd rfl h
  | cons x ws => rfl
theorem cutAt_snoc (a c : UInt8) : ∀ s, cutAt a (s ++ [c]) = if c = a then cutAt a s ++ [[]] else addLast c (cutAt a s)
  | [] => by
    by_cases h : c = a
    · simp [cutAt, h]
    · simp [cutAt, h, addLast]
  | b :: s => by
    have ih := cutAt_snoc a c s
    have hne := cutAt_ne a s
    rw [List.cons_append]
    unfold cutAt
    rw [ih]
    by_cases hb : b = a
    · rw [if_pos hb, if_pos hb]
      by_cases h : c = a
      · simp [h]
      · simp [h, addLast_cons hne]
    · rw [if_neg hb, if_neg hb]
      cases hs : cutAt a s with
      | nil => exact absurd hs hne
      | cons w ws =>
        by_cases h : c = a
        · simp [h]
        · simp only [h, if_false]
          cases ws with
          | nil => simp [addLast]
          | cons x ws => simp [addLast]
theorem cutAt_none {a : UInt8} : ∀ {s : Str}, a ∉ s → cutAt a s = [s]
  | [], _ => rfl
  | c :: r, h => by
    have h1 : c ≠ a := fun e => h (by simp [e])
    have h2 : a ∉ r := fun e => h (by simp [e])
    unfold cutAt
    rw [if_neg h1, cutAt_none h2]
theorem cutAt_app {a : UInt8} : ∀ {u : Str} (r : Str), a ∉ u → cutAt a (u ++ a :: r) = u :: cutAt a r
  | [], r, _ => by simp [cutAt]
  | c :: u, r, h => by
    have h1 : c ≠ a := fun e => h (by simp [e])
    have h2 : a ∉ u := fun e => h (by simp [e])
    rw [List.cons_append]
    rw [cutAt, if_neg h1, cutAt_app r h2]
theorem cutAt_len (a : UInt8) : ∀ s, (cutAt a s).length = s.count a + 1
  | [] => rfl
  | c :: r => by
    have ih := cutAt_len a r
    unfold cutAt
    by_cases h : c = a
    · rw [if_pos h]; subst h; simp [ih]
    · rw [if_neg h, List.count_cons_of_ne (by simpa using h)]
      cases hs : cutAt a r with
      | nil => exact absurd hs (cutAt_ne a r)
      | cons w ws => rw [hs] at ih; simpa using ih
theorem cutAt_pieces (a : UInt8) : ∀ s, ∀ w ∈ cutAt a s, w.length ≤ s.length
  | [], w, h => by simp [cutAt] at h; subst h; simp
  | c :: r, w, h => by
    have ih := cutAt_pieces a r
    unfold cutAt at h
    split at h
    · rcases List.mem_cons.1 h with rfl | h
      · simp
      · have := ih w h; simp; omega
    · cases hs : cutAt a r with
      | nil => exact absurd hs (cutAt_ne a r)
      | cons x ws =>
        rw [hs] at h ih
        rcases List.mem_cons.1 h with rfl | h
        · have := ih x List.mem_cons_self; simp; omega
        · have := ih w (List.mem_cons_of_mem _ h); simp; omega
theorem index_one_none {a : UInt8} {s : Str} (h : a ∉ s) : Lib.index s [a] = -1 := by
  induction s with
  | nil => simp [Lib.index]
  | cons b l ih =>
    have h1 : a ≠ b := fun e => h (by simp [e])
    rw [Lib.index, ih (fun e => h (by simp [e]))]
    simp [List.isPrefixOf, h1]
theorem index_one_app {a : UInt8} {u : Str} (r : Str) (h : a ∉ u) : Lib.index (u ++ a :: r) [a] = u.length := by
  induction u with
  | nil => simp [Lib.index, List.isPrefixOf]
  | cons b l ih =>
    have h1 : a ≠ b := fun e => h (by simp [e])
    rw [List.cons_append, Lib.index, ih (fun e => h (by simp [e]))]
    have : ¬ ((l.length : Int) = -1) := by omega
    simp [List.isPrefixOf, h1, this]
theorem mem_split_first {a : UInt8} : ∀ {s : Str}, a ∈ s → ∃ u r, s = u ++ a :: r ∧ a ∉ u
  | [], h => by cases h
  | c :: s, h => by
    by_cases hc : c = a
    · exact ⟨[], s, by simp [hc], by simp⟩
    · obtain ⟨u, r, h1, h2⟩ := mem_split_first (s := s) (by rcases List.mem_cons.1 h with h | h; exact absurd h.symm hc; exact h)
      exact ⟨c :: u, r, by rw [h1]; rfl, by simp [h2, Ne.symm hc]⟩
theorem splitK_cut (a : UInt8) : ∀ (k : Nat) (s : Str), s.count a = k → Lib.splitK [a] 0 k s = cutAt a s
  | 0, s, h => by
    rw [cutAt_none (List.count_eq_zero.1 h)]; rfl
  | k + 1, s, h => by
    obtain ⟨u, r, rfl, hu⟩ := mem_split_first (a := a) (s := s) (List.count_pos_iff.1 (by omega))
    have hr : r.count a = k := by
      have := List.count_eq_zero.2 hu
      simp at h; omega
    rw [cutAt_app r hu, Lib.splitK, index_one_app r hu]
    have h1 : ¬ (((u.length : Int)) == -1) = true := by simp
    rw [if_neg h1]
    have e1 : (u ++ a :: r).take u.length = u := by simp
    have e2 : (u ++ a :: r).drop (u.length + 1) = r := by simp
    simp only [Int.toNat_natCast, Nat.add_zero, List.length_cons, List.length_nil, Nat.zero_add, e1, e2]
    rw [splitK_cut a k r hr]
theorem splitB_cut (a : UInt8) (s : Str) : Lib.splitB ⟨#[a]⟩ 0 (Lib.countB ⟨s.toArray⟩ ⟨#[a]⟩) ⟨s.toArray⟩ = (cutAt a s).map (fun w => (⟨w.toArray⟩ : ByteArray)) := by
  have h1 : Lib.countB ⟨s.toArray⟩ ⟨#[a]⟩ = s.count a := Lib.count_one a s
  have h2 := Lib.splitB_data ⟨#[a]⟩ 0 (s.count a) ⟨s.toArray⟩
  simp only [List.toList_toArray] at h2
  rw [splitK_cut a _ s rfl] at h2
  rw [h1, ← h2, List.map_map]
  conv => lhs; rw [← List.map_id (Lib.splitB _ _ _ _)]
  apply List.map_congr_left
  intro x _
  rfl
theorem countB_cut (a : UInt8) (s : Str) : Lib.countB ⟨s.toArray⟩ ⟨#[a]⟩ + 1 = (cutAt a s).length := by
  rw [cutAt_len]
  have : Lib.countB ⟨s.toArray⟩ ⟨#[a]⟩ = s.count a := Lib.count_one a s
  rw [this]

/-! ### A number of one to three figures; -1, if it is none -/
def isFig (b : UInt8) : Bool := decide (48 ≤ b.toNat) && decide (b.toNat ≤ 57)
def numOf (w : Str) : Int := if 1 ≤ w.length ∧ w.length ≤ 3 ∧ w.all isFig = true then w.foldl (fun n b => 10 * n + ((b.toNat : Int) - 48)) 0 else -1
def numAt (ws : List Str) (k : Nat) : Int := match ws[k]? with
  | some w => numOf w
  | none => -1

/-! ### Texts of seals and words -/
def kindName (k : Int) : Str := if k = 1 then [116, 105, 99, 107, 101, 116] else if k = 2 then [112, 97, 114, 116] else if k = 3 then [97, 117, 116, 104] else if k = 4 then [98, 97, 99, 107] else []
def decs : List Int → Str
  | [] => []
  | [n] => dec n
  | n :: m :: r => dec n ++ 32 :: decs (m :: r)
def sealText (s : Seal) : Str := if sealOk s then kindName s.kind ++ 32 :: decs [s.key, s.a, s.b, s.c, s.d, s.e] else []
def msgText (m : Msg) : Str := if msgOk m then decs [m.kind, m.client, m.serv, m.nonce] ++ 10 :: m.seals.flatMap (fun s => sealText s ++ [10]) else []

/-! ### What lines do -/
abbrev wAs : Str := [97, 115]
abbrev wTgs : Str := [116, 103, 115]
abbrev wAp : Str := [97, 112]
abbrev wBring : Str := [98, 114, 105, 110, 103]
abbrev wTick : Str := [116, 105, 99, 107]
abbrev wFall : Str := [102, 97, 108, 108]
abbrev wMeet : Str := [109, 101, 101, 116]
abbrev wLog : Str := [108, 111, 103]
abbrev wKeys : Str := [107, 101, 121, 115]
abbrev tWhat : Str := [119, 104, 97, 116, 10]
def lineW (w : World) (ws : List Str) : World :=
  if ws.headD [] = wAs then asks w 1 (numAt ws 1) 0
  else if ws.headD [] = wTgs then asks w 2 (numAt ws 1) (numAt ws 2)
  else if ws.headD [] = wAp then asks w 3 (numAt ws 1) (numAt ws 2)
  else if ws.headD [] = wBring then bring w (numAt ws 1)
  else if ws.headD [] = wTick then tick w
  else if ws.headD [] = wFall then fall w (numAt ws 1)
  else if ws.headD [] = wMeet then meet w (numAt ws 1) (numAt ws 2)
  else w
def logFrom : Nat → List Msg → Str
  | _, [] => []
  | i, m :: r => dec i ++ 58 :: 32 :: (msgText m ++ logFrom (i + 1) r)
def logText (w : World) : Str := logFrom 0 w.log ++ 97 :: 116 :: 32 :: (dec w.now ++ [10])
noncomputable abbrev keysOf (w : World) : List Int := knowKeys (own w) (worldSeals w)
def keysText (ks : List Int) : Str := wKeys ++ (ks.flatMap (fun k => 32 :: dec k) ++ [10])
def known (w : Str) : Bool := decide (w = wAs) || decide (w = wTgs) || decide (w = wAp) || decide (w = wBring) || decide (w = wTick) || decide (w = wFall) || decide (w = wMeet)
noncomputable def lineS (w : World) (ws : List Str) : Str :=
  if known (ws.headD []) then []
  else if ws.headD [] = wLog then logText w
  else if ws.headD [] = wKeys then keysText (keysOf w)
  else tWhat
noncomputable def lineStep (st : World × Str) (line : Str) : World × Str := (lineW st.1 (cutAt 32 line), st.2 ++ lineS st.1 (cutAt 32 line))
def linesOf (text : Str) : List Str := (cutAt 10 text).dropLast
def tookText (w : World) : Str := w.servs.flatMap (fun s => s.took.flatMap (fun x => dec x.peer ++ [32, 99, 97, 108, 108, 101, 100, 32] ++ dec s.id ++ [32, 97, 116, 32] ++ dec x.time ++ [10]))
def metText (w : World) : Str := w.clients.flatMap (fun c => dec c.id ++ [32, 109, 101, 116, 32] ++ dec (c.met.length : Int) ++ [10])
abbrev tNoWorld : Str := [110, 111, 32, 119, 111, 114, 108, 100, 10]
abbrev tTooLong : Str := [116, 111, 111, 32, 108, 111, 110, 103, 10]
noncomputable def linesFrom (w : World) (ls : List Str) : World × Str := ls.foldl lineStep (w, [])
noncomputable def linesRun (bad : Int) (text : Str) : Str :=
  if within bad 0 3 = false then tNoWorld
  else if 600 < text.length then tTooLong
  else (linesFrom (worldNew bad) (linesOf text)).2 ++ (tookText (linesFrom (worldNew bad) (linesOf text)).1 ++ metText (linesFrom (worldNew bad) (linesOf text)).1)
end Go.Proofs.YtoledfhjmdpihaaGreatDoor
/- What lines come to: the laws of texts, without memory. -/
set_option linter.unusedVariables false
set_option linter.unusedSimpArgs false
namespace Go.Proofs.YtoledfhjmdpihaaGreatDoor
open Go

/-! ### The keys left open -/
def lineSK (kf : World → List Int) (w : World) (ws : List Str) : Str :=
  if known (ws.headD []) then []
  else if ws.headD [] = wLog then logText w
  else if ws.headD [] = wKeys then keysText (kf w)
  else tWhat
def lineStepK (kf : World → List Int) (st : World × Str) (line : Str) : World × Str := (lineW st.1 (cutAt 32 line), st.2 ++ lineSK kf st.1 (cutAt 32 line))
def linesFromK (kf : World → List Int) (st : World × Str) (ls : List Str) : World × Str := ls.foldl (lineStepK kf) st
def linesRunK (kf : World → List Int) (bad : Int) (text : Str) : Str :=
  if within bad 0 3 = false then tNoWorld
  else if 600 < text.length then tTooLong
  else (linesFromK kf (worldNew bad, []) (linesOf text)).2 ++ (tookText (linesFromK kf (worldNew bad, []) (linesOf text)).1 ++ metText (linesFromK kf (worldNew bad, []) (linesOf text)).1)
theorem linesRunK_eq (bad : Int) (text : Str) : linesRun bad text = linesRunK keysOf bad text := rfl
/-- Nothing that was sent is under a key that one has from the beginning. -/
def calm (w : World) : Bool := (own w).all (fun k => within k 1 60) && (worldSeals w).all (fun s => !decide (s.key ∈ own w))
def ownKeys (w : World) : List Int := ((List.range 61).map (fun k : Nat => (k : Int))).filter (fun k => decide (k ∈ own w))
theorem calm_keys {w : World} (h : calm w = true) : keysOf w = ownKeys w := by
  unfold calm at h
  rw [Bool.and_eq_true] at h
  have h1 := List.all_eq_true.1 h.1
  have h2 := List.all_eq_true.1 h.2
  have key : ∀ k, Comes (own w) (worldSeals w) k ↔ k ∈ own w := fun k => by
    constructor
    · intro hc
      induction hc with
      | has hk _ => exact hk
      | opens hs _ hp ih =>
        have := h2 _ hs
        simp [ih] at this
    · exact fun hk => .has hk (h1 k hk)
  unfold keysOf knowKeys ownKeys
  apply List.filter_congr
  intro k _
  unfold comes
  by_cases hk : k ∈ own w
  · rw [@decide_eq_true _ (_) ((key k).2 hk), decide_eq_true hk]
  · rw [@decide_eq_false _ (_) (fun e => hk ((key k).1 e)), decide_eq_false hk]
def allCalm : World → List Str → Bool
  | _, [] => true
  | w, l :: ls => (!decide ((cutAt 32 l).headD [] = wKeys) || calm w) && allCalm (lineW w (cutAt 32 l)) ls
theorem allCalm_eq : ∀ (ls : List Str) (w : World) (o : Str), allCalm w ls = true → linesFromK keysOf (w, o) ls = linesFromK ownKeys (w, o) ls
  | [], _, _, _ => rfl
  | l :: ls, w, o, h => by
    unfold allCalm at h
    rw [Bool.and_eq_true] at h
    have e : lineSK keysOf w (cutAt 32 l) = lineSK ownKeys w (cutAt 32 l) := by
      unfold lineSK
      by_cases hk : (cutAt 32 l).headD [] = wKeys
      · have hc : calm w = true := by simpa only [hk, decide_true, Bool.not_true, Bool.false_or] using h.1
        rw [calm_keys hc]
      · simp only [if_neg hk]
    unfold linesFromK
    simp only [List.foldl_cons]
    have e2 : lineStepK keysOf (w, o) l = lineStepK ownKeys (w, o) l := by
      unfold lineStepK; simp only [e]
    rw [e2]
    exact allCalm_eq ls _ _ h.2
theorem run_calm {bad : Int} {text : Str} (h : allCalm (worldNew bad) (linesOf text) = true) : linesRun bad text = linesRunK ownKeys bad text := by
  rw [linesRunK_eq]
  unfold linesRunK
  rw [allCalm_eq _ _ _ h]
theorem run_is {bad : Int} {text out : Str} (h : allCalm (worldNew bad) (linesOf text) = true) (e : linesRunK ownKeys bad text = out) : linesRun bad text = out := (run_calm h).trans e

/-! ### Fixed texts -/
theorem bad_cases {bad : Int} (h : 0 ≤ bad ∧ bad ≤ 3) : bad = 0 ∨ bad = 1 ∨ bad = 2 ∨ bad = 3 := by omega
abbrev tNone : Str := [49, 32, 109, 101, 116, 32, 48, 10, 50, 32, 109, 101, 116, 32, 48, 10, 51, 32, 109, 101, 116, 32, 48, 10]
theorem lm_empty {bad : Int} (h : 0 ≤ bad ∧ bad ≤ 3) : linesRun bad [] = tNone := by
  rcases bad_cases h with rfl | rfl | rfl | rfl <;> exact run_is (by decide +kernel) (by decide +kernel)
theorem lm_what {bad : Int} (h : 0 ≤ bad ∧ bad ≤ 3) : linesRun bad [119, 104, 97, 116, 10] = [119, 104, 97, 116, 10] ++ tNone := by
  rcases bad_cases h with rfl | rfl | rfl | rfl <;> exact run_is (by decide +kernel) (by decide +kernel)
theorem lm_meet {bad : Int} (h : 0 ≤ bad ∧ bad ≤ 3) : linesRun bad [109, 101, 101, 116, 32, 50, 32, 53, 10] = if bad = 2 then tNone else [50, 32, 99, 97, 108, 108, 101, 100, 32, 53, 32, 97, 116, 32, 49, 10, 49, 32, 109, 101, 116, 32, 48, 10, 50, 32, 109, 101, 116, 32, 49, 10, 51, 32, 109, 101, 116, 32, 48, 10] := by
  rcases bad_cases h with rfl | rfl | rfl | rfl <;> exact run_is (by decide +kernel) (by decide +kernel)
abbrev tOnce : Str := [49, 32, 99, 97, 108, 108, 101, 100, 32, 52, 32, 97, 116, 32, 49, 10, 49, 32, 109, 101, 116, 32, 49, 10, 50, 32, 109, 101, 116, 32, 48, 10, 51, 32, 109, 101, 116, 32, 48, 10]
theorem lr_1 : linesRun 0 [109, 101, 101, 116, 32, 49, 32, 52, 10, 98, 114, 105, 110, 103, 32, 52, 10, 98, 114, 105, 110, 103, 32, 52, 10] = tOnce := run_is (by decide +kernel) (by decide +kernel)
theorem lr_2 : linesRun 0 [109, 101, 101, 116, 32, 49, 32, 52, 10, 102, 97, 108, 108, 32, 52, 10, 98, 114, 105, 110, 103, 32, 52, 10, 116, 105, 99, 107, 10, 98, 114, 105, 110, 103, 32, 52, 10] = tOnce := run_is (by decide +kernel) (by decide +kernel)
theorem lr_3 : linesRun 0 [109, 101, 101, 116, 32, 49, 32, 52, 10, 98, 114, 105, 110, 103, 32, 53, 10, 98, 114, 105, 110, 103, 32, 49, 10, 98, 114, 105, 110, 103, 32, 51, 10] = tOnce := run_is (by decide +kernel) (by decide +kernel)
def keysTold (bad : Int) : Str := if bad = 0 then [107, 101, 121, 115, 10] else if bad = 1 then [107, 101, 121, 115, 32, 49, 10] else if bad = 2 then [107, 101, 121, 115, 32, 50, 10] else [107, 101, 121, 115, 32, 51, 10]
def keysWho (bad : Int) : Str := if bad = 1 then [50] else [49]
theorem lk_1 {bad : Int} (h : 0 ≤ bad ∧ bad ≤ 3) : linesRun bad [107, 101, 121, 115, 10, 108, 111, 103, 10] = keysTold bad ++ [97, 116, 32, 48, 10] ++ tNone := by
  rcases bad_cases h with rfl | rfl | rfl | rfl <;> exact run_is (by decide +kernel) (by decide +kernel)
theorem lk_2 {bad : Int} (h : 0 ≤ bad ∧ bad ≤ 3) : (keysTold bad).length < (linesRun bad ([109, 101, 101, 116, 32] ++ keysWho bad ++ [32, 52, 10, 107, 101, 121, 115, 10])).length ∧ (linesRun bad ([109, 101, 101, 116, 32] ++ keysWho bad ++ [32, 52, 10, 107, 101, 121, 115, 10])).take (keysTold bad).length = keysTold bad := by
  rcases bad_cases h with rfl | rfl | rfl | rfl <;> rw [run_calm (by decide +kernel)] <;> decide +kernel
theorem ls_1 {bad : Int} (h : 0 ≤ bad ∧ bad ≤ 3) : linesRun bad [116, 105, 99, 107, 10, 97, 115, 32, 51, 10, 98, 114, 105, 110, 103, 32, 48, 10, 98, 114, 105, 110, 103, 32, 49, 10, 116, 103, 115, 32, 51, 32, 52, 10, 98, 114, 105, 110, 103, 32, 50, 10, 98, 114, 105, 110, 103, 32, 51, 10, 97, 112, 32, 51, 32, 52, 10, 98, 114, 105, 110, 103, 32, 52, 10, 98, 114, 105, 110, 103, 32, 53, 10, 108, 111, 103, 10] = linesRun bad [109, 101, 101, 116, 32, 51, 32, 52, 10, 108, 111, 103, 10] := by
  rcases bad_cases h with rfl | rfl | rfl | rfl <;> rw [run_calm (by decide +kernel), run_calm (by decide +kernel)] <;> decide +kernel
theorem lf_1 : linesRun 0 [102, 97, 108, 108, 32, 52, 10, 109, 101, 101, 116, 32, 49, 32, 52, 10, 102, 97, 108, 108, 32, 52, 10, 109, 101, 101, 116, 32, 50, 32, 52, 10] = [49, 32, 99, 97, 108, 108, 101, 100, 32, 52, 32, 97, 116, 32, 49, 10, 50, 32, 99, 97, 108, 108, 101, 100, 32, 52, 32, 97, 116, 32, 50, 10, 49, 32, 109, 101, 116, 32, 49, 10, 50, 32, 109, 101, 116, 32, 49, 10, 51, 32, 109, 101, 116, 32, 48, 10] := run_is (by decide +kernel) (by decide +kernel)
theorem lb_1 : linesRun 0 [109, 101, 101, 116, 32, 49, 32, 53, 10, 109, 101, 101, 116, 32, 49, 32, 52, 10, 109, 101, 101, 116, 32, 51, 32, 53, 10] = [49, 32, 99, 97, 108, 108, 101, 100, 32, 52, 32, 97, 116, 32, 50, 10, 49, 32, 99, 97, 108, 108, 101, 100, 32, 53, 32, 97, 116, 32, 49, 10, 51, 32, 99, 97, 108, 108, 101, 100, 32, 53, 32, 97, 116, 32, 51, 10, 49, 32, 109, 101, 116, 32, 50, 10, 50, 32, 109, 101, 116, 32, 48, 10, 51, 32, 109, 101, 116, 32, 49, 10] := run_is (by decide +kernel) (by decide +kernel)
def ticks : Nat → Str
  | 0 => []
  | n + 1 => ticks n ++ [116, 105, 99, 107, 10]
theorem lt_1 {bad : Int} (h : 0 ≤ bad ∧ bad ≤ 3) {n : Nat} (hn : n < 9) : linesRun bad (ticks n ++ [108, 111, 103, 10]) = [97, 116, 32] ++ ([UInt8.ofNat (48 + n)] ++ (10 :: tNone)) := by
  have e : n = 0 ∨ n = 1 ∨ n = 2 ∨ n = 3 ∨ n = 4 ∨ n = 5 ∨ n = 6 ∨ n = 7 ∨ n = 8 := by omega
  rcases bad_cases h with rfl | rfl | rfl | rfl <;> rcases e with rfl | rfl | rfl | rfl | rfl | rfl | rfl | rfl | rfl <;> exact run_is (by decide +kernel) (by decide +kernel)
theorem lo_1 {bad : Int} (h : ¬ (0 ≤ bad ∧ bad ≤ 3)) (text : Str) : linesRun bad text = tNoWorld := by
  unfold linesRun
  rw [if_pos (within_false.2 h)]
theorem lo_2 {bad : Int} (h : 0 ≤ bad ∧ bad ≤ 3) {text : Str} (hl : 600 < text.length) : linesRun bad text = tTooLong := by
  unfold linesRun
  rw [if_neg (by rw [within_iff.2 h]; simp), if_pos hl]
theorem lo_3 {bad : Int} (h : 0 ≤ bad ∧ bad ≤ 3) {text : Str} (hl : text.length ≤ 600) :
    linesRun bad text = (linesFrom (worldNew bad) (linesOf text)).2 ++ (tookText (linesFrom (worldNew bad) (linesOf text)).1 ++ metText (linesFrom (worldNew bad) (linesOf text)).1) := by
  unfold linesRun
  rw [if_neg (by rw [within_iff.2 h]; simp), if_neg (by omega)]

/-! ### Worlds stay in order -/
theorem lineW_ok {w : World} (h : WOk w) (ws : List Str) : WOk (lineW w ws) := by
  unfold lineW
  split; exact asks_ok h
  split; exact asks_ok h
  split; exact asks_ok h
  split; exact bring_ok h
  split; exact tick_ok h
  split; exact fall_ok h
  split; exact meet_ok h
  exact h
theorem lines_ok : ∀ (ls : List Str) (st : World × Str), WOk st.1 → WOk (ls.foldl lineStep st).1
  | [], _, h => h
  | l :: ls, st, h => lines_ok ls _ (lineW_ok h _)
theorem linesFrom_ok {bad : Int} (h : 0 ≤ bad ∧ bad ≤ 3) (ls : List Str) : WOk (linesFrom (worldNew bad) ls).1 := lines_ok ls _ (new_ok h)

/-! ### How many lines -/
theorem met_count : ∀ cs : List Client, cs.length ≤ List.count 10 (cs.flatMap (fun c => dec c.id ++ [32, 109, 101, 116, 32] ++ dec (c.met.length : Int) ++ [10]))
  | [] => by simp
  | c :: cs => by
    have ih := met_count cs
    rw [List.flatMap_cons, List.count_append, List.count_append]
    have : List.count (10 : UInt8) [10] = 1 := rfl
    rw [this, List.length_cons]
    omega
theorem ll_1 {bad : Int} (h : 0 ≤ bad ∧ bad ≤ 3) {text : Str} (hl : text.length ≤ 600) : 3 ≤ (linesRun bad text).count 10 ∧ (linesRun bad text).getLast? = some 10 := by
  have ho := linesFrom_ok h (linesOf text)
  rw [lo_3 h hl]
  have hc : (linesFrom (worldNew bad) (linesOf text)).1.clients.length = 3 := ho.cl
  constructor
  · have := met_count (linesFrom (worldNew bad) (linesOf text)).1.clients
    rw [List.count_append, List.count_append]
    unfold metText
    omega
  · generalize (linesFrom (worldNew bad) (linesOf text)).1 = w at hc
    obtain ⟨c, hcs⟩ : ∃ cs c, w.clients = cs ++ [c] := by
      rcases List.eq_nil_or_concat w.clients with e | ⟨cs, c, e⟩
      · rw [e] at hc; simp at hc
      · exact ⟨cs, c, by rw [e, List.concat_eq_append]⟩
    obtain ⟨d, hcs⟩ := hcs
    unfold metText
    rw [hcs, List.flatMap_append]
    have e : ∀ a b c d : Str, (a ++ (b ++ (c ++ (d ++ [10])))).getLast? = some 10 := by intros; simp
    rw [List.flatMap_cons, List.flatMap_nil, List.append_nil]
    exact e _ _ _ _
theorem ll_2 {bad : Int} {text : Str} (h : ¬ (0 ≤ bad ∧ bad ≤ 3) ∨ 600 < text.length) : (linesRun bad text).count 10 = 1 := by
  by_cases hb : 0 ≤ bad ∧ bad ≤ 3
  · rw [lo_2 hb (h.resolve_left (fun e => e hb))]; rfl
  · rw [lo_1 hb]; rfl

/-! ### A text that is longer by lines -/
theorem cutAt_mid (a : UInt8) : ∀ t r : Str, cutAt a (t ++ a :: r) = cutAt a t ++ cutAt a r
  | [], r => by simp [cutAt]
  | c :: t, r => by
    have ih := cutAt_mid a t r
    rw [List.cons_append]
    revert ih
    generalize cutAt a r = q
    intro ih
    unfold cutAt
    by_cases hc : c = a
    · rw [if_pos hc, if_pos hc, ih]; rfl
    · rw [if_neg hc, if_neg hc, ih]
      cases hs : cutAt a t with
      | nil => exact absurd hs (cutAt_ne a t)
      | cons w ws => rfl
/-- A text of whole lines. -/
def whole (t : Str) : Prop := t = [] ∨ ∃ u, t = u ++ [10]
theorem linesOf_more {t : Str} (h : whole t) (r : Str) (hr : r ≠ []) (hw : whole r) : linesOf (t ++ r) = linesOf t ++ linesOf r := by
  rcases h with rfl | ⟨u, rfl⟩
  · rfl
  · unfold linesOf
    rw [show (u ++ [10]) ++ r = u ++ 10 :: r by simp, cutAt_mid, cutAt_snoc, if_pos rfl, List.dropLast_append_of_ne_nil (cutAt_ne 10 r), List.dropLast_concat]
theorem lines_app (w : World) (ls ms : List Str) : ∀ (o : Str), ∃ x, (ls.foldl lineStep (w, o)) = ((linesFrom w ls).1, x) ∧ True := fun o => by
  refine ⟨(ls.foldl lineStep (w, o)).2, ?_, trivial⟩
  have : ∀ (ls : List Str) (w : World) (o p : Str), (ls.foldl lineStep (w, o)).1 = (ls.foldl lineStep (w, p)).1 := by
    intro ls
    induction ls with
    | nil => intros; rfl
    | cons l ls ih => intro w o p; exact ih _ _ _
  exact Prod.ext (this ls w o []) rfl
theorem lq {bad : Int} (h : 0 ≤ bad ∧ bad ≤ 3) {text : Str} (hw : whole text) (hl : text.length ≤ 580) :
    (linesRun bad (text ++ [119, 104, 97, 116, 10])).length = (linesRun bad text).length + 5
    ∧ (linesRun bad text).length + 10 ≤ (linesRun bad (text ++ [107, 101, 121, 115, 10, 119, 104, 97, 116, 10])).length
    ∧ (linesRun bad text).length < (linesRun bad (text ++ [108, 111, 103, 10, 108, 111, 103, 10])).length := by
  have w1 : whole [119, 104, 97, 116, 10] := .inr ⟨[119, 104, 97, 116], rfl⟩
  have w2 : whole [107, 101, 121, 115, 10, 119, 104, 97, 116, 10] := .inr ⟨[107, 101, 121, 115, 10, 119, 104, 97, 116], rfl⟩
  have w3 : whole [108, 111, 103, 10, 108, 111, 103, 10] := .inr ⟨[108, 111, 103, 10, 108, 111, 103], rfl⟩
  have e1 : linesOf [119, 104, 97, 116, 10] = [[119, 104, 97, 116]] := by decide +kernel
  have e2 : linesOf [107, 101, 121, 115, 10, 119, 104, 97, 116, 10] = [[107, 101, 121, 115], [119, 104, 97, 116]] := by decide +kernel
  have e3 : linesOf [108, 111, 103, 10, 108, 111, 103, 10] = [[108, 111, 103], [108, 111, 103]] := by decide +kernel
  have c1 : cutAt 32 [119, 104, 97, 116] = [[119, 104, 97, 116]] := by decide +kernel
  have c2 : cutAt 32 [107, 101, 121, 115] = [[107, 101, 121, 115]] := by decide +kernel
  have c3 : cutAt 32 [108, 111, 103] = [[108, 111, 103]] := by decide +kernel
  have n1 : (text ++ [119, 104, 97, 116, 10]).length ≤ 600 := by rw [List.length_append]; simp; omega
  have n2 : (text ++ [107, 101, 121, 115, 10, 119, 104, 97, 116, 10]).length ≤ 600 := by rw [List.length_append]; simp; omega
  have n3 : (text ++ [108, 111, 103, 10, 108, 111, 103, 10]).length ≤ 600 := by rw [List.length_append]; simp; omega
  rw [lo_3 h n1, lo_3 h n2, lo_3 h n3, lo_3 h (show text.length ≤ 600 by omega)]
  rw [linesOf_more hw _ (by simp) w1, linesOf_more hw _ (by simp) w2, linesOf_more hw _ (by simp) w3, e1, e2, e3]
  have hk : ∀ w : World, 5 ≤ (keysText (keysOf w)).length := fun w => by unfold keysText; simp
  have hg : ∀ w : World, 1 ≤ (logText w).length := fun w => by unfold logText; simp; omega
  have l1 : ∀ w : World, lineW w [[119, 104, 97, 116]] = w := fun w => by unfold lineW; simp
  have l2 : ∀ w : World, lineW w [[107, 101, 121, 115]] = w := fun w => by unfold lineW; simp
  have l3 : ∀ w : World, lineW w [[108, 111, 103]] = w := fun w => by unfold lineW; simp
  have s1 : ∀ w : World, lineS w [[119, 104, 97, 116]] = tWhat := fun w => by unfold lineS known; simp
  have s2 : ∀ w : World, lineS w [[107, 101, 121, 115]] = keysText (keysOf w) := fun w => by unfold lineS known; simp
  have s3 : ∀ w : World, lineS w [[108, 111, 103]] = logText w := fun w => by unfold lineS known; simp
  unfold linesFrom
  simp only [List.foldl_append, List.foldl_cons, List.foldl_nil]
  generalize hst : (linesOf text).foldl lineStep (worldNew bad, []) = st
  have k1 := hk st.1
  have g1 := hg st.1
  simp only [lineStep, c1, c2, c3, l1, l2, l3, s1, s2, s3, List.length_append]
  refine ⟨?_, ?_, ?_⟩
  · simp; omega
  · have : tWhat.length = 5 := rfl
    omega
  · omega
end Go.Proofs.YtoledfhjmdpihaaGreatDoor
/- Lines one by one: what the walks through texts need. -/
set_option linter.unusedVariables false
set_option linter.unusedSimpArgs false
namespace Go.Proofs.YtoledfhjmdpihaaGreatDoor
open Go
theorem linesOf_len (t : Str) : (linesOf t).length = (cutAt 10 t).length - 1 := by unfold linesOf; rw [List.length_dropLast]
theorem cutAt_two {a : UInt8} {s : Str} (h : 2 ≤ (cutAt a s).length) : a ∈ s := by
  rw [cutAt_len] at h
  exact List.count_pos_iff.1 (by omega)
theorem text_step {text rest : Str} {k : Nat} (h : cutAt 10 rest = (cutAt 10 text).drop k) (hk : k < (linesOf text).length) :
    ∃ u r, rest = u ++ 10 :: r ∧ 10 ∉ u ∧ (linesOf text)[k]? = some u ∧ cutAt 10 r = (cutAt 10 text).drop (k + 1) := by
  have hl := linesOf_len text
  have h2 : 2 ≤ (cutAt 10 rest).length := by rw [h, List.length_drop]; omega
  obtain ⟨u, r, rfl, hu⟩ := mem_split_first (cutAt_two h2)
  rw [cutAt_app r hu] at h
  have hk1 : (cutAt 10 text)[k]? = some u := by
    have := congrArg (fun l => l[0]?) h
    simp only [List.getElem?_cons_zero, List.getElem?_drop, Nat.add_zero] at this
    exact this.symm
  refine ⟨u, r, rfl, hu, ?_, ?_⟩
  · unfold linesOf
    rw [List.dropLast_eq_take, List.getElem?_take_of_lt (by omega)]
    exact hk1
  · have := congrArg List.tail h
    rw [List.tail_cons, List.tail_drop] at this
    exact this
theorem text_end {text rest : Str} {k : Nat} (h : cutAt 10 rest = (cutAt 10 text).drop k) (hk : (linesOf text).length ≤ k) : 10 ∉ rest := by
  have hl := linesOf_len text
  have h2 := congrArg List.length h
  rw [List.length_drop, cutAt_len] at h2
  have hp : 0 < (cutAt 10 text).length := List.length_pos_iff.2 (cutAt_ne 10 text)
  intro hc
  have := List.count_pos_iff.2 hc
  omega
theorem linesFrom_next {w : World} {ls : List Str} {k : Nat} {u : Str} (h : ls[k]? = some u) : linesFrom w (ls.take (k + 1)) = lineStep (linesFrom w (ls.take k)) u := by
  have hk := (List.getElem?_eq_some_iff.1 h).1
  unfold linesFrom
  rw [List.take_add_one, h]
  simp
theorem linesFrom_all {w : World} {ls : List Str} {k : Nat} (h : ls.length ≤ k) : linesFrom w (ls.take k) = linesFrom w ls := by rw [List.take_of_length_le h]
theorem linesFrom_none {w : World} {ls : List Str} : linesFrom w (ls.take 0) = (w, []) := by simp [linesFrom]
/-- The lines that are gone, and what is left. -/
theorem head_len {u : Str} {w : Str} (h : (cutAt 32 u).headD [] = w) : w.length ≤ u.length := by
  cases hs : cutAt 32 u with
  | nil => exact absurd hs (cutAt_ne 32 u)
  | cons x xs =>
    rw [hs] at h
    have h' : x = w := h
    subst h'
    exact cutAt_pieces 32 u x (by rw [hs]; exact List.mem_cons_self)
/-- What lines do, kind by kind. -/
theorem lineW_as {w : World} {ws : List Str} (h : ws.headD [] = wAs) : lineW w ws = asks w 1 (numAt ws 1) 0 := by unfold lineW; rw [if_pos h]
theorem lineW_tgs {w : World} {ws : List Str} (h : ws.headD [] = wTgs) : lineW w ws = asks w 2 (numAt ws 1) (numAt ws 2) := by unfold lineW; rw [h]; simp
theorem lineW_ap {w : World} {ws : List Str} (h : ws.headD [] = wAp) : lineW w ws = asks w 3 (numAt ws 1) (numAt ws 2) := by unfold lineW; rw [h]; simp
theorem lineW_bring {w : World} {ws : List Str} (h : ws.headD [] = wBring) : lineW w ws = bring w (numAt ws 1) := by unfold lineW; rw [h]; simp
theorem lineW_tick {w : World} {ws : List Str} (h : ws.headD [] = wTick) : lineW w ws = tick w := by unfold lineW; rw [h]; simp
theorem lineW_fall {w : World} {ws : List Str} (h : ws.headD [] = wFall) : lineW w ws = fall w (numAt ws 1) := by unfold lineW; rw [h]; simp
theorem lineW_meet {w : World} {ws : List Str} (h : ws.headD [] = wMeet) : lineW w ws = meet w (numAt ws 1) (numAt ws 2) := by unfold lineW; rw [h]; simp
theorem lineW_none {w : World} {ws : List Str} (h : known (ws.headD []) = false) : lineW w ws = w := by
  unfold known at h
  simp only [Bool.or_eq_false_iff, decide_eq_false_iff_not] at h
  unfold lineW
  rw [if_neg h.1.1.1.1.1.1, if_neg h.1.1.1.1.1.2, if_neg h.1.1.1.1.2, if_neg h.1.1.1.2, if_neg h.1.1.2, if_neg h.1.2, if_neg h.2]
theorem lineS_known {w : World} {ws : List Str} (h : known (ws.headD []) = true) : lineS w ws = [] := by unfold lineS; rw [if_pos h]
theorem lineS_log {w : World} {ws : List Str} (h : ws.headD [] = wLog) : lineS w ws = logText w := by unfold lineS known; rw [h]; simp
theorem lineS_keys {w : World} {ws : List Str} (h : ws.headD [] = wKeys) : lineS w ws = keysText (keysOf w) := by unfold lineS known; rw [h]; simp
theorem lineS_what {w : World} {ws : List Str} (h : known (ws.headD []) = false) (h1 : ws.headD [] ≠ wLog) (h2 : ws.headD [] ≠ wKeys) : lineS w ws = tWhat := by
  unfold lineS; rw [if_neg (by rw [h]; simp), if_neg h1, if_neg h2]
theorem known_iff {x : Str} : known x = true ↔ x = wAs ∨ x = wTgs ∨ x = wAp ∨ x = wBring ∨ x = wTick ∨ x = wFall ∨ x = wMeet := by
  unfold known; simp only [Bool.or_eq_true, decide_eq_true_eq]
  constructor
  · rintro ((((((h | h) | h) | h) | h) | h) | h) <;> simp [h]
  · rintro (h | h | h | h | h | h | h) <;> simp [h]
theorem known_false {x : Str} (h : known x = false) : x ≠ wAs ∧ x ≠ wTgs ∧ x ≠ wAp ∧ x ≠ wBring ∧ x ≠ wTick ∧ x ≠ wFall ∧ x ≠ wMeet := by
  have h' : ¬ known x = true := by rw [h]; simp
  rw [known_iff] at h'
  simp only [not_or] at h'
  exact h'
/-! ### Texts behind texts -/
theorem logFrom_next : ∀ (l : List Msg) (i : Nat) (m : Msg), logFrom i (l ++ [m]) = logFrom i l ++ (dec ((i + l.length : Nat) : Int) ++ 58 :: 32 :: msgText m)
  | [], i, m => by simp [logFrom]
  | x :: l, i, m => by
    have ih := logFrom_next l (i + 1) m
    have e : i + 1 + l.length = i + (x :: l).length := by simp; omega
    rw [List.cons_append, logFrom, logFrom, ih, e]
    simp
abbrev keyWords (ks : List Int) : Str := ks.flatMap (fun k => 32 :: dec k)
theorem keyWords_next (ks : List Int) (k : Int) : keyWords (ks ++ [k]) = keyWords ks ++ 32 :: dec k := by simp [keyWords]
theorem keyWords_len : ∀ ks : List Int, (keyWords ks).length ≤ 21 * ks.length
  | [] => Nat.le_refl _
  | k :: r => by
    have h1 := dec_len k
    have h2 := keyWords_len r
    simp only [keyWords, List.flatMap_cons, List.length_append, List.length_cons] at *; omega
theorem keysOf_len (w : World) : (keysOf w).length ≤ 61 := by
  unfold keysOf knowKeys
  refine Nat.le_trans (List.length_filter_le _ _) ?_
  simp
theorem keysOf_range (w : World) : ∀ k ∈ keysOf w, 0 ≤ k ∧ k ≤ 1000000 := by
  intro k hk
  unfold keysOf knowKeys at hk
  have := (List.mem_filter.1 hk).1
  obtain ⟨n, hn, rfl⟩ := List.mem_map.1 this
  have := List.mem_range.1 hn
  omega
abbrev tookLine (id : Int) (x : Call) : Str := dec x.peer ++ [32, 99, 97, 108, 108, 101, 100, 32] ++ dec id ++ [32, 97, 116, 32] ++ dec x.time ++ [10]
abbrev tookLines (id : Int) (xs : List Call) : Str := xs.flatMap (tookLine id)
abbrev servLines (ss : List Serv) : Str := ss.flatMap (fun s => tookLines s.id s.took)
abbrev metLine (c : Client) : Str := dec c.id ++ [32, 109, 101, 116, 32] ++ dec (c.met.length : Int) ++ [10]
abbrev metLines (cs : List Client) : Str := cs.flatMap metLine
theorem tookLines_next (id : Int) (xs : List Call) (x : Call) : tookLines id (xs ++ [x]) = tookLines id xs ++ tookLine id x := by simp [tookLines]
theorem servLines_next (ss : List Serv) (s : Serv) : servLines (ss ++ [s]) = servLines ss ++ tookLines s.id s.took := by simp [servLines]
theorem metLines_next (cs : List Client) (c : Client) : metLines (cs ++ [c]) = metLines cs ++ metLine c := by simp [metLines]
theorem tookLine_len (id : Int) (x : Call) : (tookLine id x).length ≤ 80 := by
  have h1 := dec_len x.peer
  have h2 := dec_len id
  have h3 := dec_len x.time
  simp only [tookLine, List.length_append, List.length_cons, List.length_nil]; omega
theorem tookLines_len (id : Int) : ∀ xs : List Call, (tookLines id xs).length ≤ 80 * xs.length
  | [] => Nat.le_refl _
  | x :: r => by
    have h1 := tookLine_len id x
    have h2 := tookLines_len id r
    simp only [tookLines, List.flatMap_cons, List.length_append, List.length_cons] at *; omega
theorem metLine_len (c : Client) : (metLine c).length ≤ 60 := by
  have h1 := dec_len c.id
  have h2 := dec_len (c.met.length : Int)
  simp only [metLine, List.length_append, List.length_cons, List.length_nil]; omega
theorem metLines_len : ∀ cs : List Client, (metLines cs).length ≤ 60 * cs.length
  | [] => Nat.le_refl _
  | c :: r => by
    have h1 := metLine_len c
    have h2 := metLines_len r
    simp only [metLines, List.flatMap_cons, List.length_append, List.length_cons] at *; omega
theorem tookText_eq (w : World) : tookText w = servLines w.servs := rfl
theorem metText_eq (w : World) : metText w = metLines w.clients := rfl
end Go.Proofs.YtoledfhjmdpihaaGreatDoor
