/- What came in: structs and slices of structs, read out of all blocks of a memory. -/
import Derived.ChangeArms
import Derived.Deep.Slices
import Derived.Test.YtoledfhjmdpihaaGreatA10
import Derived.Test.YtoledfhjmdpihaaGreatA4
import Derived.Test.YtoledfhjmdpihaaGreatA25
import Derived.Test.YtoledfhjmdpihaaGreatA24
set_option linter.unusedVariables false
set_option linter.unusedSimpArgs false
namespace Go.Proofs.YtoledfhjmdpihaaGreat
open Go Go.Proofs Go.Proofs.YtoledfhjmdpihaaGreat.VE
open Go.WideShapes

theorem list_of {X : Type} {p : Nat → X → Prop} : ∀ (n : Nat), (∀ i, i < n → ∃ x, p i x) → ∃ xs : List X, xs.length = n ∧ ∀ i x, xs[i]? = some x → p i x
  | 0, _ => ⟨[], rfl, fun i x h => by simp at h⟩
  | n + 1, h => by
    obtain ⟨xs, hl, hx⟩ := list_of n (fun i hi => h i (by omega))
    obtain ⟨y, hy⟩ := h n (by omega)
    refine ⟨xs ++ [y], by simp [hl], fun i x hi => ?_⟩
    rcases Nat.lt_or_ge i n with hlt | hge
    · rw [List.getElem?_append_left (by omega)] at hi; exact hx i x hi
    · rw [List.getElem?_append_right (by omega)] at hi
      have h1 := (List.getElem?_eq_some_iff.1 hi).1
      simp at h1
      have h2 : i = n := by omega
      subst h2
      rw [hl, Nat.sub_self] at hi
      cases hi; exact hy

/-- A slice that came in. -/
structure SlIn {X : Type} (L : List Ent) (E : Enc X) (s : Sl) (xs : List X) : Prop where
  top : s.n ≤ 9223372036854775807
  len : s.n = xs.length
  at_ : s.n ≤ 1048576 → SliceAt L E s xs

section
variable {H : Type} {enc : TypeId × Value → H} {P : Program} {w : Go.World}
/-- Whatever reads at this type is of this shape. -/
def Shape (enc : TypeId × Value → H) (P : Program) (w : Go.World) (t : TypeId) {X : Type} (C : X → List Value) (A : X → Prop) : Prop :=
  ∀ (fuel : Nat) (cs : List Value) (x : DataW H × List MemPlace), DataW.trod enc P w 0 (fun _ => true) true fuel t cs = some x → ∃ y : X, cs = C y ∧ A y

theorem shape_int {t : TypeId} (ht : P.underlying t = some (.int .i64)) : Shape enc P w t (fun n : Int => [I n]) (fun _ => True) := fun fuel cs x h => by
  obtain ⟨n, h1, _⟩ := DataW.trod_int ht h
  exact ⟨n, h1, trivial⟩

theorem add_plus (b o k : Nat) : Addr.add ⟨b, o, none⟩ k = ⟨b, o + k, none⟩ := by
  unfold Addr.add; split
  · next hi => subst hi; rfl
  · rfl

theorem takeC_of {c ys : List Value} {o n : Nat} (hn : ys.length = n) (h0 : 0 < n) (h : ∀ i, i < n → c[o + i]? = ys[i]?) : takeC c o n = some ys := by
  have hlt : o + n ≤ c.length := by
    have := h (n - 1) (by omega)
    rw [List.getElem?_eq_getElem (by omega : n - 1 < ys.length)] at this
    have := (List.getElem?_eq_some_iff.1 this).1
    omega
  unfold takeC
  rw [if_pos hlt]
  congr 1
  apply List.ext_getElem?
  intro i
  rcases Nat.lt_or_ge i n with hi | hi
  · rw [List.getElem?_take_of_lt hi, List.getElem?_drop]; exact h i hi
  · rw [List.getElem?_eq_none (by rw [List.length_take, List.length_drop]; omega), List.getElem?_eq_none (by omega)]

theorem shape_slice {t e : TypeId} {X : Type} {E : Enc X} {A : X → Prop} (ht : P.underlying t = some (.slice e)) (he : P.cellsOf e = E.sz) (hpos : 0 < E.sz) (h : Shape enc P w e E.cells A) :
    Shape enc P w t (fun p : Sl × List X => [p.1.v]) (fun p => SlIn (heapL w) E p.1 p.2 ∧ ∀ x ∈ p.2, A x) := fun fuel cs x hx => by
  rcases DataW.trod_slice ht hx with ⟨rfl, _⟩ | ⟨a, len, cap, elems, rest, n, _, rfl, _, _, hl, hm, hlen, hel, _, _⟩
  · exact ⟨(⟨none, 0, 0⟩, []), rfl, ⟨by simp, rfl, fun _ => SliceAt.nil⟩, by simp⟩
  · obtain ⟨xs, hxl, hxs⟩ := list_of (p := fun i y => w.cells? 0 (a.add (i * E.sz)) E.sz = some (E.cells y) ∧ A y) len (fun i hi => by
      have h1 := hel i hi
      rw [List.getElem?_eq_getElem (by omega : i < elems.length)] at h1
      obtain ⟨cs', h2, h3⟩ := Option.bind_eq_some_iff.1 h1
      obtain ⟨y, rfl, hy⟩ := h n cs' _ h3
      rw [he] at h2
      exact ⟨y, h2, hy⟩)
    simp only [maxLen] at hm
    refine ⟨(⟨some a, len, cap⟩, xs), rfl, ⟨by show len ≤ _; omega, hxl.symm, fun hle => ?_⟩, fun y hy => ?_⟩
    · replace hle : len ≤ 1048576 := hle
      refine ⟨hxl.symm, by rw [hxl]; exact hl, by rw [hxl]; simp only [big]; omega, fun hp => ?_⟩
      rw [hxl] at hp
      obtain ⟨b, o, sp⟩ := a
      have hget : ∀ i y, xs[i]? = some y → ∀ j, j < E.sz → w.cell? ((Addr.mk b o sp).add (i * E.sz + j)) = (E.cells y)[j]? := fun i y hi j hj => by
        obtain ⟨_, h5, h6⟩ := World.cells?_some (hxs i y hi).1
        have := h6 j hj
        rwa [Go.Deep.add_add] at this
      obtain ⟨y0, hy0⟩ : ∃ y, xs[0]? = some y := ⟨_, List.getElem?_eq_getElem (by omega)⟩
      have h0 := hget 0 y0 hy0 0 hpos
      rw [Nat.zero_mul, Nat.add_zero, List.getElem?_eq_getElem (by rw [E.len]; exact hpos)] at h0
      have hadd0 : Addr.add ⟨b, o, sp⟩ 0 = ⟨b, o, sp⟩ := rfl
      rw [hadd0] at h0
      have hsp : sp = none := World.cell?_spot h0
      subst hsp
      cases hb : w.heap[b]? with
      | none => unfold Go.World.cell? at h0; rw [hb] at h0; cases h0
      | some ob =>
        cases ob with
        | cells arr T fr =>
          refine ⟨b, o, arr.toList, T, fr, rfl, heapL_mem.2 (by rw [hb]), fun k y hk => takeC_of (E.len y) hpos fun j hj => ?_⟩
          have hc := hget k y hk j hj
          rw [add_plus] at hc
          unfold Go.World.cell? at hc
          rw [hb] at hc
          replace hc : arr[o + (k * E.sz + j)]? = (E.cells y)[j]? := by simpa using hc
          rw [← hc, Array.getElem?_toList, Nat.add_assoc]
        | _ => unfold Go.World.cell? at h0; rw [hb] at h0; cases h0
    · obtain ⟨i, hi⟩ := List.getElem?_of_mem hy
      exact (hxs i y hi).2

theorem fld {t : TypeId} {X : Type} {C : X → List Value} {A : X → Prop} (h : Shape enc P w t C A) {n i o k : Nat} {cs : List Value} {xs : List (DataW H × List MemPlace)}
    (hx : DataW.trod enc P w 0 (fun _ => true) true n t ((cs.drop o).take (P.cellsOf t)) = xs[i]?) (hl : i < xs.length) (hk : P.cellsOf t = k) : ∃ y : X, (cs.drop o).take k = C y ∧ A y := by
  rw [List.getElem?_eq_getElem hl, hk] at hx
  exact h n _ _ hx
end
theorem len2 {α : Type} {l : List α} (h : l.length = 2) : ∃ c0 c1, l = [c0, c1] := by
  match l, h with
  | [c0, c1], _ => exact ⟨c0, c1, rfl⟩
theorem len4 {α : Type} {l : List α} (h : l.length = 4) : ∃ c0 c1 c2 c3, l = [c0, c1, c2, c3] := by
  match l, h with
  | [c0, c1, c2, c3], _ => exact ⟨c0, c1, c2, c3, rfl⟩
theorem len5 {α : Type} {l : List α} (h : l.length = 5) : ∃ c0 c1 c2 c3 c4, l = [c0, c1, c2, c3, c4] := by
  match l, h with
  | [c0, c1, c2, c3, c4], _ => exact ⟨c0, c1, c2, c3, c4, rfl⟩
theorem len6 {α : Type} {l : List α} (h : l.length = 6) : ∃ c0 c1 c2 c3 c4 c5, l = [c0, c1, c2, c3, c4, c5] := by
  match l, h with
  | [c0, c1, c2, c3, c4, c5], _ => exact ⟨c0, c1, c2, c3, c4, c5, rfl⟩
theorem len7 {α : Type} {l : List α} (h : l.length = 7) : ∃ c0 c1 c2 c3 c4 c5 c6, l = [c0, c1, c2, c3, c4, c5, c6] := by
  match l, h with
  | [c0, c1, c2, c3, c4, c5, c6], _ => exact ⟨c0, c1, c2, c3, c4, c5, c6, rfl⟩
theorem len8 {α : Type} {l : List α} (h : l.length = 8) : ∃ c0 c1 c2 c3 c4 c5 c6 c7, l = [c0, c1, c2, c3, c4, c5, c6, c7] := by
  match l, h with
  | [c0, c1, c2, c3, c4, c5, c6, c7], _ => exact ⟨c0, c1, c2, c3, c4, c5, c6, c7, rfl⟩
theorem len10 {α : Type} {l : List α} (h : l.length = 10) : ∃ c0 c1 c2 c3 c4 c5 c6 c7 c8 c9, l = [c0, c1, c2, c3, c4, c5, c6, c7, c8, c9] := by
  match l, h with
  | [c0, c1, c2, c3, c4, c5, c6, c7, c8, c9], _ => exact ⟨c0, c1, c2, c3, c4, c5, c6, c7, c8, c9, rfl⟩

/-! ### The program's own structs -/
structure CliIn (L : List Ent) (p : Client × CSl) : Prop where
  w : SlIn L encWant p.2.w p.1.wants
  c : SlIn L encCred p.2.c p.1.creds
  s : SlIn L encCall p.2.s p.1.sent
  m : SlIn L encCall p.2.m p.1.met
structure SrvIn (L : List Ent) (p : Serv × (Sl × Sl)) : Prop where
  c : SlIn L encSeal p.2.1 p.1.cache
  t : SlIn L encCall p.2.2 p.1.took
def MsgIn (L : List Ent) (p : Msg × Sl) : Prop := SlIn L encSeal p.2 p.1.seals
structure WldIn (L : List Ent) (w : World) (q : WSl) (ps : List (Client × CSl)) (ss : List (Serv × (Sl × Sl))) (ms : List (Msg × Sl)) : Prop where
  kc : SlIn L encSeal q.kc w.kdc.cache
  pe : ps.map Prod.fst = w.clients
  pr : SlIn L encClient q.cs ps
  pa : ∀ p ∈ ps, CliIn L p
  se : ss.map Prod.fst = w.servs
  sr : SlIn L encServ q.ss ss
  sa : ∀ p ∈ ss, SrvIn L p
  me : ms.map Prod.fst = w.log
  mr : SlIn L encMsg q.ls ms
  ma : ∀ p ∈ ms, MsgIn L p
section
variable {H : Type} {enc : TypeId × Value → H} {w : Go.World}
theorem sh_int : Shape enc Tryz.prog w 3 (fun n : Int => [I n]) (fun _ => True) := shape_int (by kernel_rfl)
theorem sh_seal : Shape enc Tryz.prog w 186 sealC (fun _ => True) := by
  intro fuel cs x hx
  obtain ⟨xs, n, _, _, hl, hxl, hf⟩ := DataW.trod_struct Tryz.underlying186 hx
  obtain ⟨c0, c1, c2, c3, c4, c5, c6, rfl⟩ := len7 (hl.trans (by kernel_rfl : Tryz.prog.cellsOf 186 = 7))
  obtain ⟨a0, e0, g0⟩ := fld (o := 0) (k := 1) (i := 0) sh_int (hf 0 _ rfl) (by rw [hxl]; exact (by decide)) (by kernel_rfl)
  obtain ⟨a1, e1, g1⟩ := fld (o := 1) (k := 1) (i := 1) sh_int (hf 1 _ rfl) (by rw [hxl]; exact (by decide)) (by kernel_rfl)
  obtain ⟨a2, e2, g2⟩ := fld (o := 2) (k := 1) (i := 2) sh_int (hf 2 _ rfl) (by rw [hxl]; exact (by decide)) (by kernel_rfl)
  obtain ⟨a3, e3, g3⟩ := fld (o := 3) (k := 1) (i := 3) sh_int (hf 3 _ rfl) (by rw [hxl]; exact (by decide)) (by kernel_rfl)
  obtain ⟨a4, e4, g4⟩ := fld (o := 4) (k := 1) (i := 4) sh_int (hf 4 _ rfl) (by rw [hxl]; exact (by decide)) (by kernel_rfl)
  obtain ⟨a5, e5, g5⟩ := fld (o := 5) (k := 1) (i := 5) sh_int (hf 5 _ rfl) (by rw [hxl]; exact (by decide)) (by kernel_rfl)
  obtain ⟨a6, e6, g6⟩ := fld (o := 6) (k := 1) (i := 6) sh_int (hf 6 _ rfl) (by rw [hxl]; exact (by decide)) (by kernel_rfl)
  simp only [List.drop, List.take, List.cons.injEq, and_true] at e0 e1 e2 e3 e4 e5 e6
  refine ⟨⟨a0, a1, a2, a3, a4, a5, a6⟩, ?_, trivial⟩
  simp only [e0, e1, e2, e3, e4, e5, e6]
theorem sh_want : Shape enc Tryz.prog w 219 wantC (fun _ => True) := by
  intro fuel cs x hx
  obtain ⟨xs, n, _, _, hl, hxl, hf⟩ := DataW.trod_struct Tryz.underlying219 hx
  obtain ⟨c0, c1, rfl⟩ := len2 (hl.trans (by kernel_rfl : Tryz.prog.cellsOf 219 = 2))
  obtain ⟨a0, e0, g0⟩ := fld (o := 0) (k := 1) (i := 0) sh_int (hf 0 _ rfl) (by rw [hxl]; exact (by decide)) (by kernel_rfl)
  obtain ⟨a1, e1, g1⟩ := fld (o := 1) (k := 1) (i := 1) sh_int (hf 1 _ rfl) (by rw [hxl]; exact (by decide)) (by kernel_rfl)
  simp only [List.drop, List.take, List.cons.injEq, and_true] at e0 e1
  refine ⟨⟨a0, a1⟩, ?_, trivial⟩
  simp only [e0, e1]
theorem sh_call : Shape enc Tryz.prog w 224 callC (fun _ => True) := by
  intro fuel cs x hx
  obtain ⟨xs, n, _, _, hl, hxl, hf⟩ := DataW.trod_struct Tryz.underlying224 hx
  obtain ⟨c0, c1, c2, c3, rfl⟩ := len4 (hl.trans (by kernel_rfl : Tryz.prog.cellsOf 224 = 4))
  obtain ⟨a0, e0, g0⟩ := fld (o := 0) (k := 1) (i := 0) sh_int (hf 0 _ rfl) (by rw [hxl]; exact (by decide)) (by kernel_rfl)
  obtain ⟨a1, e1, g1⟩ := fld (o := 1) (k := 1) (i := 1) sh_int (hf 1 _ rfl) (by rw [hxl]; exact (by decide)) (by kernel_rfl)
  obtain ⟨a2, e2, g2⟩ := fld (o := 2) (k := 1) (i := 2) sh_int (hf 2 _ rfl) (by rw [hxl]; exact (by decide)) (by kernel_rfl)
  obtain ⟨a3, e3, g3⟩ := fld (o := 3) (k := 1) (i := 3) sh_int (hf 3 _ rfl) (by rw [hxl]; exact (by decide)) (by kernel_rfl)
  simp only [List.drop, List.take, List.cons.injEq, and_true] at e0 e1 e2 e3
  refine ⟨⟨a0, a1, a2, a3⟩, ?_, trivial⟩
  simp only [e0, e1, e2, e3]
theorem sh_cred : Shape enc Tryz.prog w 222 credC (fun _ => True) := by
  intro fuel cs x hx
  obtain ⟨xs, n, _, _, hl, hxl, hf⟩ := DataW.trod_struct Tryz.underlying222 hx
  obtain ⟨c0, c1, c2, c3, c4, c5, c6, c7, c8, c9, rfl⟩ := len10 (hl.trans (by kernel_rfl : Tryz.prog.cellsOf 222 = 10))
  obtain ⟨a0, e0, g0⟩ := fld (o := 0) (k := 1) (i := 0) sh_int (hf 0 _ rfl) (by rw [hxl]; exact (by decide)) (by kernel_rfl)
  obtain ⟨a1, e1, g1⟩ := fld (o := 1) (k := 1) (i := 1) sh_int (hf 1 _ rfl) (by rw [hxl]; exact (by decide)) (by kernel_rfl)
  obtain ⟨a2, e2, g2⟩ := fld (o := 2) (k := 1) (i := 2) sh_int (hf 2 _ rfl) (by rw [hxl]; exact (by decide)) (by kernel_rfl)
  obtain ⟨⟨b0, b1, b2, b3, b4, b5, b6⟩, e3, g3⟩ := fld (o := 3) (k := 7) (i := 3) sh_seal (hf 3 _ rfl) (by rw [hxl]; exact (by decide)) (by kernel_rfl)
  simp only [List.drop, List.take, List.cons.injEq, and_true] at e0 e1 e2 e3
  refine ⟨⟨a0, a1, a2, ⟨b0, b1, b2, b3, b4, b5, b6⟩⟩, ?_, trivial⟩
  simp only [e0, e1, e2, e3]
theorem sh_seals : Shape enc Tryz.prog w 22 (fun p : Sl × List _ => [p.1.v]) (fun p => SlIn (heapL w) encSeal p.1 p.2 ∧ ∀ x ∈ p.2, True) := shape_slice (E := encSeal) (by kernel_rfl) (by kernel_rfl) (by decide) sh_seal
theorem sh_wants : Shape enc Tryz.prog w 96 (fun p : Sl × List _ => [p.1.v]) (fun p => SlIn (heapL w) encWant p.1 p.2 ∧ ∀ x ∈ p.2, True) := shape_slice (E := encWant) (by kernel_rfl) (by kernel_rfl) (by decide) sh_want
theorem sh_creds : Shape enc Tryz.prog w 97 (fun p : Sl × List _ => [p.1.v]) (fun p => SlIn (heapL w) encCred p.1 p.2 ∧ ∀ x ∈ p.2, True) := shape_slice (E := encCred) (by kernel_rfl) (by kernel_rfl) (by decide) sh_cred
theorem sh_calls : Shape enc Tryz.prog w 98 (fun p : Sl × List _ => [p.1.v]) (fun p => SlIn (heapL w) encCall p.1 p.2 ∧ ∀ x ∈ p.2, True) := shape_slice (E := encCall) (by kernel_rfl) (by kernel_rfl) (by decide) sh_call
theorem sh_msg : Shape enc Tryz.prog w 31 (fun p : Msg × Sl => msgC p.1 p.2) (fun p => MsgIn (heapL w) p) := by
  intro fuel cs x hx
  obtain ⟨xs, n, _, _, hl, hxl, hf⟩ := DataW.trod_struct Tryz.underlying31 hx
  obtain ⟨c0, c1, c2, c3, c4, rfl⟩ := len5 (hl.trans (by kernel_rfl : Tryz.prog.cellsOf 31 = 5))
  obtain ⟨a0, e0, g0⟩ := fld (o := 0) (k := 1) (i := 0) sh_int (hf 0 _ rfl) (by rw [hxl]; exact (by decide)) (by kernel_rfl)
  obtain ⟨a1, e1, g1⟩ := fld (o := 1) (k := 1) (i := 1) sh_int (hf 1 _ rfl) (by rw [hxl]; exact (by decide)) (by kernel_rfl)
  obtain ⟨a2, e2, g2⟩ := fld (o := 2) (k := 1) (i := 2) sh_int (hf 2 _ rfl) (by rw [hxl]; exact (by decide)) (by kernel_rfl)
  obtain ⟨a3, e3, g3⟩ := fld (o := 3) (k := 1) (i := 3) sh_int (hf 3 _ rfl) (by rw [hxl]; exact (by decide)) (by kernel_rfl)
  obtain ⟨⟨s, xs1⟩, e4, g4⟩ := fld (o := 4) (k := 1) (i := 4) sh_seals (hf 4 _ rfl) (by rw [hxl]; exact (by decide)) (by kernel_rfl)
  simp only [List.drop, List.take, List.cons.injEq, and_true] at e0 e1 e2 e3 e4
  refine ⟨(⟨a0, a1, a2, a3, xs1⟩, s), ?_, g4.1⟩
  simp only [e0, e1, e2, e3, e4]
theorem sh_client : Shape enc Tryz.prog w 100 (fun p : Client × CSl => clientC p.1 p.2) (fun p => CliIn (heapL w) p) := by
  intro fuel cs x hx
  obtain ⟨xs, n, _, _, hl, hxl, hf⟩ := DataW.trod_struct Tryz.underlying100 hx
  obtain ⟨c0, c1, c2, c3, c4, c5, rfl⟩ := len6 (hl.trans (by kernel_rfl : Tryz.prog.cellsOf 100 = 6))
  obtain ⟨a0, e0, g0⟩ := fld (o := 0) (k := 1) (i := 0) sh_int (hf 0 _ rfl) (by rw [hxl]; exact (by decide)) (by kernel_rfl)
  obtain ⟨a1, e1, g1⟩ := fld (o := 1) (k := 1) (i := 1) sh_int (hf 1 _ rfl) (by rw [hxl]; exact (by decide)) (by kernel_rfl)
  obtain ⟨⟨s2, x2⟩, e2, g2⟩ := fld (o := 2) (k := 1) (i := 2) sh_wants (hf 2 _ rfl) (by rw [hxl]; exact (by decide)) (by kernel_rfl)
  obtain ⟨⟨s3, x3⟩, e3, g3⟩ := fld (o := 3) (k := 1) (i := 3) sh_creds (hf 3 _ rfl) (by rw [hxl]; exact (by decide)) (by kernel_rfl)
  obtain ⟨⟨s4, x4⟩, e4, g4⟩ := fld (o := 4) (k := 1) (i := 4) sh_calls (hf 4 _ rfl) (by rw [hxl]; exact (by decide)) (by kernel_rfl)
  obtain ⟨⟨s5, x5⟩, e5, g5⟩ := fld (o := 5) (k := 1) (i := 5) sh_calls (hf 5 _ rfl) (by rw [hxl]; exact (by decide)) (by kernel_rfl)
  simp only [List.drop, List.take, List.cons.injEq, and_true] at e0 e1 e2 e3 e4 e5
  refine ⟨(⟨a0, a1, x2, x3, x4, x5⟩, ⟨s2, s3, s4, s5⟩), ?_, ⟨g2.1, g3.1, g4.1, g5.1⟩⟩
  simp only [e0, e1, e2, e3, e4, e5]
theorem sh_serv : Shape enc Tryz.prog w 103 (fun p : Serv × (Sl × Sl) => servC p.1 p.2.1 p.2.2) (fun p => SrvIn (heapL w) p) := by
  intro fuel cs x hx
  obtain ⟨xs, n, _, _, hl, hxl, hf⟩ := DataW.trod_struct Tryz.underlying103 hx
  obtain ⟨c0, c1, c2, c3, rfl⟩ := len4 (hl.trans (by kernel_rfl : Tryz.prog.cellsOf 103 = 4))
  obtain ⟨a0, e0, g0⟩ := fld (o := 0) (k := 1) (i := 0) sh_int (hf 0 _ rfl) (by rw [hxl]; exact (by decide)) (by kernel_rfl)
  obtain ⟨a1, e1, g1⟩ := fld (o := 1) (k := 1) (i := 1) sh_int (hf 1 _ rfl) (by rw [hxl]; exact (by decide)) (by kernel_rfl)
  obtain ⟨⟨s2, x2⟩, e2, g2⟩ := fld (o := 2) (k := 1) (i := 2) sh_seals (hf 2 _ rfl) (by rw [hxl]; exact (by decide)) (by kernel_rfl)
  obtain ⟨⟨s3, x3⟩, e3, g3⟩ := fld (o := 3) (k := 1) (i := 3) sh_calls (hf 3 _ rfl) (by rw [hxl]; exact (by decide)) (by kernel_rfl)
  simp only [List.drop, List.take, List.cons.injEq, and_true] at e0 e1 e2 e3
  refine ⟨(⟨a0, a1, x2, x3⟩, (s2, s3)), ?_, ⟨g2.1, g3.1⟩⟩
  simp only [e0, e1, e2, e3]
theorem sh_kdc : Shape enc Tryz.prog w 24 (fun p : Kdc × Sl => [I p.1.next, p.2.v]) (fun p => SlIn (heapL w) encSeal p.2 p.1.cache) := by
  intro fuel cs x hx
  obtain ⟨xs, n, _, _, hl, hxl, hf⟩ := DataW.trod_struct Tryz.underlying24 hx
  obtain ⟨c0, c1, rfl⟩ := len2 (hl.trans (by kernel_rfl : Tryz.prog.cellsOf 24 = 2))
  obtain ⟨a0, e0, g0⟩ := fld (o := 0) (k := 1) (i := 0) sh_int (hf 0 _ rfl) (by rw [hxl]; exact (by decide)) (by kernel_rfl)
  obtain ⟨⟨s1, x1⟩, e1, g1⟩ := fld (o := 1) (k := 1) (i := 1) sh_seals (hf 1 _ rfl) (by rw [hxl]; exact (by decide)) (by kernel_rfl)
  simp only [List.drop, List.take, List.cons.injEq, and_true] at e0 e1
  refine ⟨(⟨a0, x1⟩, s1), ?_, g1.1⟩
  simp only [e0, e1]
theorem sh_msgs : Shape enc Tryz.prog w 27 (fun p : Sl × List _ => [p.1.v]) (fun p => SlIn (heapL w) encMsg p.1 p.2 ∧ ∀ x ∈ p.2, MsgIn (heapL w) x) := shape_slice (E := encMsg) (by kernel_rfl) (by kernel_rfl) (by decide) sh_msg
theorem sh_clients : Shape enc Tryz.prog w 25 (fun p : Sl × List _ => [p.1.v]) (fun p => SlIn (heapL w) encClient p.1 p.2 ∧ ∀ x ∈ p.2, CliIn (heapL w) x) := shape_slice (E := encClient) (by kernel_rfl) (by kernel_rfl) (by decide) sh_client
theorem sh_servs : Shape enc Tryz.prog w 26 (fun p : Sl × List _ => [p.1.v]) (fun p => SlIn (heapL w) encServ p.1 p.2 ∧ ∀ x ∈ p.2, SrvIn (heapL w) x) := shape_slice (E := encServ) (by kernel_rfl) (by kernel_rfl) (by decide) sh_serv
theorem sh_world : Shape enc Tryz.prog w 29 (fun p : World × WSl × List (Client × CSl) × List (Serv × (Sl × Sl)) × List (Msg × Sl) => worldC p.1 p.2.1) (fun p => WldIn (heapL w) p.1 p.2.1 p.2.2.1 p.2.2.2.1 p.2.2.2.2) := by
  intro fuel cs x hx
  obtain ⟨xs, n, _, _, hl, hxl, hf⟩ := DataW.trod_struct Tryz.underlying29 hx
  obtain ⟨c0, c1, c2, c3, c4, c5, c6, rfl⟩ := len7 (hl.trans (by kernel_rfl : Tryz.prog.cellsOf 29 = 7))
  obtain ⟨a0, e0, g0⟩ := fld (o := 0) (k := 1) (i := 0) sh_int (hf 0 _ rfl) (by rw [hxl]; exact (by decide)) (by kernel_rfl)
  obtain ⟨⟨⟨k0, k1⟩, sk⟩, e1, g1⟩ := fld (o := 1) (k := 2) (i := 1) sh_kdc (hf 1 _ rfl) (by rw [hxl]; exact (by decide)) (by kernel_rfl)
  obtain ⟨⟨s2, x2⟩, e2, g2⟩ := fld (o := 3) (k := 1) (i := 2) sh_clients (hf 2 _ rfl) (by rw [hxl]; exact (by decide)) (by kernel_rfl)
  obtain ⟨⟨s3, x3⟩, e3, g3⟩ := fld (o := 4) (k := 1) (i := 3) sh_servs (hf 3 _ rfl) (by rw [hxl]; exact (by decide)) (by kernel_rfl)
  obtain ⟨⟨s4, x4⟩, e4, g4⟩ := fld (o := 5) (k := 1) (i := 4) sh_msgs (hf 4 _ rfl) (by rw [hxl]; exact (by decide)) (by kernel_rfl)
  obtain ⟨a6, e5, g5⟩ := fld (o := 6) (k := 1) (i := 5) sh_int (hf 5 _ rfl) (by rw [hxl]; exact (by decide)) (by kernel_rfl)
  simp only [List.drop, List.take, List.cons.injEq, and_true] at e0 e1 e2 e3 e4 e5
  refine ⟨(⟨a0, ⟨k0, k1⟩, x2.map Prod.fst, x3.map Prod.fst, x4.map Prod.fst, a6⟩, ⟨sk, s2, s3, s4⟩, x2, x3, x4), ?_, ⟨g1, rfl, g2.1, g2.2, rfl, g3.1, g3.2, rfl, g4.1, g4.2⟩⟩
  simp only [e0, e1, e2, e3, e4, e5]
theorem sh_event : Shape enc Tryz.prog w 33 (fun p : Event × Sl => eventC p.1 p.2) (fun p => MsgIn (heapL w) (p.1.msg, p.2)) := by
  intro fuel cs x hx
  obtain ⟨xs, n, _, _, hl, hxl, hf⟩ := DataW.trod_struct Tryz.underlying33 hx
  obtain ⟨c0, c1, c2, c3, c4, c5, c6, c7, rfl⟩ := len8 (hl.trans (by kernel_rfl : Tryz.prog.cellsOf 33 = 8))
  obtain ⟨a0, e0, g0⟩ := fld (o := 0) (k := 1) (i := 0) sh_int (hf 0 _ rfl) (by rw [hxl]; exact (by decide)) (by kernel_rfl)
  obtain ⟨a1, e1, g1⟩ := fld (o := 1) (k := 1) (i := 1) sh_int (hf 1 _ rfl) (by rw [hxl]; exact (by decide)) (by kernel_rfl)
  obtain ⟨a2, e2, g2⟩ := fld (o := 2) (k := 1) (i := 2) sh_int (hf 2 _ rfl) (by rw [hxl]; exact (by decide)) (by kernel_rfl)
  obtain ⟨⟨m, s⟩, e3, g3⟩ := fld (o := 3) (k := 5) (i := 3) sh_msg (hf 3 _ rfl) (by rw [hxl]; exact (by decide)) (by kernel_rfl)
  simp only [List.drop, List.take, List.cons.injEq, and_true] at e0 e1 e2 e3
  refine ⟨(⟨a0, a1, a2, m⟩, s), ?_, g3⟩
  simp only [e0, e1, e2, e3]
theorem sh_events : Shape enc Tryz.prog w 56 (fun p : Sl × List _ => [p.1.v]) (fun p => SlIn (heapL w) encEvent p.1 p.2 ∧ ∀ x ∈ p.2, MsgIn (heapL w) (x.1.msg, x.2)) := shape_slice (E := encEvent) (by kernel_rfl) (by kernel_rfl) (by decide) sh_event
end
end Go.Proofs.YtoledfhjmdpihaaGreat
/- How much there is of what came in. -/
set_option linter.unusedVariables false
set_option linter.unusedSectionVars false
set_option linter.unusedSimpArgs false
namespace Go.Proofs.YtoledfhjmdpihaaGreat
open Go Go.Proofs Go.Proofs.YtoledfhjmdpihaaGreat.VE
attribute [local irreducible] Val Op1 WO WR WA WC seqQ blockQ loopQ retQ
set_option maxHeartbeats 8000000
theorem SlIn.mono {X : Type} {L M : List Ent} {E : Enc X} {s : Sl} {xs : List X} (h : SlIn L E s xs) (hs : ∀ e ∈ L, e ∈ M) : SlIn M E s xs := ⟨h.top, h.len, fun hn => (h.at_ hn).mono hs⟩
theorem CliIn.mono {L M : List Ent} {p : Client × CSl} (h : CliIn L p) (hs : ∀ e ∈ L, e ∈ M) : CliIn M p := ⟨h.w.mono hs, h.c.mono hs, h.s.mono hs, h.m.mono hs⟩
theorem SrvIn.mono {L M : List Ent} {p : Serv × (Sl × Sl)} (h : SrvIn L p) (hs : ∀ e ∈ L, e ∈ M) : SrvIn M p := ⟨h.c.mono hs, h.t.mono hs⟩
theorem MsgIn.mono {L M : List Ent} {p : Msg × Sl} (h : MsgIn L p) (hs : ∀ e ∈ L, e ∈ M) : MsgIn M p := SlIn.mono h hs
theorem WldIn.mono {L M : List Ent} {w : World} {q : WSl} {ps : List (Client × CSl)} {ss : List (Serv × (Sl × Sl))} {ms : List (Msg × Sl)} (h : WldIn L w q ps ss ms) (hs : ∀ e ∈ L, e ∈ M) : WldIn M w q ps ss ms :=
  ⟨h.kc.mono hs, h.pe, h.pr.mono hs, fun p hp => (h.pa p hp).mono hs, h.se, h.sr.mono hs, fun p hp => (h.sa p hp).mono hs, h.me, h.mr.mono hs, fun p hp => (h.ma p hp).mono hs⟩
theorem MsgIn.top {L : List Ent} {p : Msg × Sl} (h : MsgIn L p) : p.2.n ≤ 9223372036854775807 := SlIn.top h
theorem MsgIn.at_ {L : List Ent} {p : Msg × Sl} (h : MsgIn L p) (hn : p.2.n ≤ 1048576) : MsgAt L p.1 p.2 := SlIn.at_ h hn
def sub1 (left : Int) (n : Nat) : Int := if left - (n : Int) < 0 then -1 else left - (n : Int)
def szL : Int → List Nat → Int
  | left, [] => left
  | left, n :: r => if sub1 left n < 0 then -1 else szL (sub1 left n) r
theorem sub1_ge {left : Int} {n : Nat} (h : ¬ sub1 left n < 0) : 0 ≤ sub1 left n ∧ sub1 left n = left - (n : Int) := by
  unfold sub1 at *
  split at h <;> rename_i hc
  · omega
  · rw [if_neg hc]; omega
theorem szL_cases : ∀ (ns : List Nat) (left : Int), 0 ≤ left → (szL left ns = -1) ∨ (0 ≤ szL left ns ∧ szL left ns ≤ left ∧ ∀ n ∈ ns, (n : Int) ≤ left)
  | [], left, h => .inr ⟨h, Int.le_refl _, by simp⟩
  | n :: r, left, h => by
    rw [szL]
    by_cases hc : sub1 left n < 0
    · rw [if_pos hc]; exact .inl rfl
    · rw [if_neg hc]
      have := sub1_ge hc
      rcases szL_cases r (sub1 left n) (by omega) with h1 | ⟨h1, h2, h3⟩
      · exact .inl h1
      · refine .inr ⟨h1, by omega, fun m hm => ?_⟩
        rcases List.mem_cons.1 hm with rfl | hm
        · omega
        · have := h3 m hm; omega
theorem szL_append : ∀ (xs ys : List Nat) (left : Int), 0 ≤ left → szL left (xs ++ ys) = if szL left xs < 0 then -1 else szL (szL left xs) ys
  | [], ys, left, h => by rw [szL, if_neg (by omega)]; rfl
  | n :: r, ys, left, h => by
    rw [List.cons_append, szL, szL]
    by_cases hc : sub1 left n < 0
    · rw [if_pos hc, if_pos hc, if_pos (by omega)]
    · rw [if_neg hc, if_neg hc, szL_append r ys _ (by have := sub1_ge hc; omega)]
theorem c_szSealS {L : List Ent} (s : Sl) (left : Int) (h : 0 ≤ left ∧ left ≤ 1048576) (hn : s.n ≤ 9223372036854775807) : RO Tryz.prog 60 [s.v, I left] L (I (sub1 left s.n)) := by
  obtain ⟨a, n, c⟩ := s
  dsimp only at hn
  by_cases hc : left - (n : Int) < 0
  · have he : sub1 left n = -1 := if_pos hc
    refine Tri.of Tryz.func60 rfl rfl Tryz.ntmps60 rfl rfl ?_
    (repeat' (first | refine nI ?_ | (refine nA ?_; intro _) | refine nY ?_ | refine nR ?_ | refine WC_cond rfl (fun hc => ?_) (fun hc => ?_)))
    refine ro_ret (by exact kR) (by exact kL) ?_; dsimp only; rw [he]; rfl
  · have he : sub1 left n = left - (n : Int) := if_neg hc
    refine Tri.of Tryz.func60 rfl rfl Tryz.ntmps60 rfl rfl ?_
    (repeat' (first | refine nI ?_ | (refine nA ?_; intro _) | refine nY ?_ | refine nR ?_ | refine WC_cond rfl (fun hc => ?_) (fun hc => ?_)))
    refine ro_ret (by exact kR) (by exact kL) ?_; dsimp only; rw [he]; rfl
theorem c_szWantS {L : List Ent} (s : Sl) (left : Int) (h : 0 ≤ left ∧ left ≤ 1048576) (hn : s.n ≤ 9223372036854775807) : RO Tryz.prog 122 [s.v, I left] L (I (sub1 left s.n)) := by
  obtain ⟨a, n, c⟩ := s
  dsimp only at hn
  by_cases hc : left - (n : Int) < 0
  · have he : sub1 left n = -1 := if_pos hc
    refine Tri.of Tryz.func122 rfl rfl Tryz.ntmps122 rfl rfl ?_
    (repeat' (first | refine nI ?_ | (refine nA ?_; intro _) | refine nY ?_ | refine nR ?_ | refine WC_cond rfl (fun hc => ?_) (fun hc => ?_)))
    refine ro_ret (by exact kR) (by exact kL) ?_; dsimp only; rw [he]; rfl
  · have he : sub1 left n = left - (n : Int) := if_neg hc
    refine Tri.of Tryz.func122 rfl rfl Tryz.ntmps122 rfl rfl ?_
    (repeat' (first | refine nI ?_ | (refine nA ?_; intro _) | refine nY ?_ | refine nR ?_ | refine WC_cond rfl (fun hc => ?_) (fun hc => ?_)))
    refine ro_ret (by exact kR) (by exact kL) ?_; dsimp only; rw [he]; rfl
theorem c_szCallS {L : List Ent} (s : Sl) (left : Int) (h : 0 ≤ left ∧ left ≤ 1048576) (hn : s.n ≤ 9223372036854775807) : RO Tryz.prog 124 [s.v, I left] L (I (sub1 left s.n)) := by
  obtain ⟨a, n, c⟩ := s
  dsimp only at hn
  by_cases hc : left - (n : Int) < 0
  · have he : sub1 left n = -1 := if_pos hc
    refine Tri.of Tryz.func124 rfl rfl Tryz.ntmps124 rfl rfl ?_
    (repeat' (first | refine nI ?_ | (refine nA ?_; intro _) | refine nY ?_ | refine nR ?_ | refine WC_cond rfl (fun hc => ?_) (fun hc => ?_)))
    refine ro_ret (by exact kR) (by exact kL) ?_; dsimp only; rw [he]; rfl
  · have he : sub1 left n = left - (n : Int) := if_neg hc
    refine Tri.of Tryz.func124 rfl rfl Tryz.ntmps124 rfl rfl ?_
    (repeat' (first | refine nI ?_ | (refine nA ?_; intro _) | refine nY ?_ | refine nR ?_ | refine WC_cond rfl (fun hc => ?_) (fun hc => ?_)))
    refine ro_ret (by exact kR) (by exact kL) ?_; dsimp only; rw [he]; rfl
theorem c_szCredS {L : List Ent} (s : Sl) (left : Int) (h : 0 ≤ left ∧ left ≤ 1048576) (hn : s.n ≤ 9223372036854775807) : RO Tryz.prog 123 [s.v, I left] L (I (sub1 left s.n)) := by
  obtain ⟨a, n, c⟩ := s
  dsimp only at hn
  by_cases hc : left - (n : Int) < 0
  · have he : sub1 left n = -1 := if_pos hc
    refine Tri.of Tryz.func123 rfl rfl Tryz.ntmps123 rfl rfl ?_
    (repeat' (first | refine nI ?_ | (refine nA ?_; intro _) | refine nY ?_ | refine nR ?_ | refine WC_cond rfl (fun hc => ?_) (fun hc => ?_)))
    refine ro_ret (by exact kR) (by exact kL) ?_; dsimp only; rw [he]; rfl
  · have he : sub1 left n = left - (n : Int) := if_neg hc
    refine Tri.of Tryz.func123 rfl rfl Tryz.ntmps123 rfl rfl ?_
    (repeat' (first | refine nI ?_ | (refine nA ?_; intro _) | refine nY ?_ | refine nR ?_ | refine WC_cond rfl (fun hc => ?_) (fun hc => ?_)))
    refine ro_ret (by exact kR) (by exact kL) ?_; dsimp only; rw [he]; rfl
theorem c_szKdc {L : List Ent} (k : Kdc) (s : Sl) (hn : s.n ≤ 9223372036854775807) (left : Int) (h : 0 ≤ left ∧ left ≤ 1048576) : RO Tryz.prog 25 [.agg [I k.next, s.v].toArray, I left] L (I (szL left [s.n])) := by
  obtain ⟨r0, e0⟩ : ∃ r, sub1 left s.n = r := ⟨_, rfl⟩
  by_cases h0 : r0 < 0
  · have he : szL left [s.n] = -1 := by simp only [szL, e0]; simp [h0]
    refine Tri.of Tryz.func25 rfl rfl Tryz.ntmps25 rfl rfl ?_
    (repeat' (first | refine nI ?_ | (refine nA ?_; intro _) | (refine nW ?_; first | (refine op_call_id ?_; refine op_ro rfl rfl (by exact (c_szSealS s left h hn).eq (congrArg I e0)) ?_)) | refine nY ?_ | refine nR ?_ | refine WC_cond rfl (fun hc => ?_) (fun hc => ?_)))
    refine ro_ret (by exact kR) (by exact kL) ?_; rw [he]; rfl
  have g0 := sub1_ge (e0.symm ▸ h0)
  rw [e0] at g0
  have hb0 : 0 ≤ r0 ∧ r0 ≤ 1048576 := by omega
  have he : szL left [s.n] = r0 := by simp only [szL, e0]; simp [h0]
  refine Tri.of Tryz.func25 rfl rfl Tryz.ntmps25 rfl rfl ?_
  (repeat' (first | refine nI ?_ | (refine nA ?_; intro _) | (refine nW ?_; first | (refine op_call_id ?_; refine op_ro rfl rfl (by exact (c_szSealS s left h hn).eq (congrArg I e0)) ?_)) | refine nY ?_ | refine nR ?_ | refine WC_cond rfl (fun hc => ?_) (fun hc => ?_)))
  refine ro_ret (by exact kR) (by exact kL) ?_; rw [he]; rfl
theorem c_szMsg {L : List Ent} (m : Msg) (s : Sl) (hn : s.n ≤ 9223372036854775807) (left : Int) (h : 0 ≤ left ∧ left ≤ 1048576) : RO Tryz.prog 29 [msgV m s, I left] L (I (szL left [s.n])) := by
  obtain ⟨r0, e0⟩ : ∃ r, sub1 left s.n = r := ⟨_, rfl⟩
  by_cases h0 : r0 < 0
  · have he : szL left [s.n] = -1 := by simp only [szL, e0]; simp [h0]
    refine Tri.of Tryz.func29 rfl rfl Tryz.ntmps29 rfl rfl ?_
    (repeat' (first | refine nI ?_ | (refine nA ?_; intro _) | (refine nW ?_; first | (refine op_call_id ?_; refine op_ro rfl rfl (by exact (c_szSealS s left h hn).eq (congrArg I e0)) ?_)) | refine nY ?_ | refine nR ?_ | refine WC_cond rfl (fun hc => ?_) (fun hc => ?_)))
    refine ro_ret (by exact kR) (by exact kL) ?_; rw [he]; rfl
  have g0 := sub1_ge (e0.symm ▸ h0)
  rw [e0] at g0
  have hb0 : 0 ≤ r0 ∧ r0 ≤ 1048576 := by omega
  have he : szL left [s.n] = r0 := by simp only [szL, e0]; simp [h0]
  refine Tri.of Tryz.func29 rfl rfl Tryz.ntmps29 rfl rfl ?_
  (repeat' (first | refine nI ?_ | (refine nA ?_; intro _) | (refine nW ?_; first | (refine op_call_id ?_; refine op_ro rfl rfl (by exact (c_szSealS s left h hn).eq (congrArg I e0)) ?_)) | refine nY ?_ | refine nR ?_ | refine WC_cond rfl (fun hc => ?_) (fun hc => ?_)))
  refine ro_ret (by exact kR) (by exact kL) ?_; rw [he]; rfl
theorem c_szEvent {L : List Ent} (e : Event) (s : Sl) (hn : s.n ≤ 9223372036854775807) (left : Int) (h : 0 ≤ left ∧ left ≤ 1048576) : RO Tryz.prog 7 [eventV e s, I left] L (I (szL left [s.n])) := by
  obtain ⟨r, e0⟩ : ∃ r, szL left [s.n] = r := ⟨_, rfl⟩
  rcases szL_cases [s.n] left h.1 with hc | ⟨hc, _⟩
  all_goals
    rw [e0] at hc
    refine Tri.of Tryz.func7 rfl rfl Tryz.ntmps7 rfl rfl ?_
    (repeat' (first | refine nI ?_ | (refine nA ?_; intro _) | (refine nW ?_; first | (refine op_call_id ?_; refine op_ro rfl rfl (by exact (c_szMsg e.msg s hn left h).eq (congrArg I e0)) ?_)) | refine nY ?_ | refine nR ?_ | refine WC_cond rfl (fun hc => ?_) (fun hc => ?_)))
    refine ro_ret (by exact kR) (by exact kL) ?_; rw [e0]; (first | rfl | (rw [hc]; rfl))
theorem c_szServ {L : List Ent} (v : Serv) (p q : Sl) (hn : p.n ≤ 9223372036854775807 ∧ q.n ≤ 9223372036854775807) (left : Int) (h : 0 ≤ left ∧ left ≤ 1048576) : RO Tryz.prog 62 [servV v p q, I left] L (I (szL left [p.n, q.n])) := by
  obtain ⟨r0, e0⟩ : ∃ r, sub1 left p.n = r := ⟨_, rfl⟩
  by_cases h0 : r0 < 0
  · have he : szL left [p.n, q.n] = -1 := by simp only [szL, e0]; simp [h0]
    refine Tri.of Tryz.func62 rfl rfl Tryz.ntmps62 rfl rfl ?_
    (repeat' (first | refine nI ?_ | (refine nA ?_; intro _) | (refine nW ?_; first | (refine op_call_id ?_; refine op_ro rfl rfl (by exact (c_szSealS p left h hn.1).eq (congrArg I e0)) ?_)) | refine nY ?_ | refine nR ?_ | refine WC_cond rfl (fun hc => ?_) (fun hc => ?_)))
    refine ro_ret (by exact kR) (by exact kL) ?_; rw [he]; rfl
  have g0 := sub1_ge (e0.symm ▸ h0)
  rw [e0] at g0
  have hb0 : 0 ≤ r0 ∧ r0 ≤ 1048576 := by omega
  obtain ⟨r1, e1⟩ : ∃ r, sub1 r0 q.n = r := ⟨_, rfl⟩
  by_cases h1 : r1 < 0
  · have he : szL left [p.n, q.n] = -1 := by simp only [szL, e0, e1]; simp [h0, h1]
    refine Tri.of Tryz.func62 rfl rfl Tryz.ntmps62 rfl rfl ?_
    (repeat' (first | refine nI ?_ | (refine nA ?_; intro _) | (refine nW ?_; first | (refine op_call_id ?_; refine op_ro rfl rfl (by first | exact (c_szSealS p left h hn.1).eq (congrArg I e0) | exact (c_szCallS q r0 hb0 hn.2).eq (congrArg I e1)) ?_)) | refine nY ?_ | refine nR ?_ | refine WC_cond rfl (fun hc => ?_) (fun hc => ?_)))
    refine ro_ret (by exact kR) (by exact kL) ?_; rw [he]; rfl
  have g1 := sub1_ge (e1.symm ▸ h1)
  rw [e1] at g1
  have hb1 : 0 ≤ r1 ∧ r1 ≤ 1048576 := by omega
  have he : szL left [p.n, q.n] = r1 := by simp only [szL, e0, e1]; simp [h0, h1]
  refine Tri.of Tryz.func62 rfl rfl Tryz.ntmps62 rfl rfl ?_
  (repeat' (first | refine nI ?_ | (refine nA ?_; intro _) | (refine nW ?_; first | (refine op_call_id ?_; refine op_ro rfl rfl (by first | exact (c_szSealS p left h hn.1).eq (congrArg I e0) | exact (c_szCallS q r0 hb0 hn.2).eq (congrArg I e1)) ?_)) | refine nY ?_ | refine nR ?_ | refine WC_cond rfl (fun hc => ?_) (fun hc => ?_)))
  refine ro_ret (by exact kR) (by exact kL) ?_; rw [he]; rfl
theorem c_szClient {L : List Ent} (c : Client) (p q u t : Sl) (hn : p.n ≤ 9223372036854775807 ∧ q.n ≤ 9223372036854775807 ∧ u.n ≤ 9223372036854775807 ∧ t.n ≤ 9223372036854775807) (left : Int) (h : 0 ≤ left ∧ left ≤ 1048576) : RO Tryz.prog 61 [clientV c ⟨p, q, u, t⟩, I left] L (I (szL left [p.n, q.n, u.n, t.n])) := by
  obtain ⟨r0, e0⟩ : ∃ r, sub1 left p.n = r := ⟨_, rfl⟩
  by_cases h0 : r0 < 0
  · have he : szL left [p.n, q.n, u.n, t.n] = -1 := by simp only [szL, e0]; simp [h0]
    refine Tri.of Tryz.func61 rfl rfl Tryz.ntmps61 rfl rfl ?_
    (repeat' (first | refine nI ?_ | (refine nA ?_; intro _) | (refine nW ?_; first | (refine op_call_id ?_; refine op_ro rfl rfl (by exact (c_szWantS p left h hn.1).eq (congrArg I e0)) ?_)) | refine nY ?_ | refine nR ?_ | refine WC_cond rfl (fun hc => ?_) (fun hc => ?_)))
    refine ro_ret (by exact kR) (by exact kL) ?_; rw [he]; rfl
  have g0 := sub1_ge (e0.symm ▸ h0)
  rw [e0] at g0
  have hb0 : 0 ≤ r0 ∧ r0 ≤ 1048576 := by omega
  obtain ⟨r1, e1⟩ : ∃ r, sub1 r0 q.n = r := ⟨_, rfl⟩
  by_cases h1 : r1 < 0
  · have he : szL left [p.n, q.n, u.n, t.n] = -1 := by simp only [szL, e0, e1]; simp [h0, h1]
    refine Tri.of Tryz.func61 rfl rfl Tryz.ntmps61 rfl rfl ?_
    (repeat' (first | refine nI ?_ | (refine nA ?_; intro _) | (refine nW ?_; first | (refine op_call_id ?_; refine op_ro rfl rfl (by first | exact (c_szWantS p left h hn.1).eq (congrArg I e0) | exact (c_szCredS q r0 hb0 hn.2.1).eq (congrArg I e1)) ?_)) | refine nY ?_ | refine nR ?_ | refine WC_cond rfl (fun hc => ?_) (fun hc => ?_)))
    refine ro_ret (by exact kR) (by exact kL) ?_; rw [he]; rfl
  have g1 := sub1_ge (e1.symm ▸ h1)
  rw [e1] at g1
  have hb1 : 0 ≤ r1 ∧ r1 ≤ 1048576 := by omega
  obtain ⟨r2, e2⟩ : ∃ r, sub1 r1 u.n = r := ⟨_, rfl⟩
  by_cases h2 : r2 < 0
  · have he : szL left [p.n, q.n, u.n, t.n] = -1 := by simp only [szL, e0, e1, e2]; simp [h0, h1, h2]
    refine Tri.of Tryz.func61 rfl rfl Tryz.ntmps61 rfl rfl ?_
    (repeat' (first | refine nI ?_ | (refine nA ?_; intro _) | (refine nW ?_; first | (refine op_call_id ?_; refine op_ro rfl rfl (by first | exact (c_szWantS p left h hn.1).eq (congrArg I e0) | exact (c_szCredS q r0 hb0 hn.2.1).eq (congrArg I e1) | exact (c_szCallS u r1 hb1 hn.2.2.1).eq (congrArg I e2)) ?_)) | refine nY ?_ | refine nR ?_ | refine WC_cond rfl (fun hc => ?_) (fun hc => ?_)))
    refine ro_ret (by exact kR) (by exact kL) ?_; rw [he]; rfl
  have g2 := sub1_ge (e2.symm ▸ h2)
  rw [e2] at g2
  have hb2 : 0 ≤ r2 ∧ r2 ≤ 1048576 := by omega
  obtain ⟨r3, e3⟩ : ∃ r, sub1 r2 t.n = r := ⟨_, rfl⟩
  by_cases h3 : r3 < 0
  · have he : szL left [p.n, q.n, u.n, t.n] = -1 := by simp only [szL, e0, e1, e2, e3]; simp [h0, h1, h2, h3]
    refine Tri.of Tryz.func61 rfl rfl Tryz.ntmps61 rfl rfl ?_
    (repeat' (first | refine nI ?_ | (refine nA ?_; intro _) | (refine nW ?_; first | (refine op_call_id ?_; refine op_ro rfl rfl (by first | exact (c_szWantS p left h hn.1).eq (congrArg I e0) | exact (c_szCredS q r0 hb0 hn.2.1).eq (congrArg I e1) | exact (c_szCallS u r1 hb1 hn.2.2.1).eq (congrArg I e2) | exact (c_szCallS t r2 hb2 hn.2.2.2).eq (congrArg I e3)) ?_)) | refine nY ?_ | refine nR ?_ | refine WC_cond rfl (fun hc => ?_) (fun hc => ?_)))
    refine ro_ret (by exact kR) (by exact kL) ?_; rw [he]; rfl
  have g3 := sub1_ge (e3.symm ▸ h3)
  rw [e3] at g3
  have hb3 : 0 ≤ r3 ∧ r3 ≤ 1048576 := by omega
  have he : szL left [p.n, q.n, u.n, t.n] = r3 := by simp only [szL, e0, e1, e2, e3]; simp [h0, h1, h2, h3]
  refine Tri.of Tryz.func61 rfl rfl Tryz.ntmps61 rfl rfl ?_
  (repeat' (first | refine nI ?_ | (refine nA ?_; intro _) | (refine nW ?_; first | (refine op_call_id ?_; refine op_ro rfl rfl (by first | exact (c_szWantS p left h hn.1).eq (congrArg I e0) | exact (c_szCredS q r0 hb0 hn.2.1).eq (congrArg I e1) | exact (c_szCallS u r1 hb1 hn.2.2.1).eq (congrArg I e2) | exact (c_szCallS t r2 hb2 hn.2.2.2).eq (congrArg I e3)) ?_)) | refine nY ?_ | refine nR ?_ | refine WC_cond rfl (fun hc => ?_) (fun hc => ?_)))
  refine ro_ret (by exact kR) (by exact kL) ?_; rw [he]; rfl
theorem c_szClientS {L : List Ent} (s : Sl) (xs : List (Client × CSl)) (h : SlIn L encClient s xs) (hx : ∀ p ∈ xs, CliIn L p) (left : Int) (hlf : 0 ≤ left ∧ left ≤ 1048576) : RO Tryz.prog 26 [s.v, I left] L (I (szL left (s.n :: xs.flatMap (fun p : Client × CSl => ([p.2.w.n, p.2.c.n, p.2.s.n, p.2.m.n] : List Nat))))) := by
  obtain ⟨a, n, c⟩ := s
  obtain ⟨htop, hn, hat0⟩ := h
  dsimp only at htop hn hat0
  subst hn
  by_cases hc : left - (xs.length : Int) < 0
  · have he : szL left (xs.length :: xs.flatMap (fun p : Client × CSl => ([p.2.w.n, p.2.c.n, p.2.s.n, p.2.m.n] : List Nat))) = -1 := by rw [szL, if_pos (by unfold sub1; rw [if_pos hc]; omega)]
    refine Tri.of Tryz.func26 rfl rfl Tryz.ntmps26 rfl rfl ?_
    (repeat' (first | refine nI ?_ | (refine nA ?_; intro _) | refine nY ?_ | refine nR ?_ | refine WC_cond rfl (fun hc => ?_) (fun hc => ?_)))
    refine ro_ret (by exact kR) (by exact kL) ?_; dsimp only; rw [he]; rfl
  have hs1 : sub1 left xs.length = left - (xs.length : Int) := if_neg hc
  obtain ⟨_, _, hb, hat⟩ := hat0 (by omega)
  dsimp only at hat
  have he0 : szL left (xs.length :: xs.flatMap (fun p : Client × CSl => ([p.2.w.n, p.2.c.n, p.2.s.n, p.2.m.n] : List Nat))) = szL (left - (xs.length : Int)) (xs.flatMap (fun p : Client × CSl => ([p.2.w.n, p.2.c.n, p.2.s.n, p.2.m.n] : List Nat))) := by rw [szL, hs1, if_neg hc]
  dsimp only
  rw [he0]
  clear hat0 he0
  refine Tri.of Tryz.func26 rfl rfl Tryz.ntmps26 rfl rfl ?_
  (repeat' (first | refine nI ?_ | (refine nA ?_; intro _) | refine nY ?_ | refine nR ?_ | refine WC_cond rfl (fun hc => ?_) (fun hc => ?_)))
  refine WC_loop (fun mz Ez Mz => ∃ (k : Nat) (lf : Int), k + mz = (xs).length ∧ Ez = [(0, .slice a xs.length c), (1, I lf), (5, I k)] ∧ Mz = L ∧ (szL (left - (xs.length : Int)) (xs.flatMap (fun p : Client × CSl => ([p.2.w.n, p.2.c.n, p.2.s.n, p.2.m.n] : List Nat))) = szL lf ((xs.drop k).flatMap (fun p : Client × CSl => ([p.2.w.n, p.2.c.n, p.2.s.n, p.2.m.n] : List Nat))) ∧ 0 ≤ lf ∧ lf ≤ 1048576)) (xs).length (by exact kQ) (by exact kL) ⟨0, left - (xs.length : Int), by omega, rfl, rfl, by exact ⟨rfl, by omega, by omega⟩⟩ ?_
  rintro mz Ez Mz ⟨k, lf, hk, rfl, rfl, hin⟩
  rcases Nat.lt_or_ge k (xs).length with hlt | hge
  · obtain ⟨y1, hy1⟩ : ∃ y, (xs)[k]? = some y := ⟨(xs)[k]'(by omega), by simp [hlt]⟩; obtain ⟨b'1, o1, cs1, T1, fr1, rfl, hm1, hrow1⟩ := hat (by omega); have hrow'1 := hrow1 k y1 hy1; have htk1 := take_next hy1
    obtain ⟨hd, hl0, hl1⟩ := hin
    have ha1 := hx y1 (List.mem_of_getElem? hy1)
    rw [drop_hl hy1, List.flatMap_cons, szL_append _ _ _ hl0] at hd
    obtain ⟨v1, q1⟩ := y1
    obtain ⟨r1, e1⟩ : ∃ r, szL lf ((fun p : Client × CSl => ([p.2.w.n, p.2.c.n, p.2.s.n, p.2.m.n] : List Nat)) (v1, q1)) = r := ⟨_, rfl⟩
    have hcs := szL_cases ((fun p : Client × CSl => ([p.2.w.n, p.2.c.n, p.2.s.n, p.2.m.n] : List Nat)) (v1, q1)) lf hl0
    rw [e1] at hd hcs
    by_cases hr : r1 < 0
    · have he : szL (left - (xs.length : Int)) (xs.flatMap (fun p : Client × CSl => ([p.2.w.n, p.2.c.n, p.2.s.n, p.2.m.n] : List Nat))) = -1 := by rw [hd, if_pos hr]
      (repeat' (first | refine nI ?_ | (refine nA ?_; intro _) | (refine nW ?_; first | (refine op_call_id ?_; refine op_ro rfl rfl (by exact (c_szClient v1 q1.w q1.c q1.s q1.m ⟨ha1.w.top, ha1.c.top, ha1.s.top, ha1.m.top⟩ lf ⟨hl0, hl1⟩).eq (congrArg I e1)) ?_)) | refine nY ?_ | refine nR ?_ | refine WC_cond rfl (fun hc => ?_) (fun hc => ?_)))
      refine ro_ret (by exact kR) (by exact kL) ?_; rw [he]; rfl
    · rw [if_neg hr] at hd
      have hr1 : 0 ≤ r1 ∧ r1 ≤ 1048576 := by rcases hcs with h | h <;> omega
      (repeat' (first | refine nI ?_ | (refine nA ?_; intro _) | (refine nW ?_; first | (refine op_call_id ?_; refine op_ro rfl rfl (by exact (c_szClient v1 q1.w q1.c q1.s q1.m ⟨ha1.w.top, ha1.c.top, ha1.s.top, ha1.m.top⟩ lf ⟨hl0, hl1⟩).eq (congrArg I e1)) ?_)) | refine nY ?_ | refine nR ?_ | refine WC_cond rfl (fun hc => ?_) (fun hc => ?_)))
      exact loopQ_next ⟨mz - 1, _, _, by omega, by exact kQ, by exact kL, k + 1, r1, by omega, rfl, rfl, by exact ⟨hd, by omega, by omega⟩⟩
  · have he : szL (left - (xs.length : Int)) (xs.flatMap (fun p : Client × CSl => ([p.2.w.n, p.2.c.n, p.2.s.n, p.2.m.n] : List Nat))) = lf := by rw [hin.1, List.drop_of_length_le (by omega)]; rfl
    (repeat' (first | refine nI ?_ | (refine nA ?_; intro _) | refine nY ?_ | refine nR ?_ | refine WC_cond rfl (fun hc => ?_) (fun hc => ?_)))
    refine ro_ret (by exact kR) (by exact kL) ?_; rw [he]; rfl
theorem c_szServS {L : List Ent} (s : Sl) (xs : List (Serv × (Sl × Sl))) (h : SlIn L encServ s xs) (hx : ∀ p ∈ xs, SrvIn L p) (left : Int) (hlf : 0 ≤ left ∧ left ≤ 1048576) : RO Tryz.prog 27 [s.v, I left] L (I (szL left (s.n :: xs.flatMap (fun p : Serv × (Sl × Sl) => ([p.2.1.n, p.2.2.n] : List Nat))))) := by
  obtain ⟨a, n, c⟩ := s
  obtain ⟨htop, hn, hat0⟩ := h
  dsimp only at htop hn hat0
  subst hn
  by_cases hc : left - (xs.length : Int) < 0
  · have he : szL left (xs.length :: xs.flatMap (fun p : Serv × (Sl × Sl) => ([p.2.1.n, p.2.2.n] : List Nat))) = -1 := by rw [szL, if_pos (by unfold sub1; rw [if_pos hc]; omega)]
    refine Tri.of Tryz.func27 rfl rfl Tryz.ntmps27 rfl rfl ?_
    (repeat' (first | refine nI ?_ | (refine nA ?_; intro _) | refine nY ?_ | refine nR ?_ | refine WC_cond rfl (fun hc => ?_) (fun hc => ?_)))
    refine ro_ret (by exact kR) (by exact kL) ?_; dsimp only; rw [he]; rfl
  have hs1 : sub1 left xs.length = left - (xs.length : Int) := if_neg hc
  obtain ⟨_, _, hb, hat⟩ := hat0 (by omega)
  dsimp only at hat
  have he0 : szL left (xs.length :: xs.flatMap (fun p : Serv × (Sl × Sl) => ([p.2.1.n, p.2.2.n] : List Nat))) = szL (left - (xs.length : Int)) (xs.flatMap (fun p : Serv × (Sl × Sl) => ([p.2.1.n, p.2.2.n] : List Nat))) := by rw [szL, hs1, if_neg hc]
  dsimp only
  rw [he0]
  clear hat0 he0
  refine Tri.of Tryz.func27 rfl rfl Tryz.ntmps27 rfl rfl ?_
  (repeat' (first | refine nI ?_ | (refine nA ?_; intro _) | refine nY ?_ | refine nR ?_ | refine WC_cond rfl (fun hc => ?_) (fun hc => ?_)))
  refine WC_loop (fun mz Ez Mz => ∃ (k : Nat) (lf : Int), k + mz = (xs).length ∧ Ez = [(0, .slice a xs.length c), (1, I lf), (5, I k)] ∧ Mz = L ∧ (szL (left - (xs.length : Int)) (xs.flatMap (fun p : Serv × (Sl × Sl) => ([p.2.1.n, p.2.2.n] : List Nat))) = szL lf ((xs.drop k).flatMap (fun p : Serv × (Sl × Sl) => ([p.2.1.n, p.2.2.n] : List Nat))) ∧ 0 ≤ lf ∧ lf ≤ 1048576)) (xs).length (by exact kQ) (by exact kL) ⟨0, left - (xs.length : Int), by omega, rfl, rfl, by exact ⟨rfl, by omega, by omega⟩⟩ ?_
  rintro mz Ez Mz ⟨k, lf, hk, rfl, rfl, hin⟩
  rcases Nat.lt_or_ge k (xs).length with hlt | hge
  · obtain ⟨y1, hy1⟩ : ∃ y, (xs)[k]? = some y := ⟨(xs)[k]'(by omega), by simp [hlt]⟩; obtain ⟨b'1, o1, cs1, T1, fr1, rfl, hm1, hrow1⟩ := hat (by omega); have hrow'1 := hrow1 k y1 hy1; have htk1 := take_next hy1
    obtain ⟨hd, hl0, hl1⟩ := hin
    have ha1 := hx y1 (List.mem_of_getElem? hy1)
    rw [drop_hl hy1, List.flatMap_cons, szL_append _ _ _ hl0] at hd
    obtain ⟨v1, q1⟩ := y1
    obtain ⟨r1, e1⟩ : ∃ r, szL lf ((fun p : Serv × (Sl × Sl) => ([p.2.1.n, p.2.2.n] : List Nat)) (v1, q1)) = r := ⟨_, rfl⟩
    have hcs := szL_cases ((fun p : Serv × (Sl × Sl) => ([p.2.1.n, p.2.2.n] : List Nat)) (v1, q1)) lf hl0
    rw [e1] at hd hcs
    by_cases hr : r1 < 0
    · have he : szL (left - (xs.length : Int)) (xs.flatMap (fun p : Serv × (Sl × Sl) => ([p.2.1.n, p.2.2.n] : List Nat))) = -1 := by rw [hd, if_pos hr]
      (repeat' (first | refine nI ?_ | (refine nA ?_; intro _) | (refine nW ?_; first | (refine op_call_id ?_; refine op_ro rfl rfl (by exact (c_szServ v1 q1.1 q1.2 ⟨ha1.c.top, ha1.t.top⟩ lf ⟨hl0, hl1⟩).eq (congrArg I e1)) ?_)) | refine nY ?_ | refine nR ?_ | refine WC_cond rfl (fun hc => ?_) (fun hc => ?_)))
      refine ro_ret (by exact kR) (by exact kL) ?_; rw [he]; rfl
    · rw [if_neg hr] at hd
      have hr1 : 0 ≤ r1 ∧ r1 ≤ 1048576 := by rcases hcs with h | h <;> omega
      (repeat' (first | refine nI ?_ | (refine nA ?_; intro _) | (refine nW ?_; first | (refine op_call_id ?_; refine op_ro rfl rfl (by exact (c_szServ v1 q1.1 q1.2 ⟨ha1.c.top, ha1.t.top⟩ lf ⟨hl0, hl1⟩).eq (congrArg I e1)) ?_)) | refine nY ?_ | refine nR ?_ | refine WC_cond rfl (fun hc => ?_) (fun hc => ?_)))
      exact loopQ_next ⟨mz - 1, _, _, by omega, by exact kQ, by exact kL, k + 1, r1, by omega, rfl, rfl, by exact ⟨hd, by omega, by omega⟩⟩
  · have he : szL (left - (xs.length : Int)) (xs.flatMap (fun p : Serv × (Sl × Sl) => ([p.2.1.n, p.2.2.n] : List Nat))) = lf := by rw [hin.1, List.drop_of_length_le (by omega)]; rfl
    (repeat' (first | refine nI ?_ | (refine nA ?_; intro _) | refine nY ?_ | refine nR ?_ | refine WC_cond rfl (fun hc => ?_) (fun hc => ?_)))
    refine ro_ret (by exact kR) (by exact kL) ?_; rw [he]; rfl
theorem c_szMsgS {L : List Ent} (s : Sl) (xs : List (Msg × Sl)) (h : SlIn L encMsg s xs) (hx : ∀ p ∈ xs, MsgIn L p) (left : Int) (hlf : 0 ≤ left ∧ left ≤ 1048576) : RO Tryz.prog 28 [s.v, I left] L (I (szL left (s.n :: xs.flatMap (fun p : Msg × Sl => ([p.2.n] : List Nat))))) := by
  obtain ⟨a, n, c⟩ := s
  obtain ⟨htop, hn, hat0⟩ := h
  dsimp only at htop hn hat0
  subst hn
  by_cases hc : left - (xs.length : Int) < 0
  · have he : szL left (xs.length :: xs.flatMap (fun p : Msg × Sl => ([p.2.n] : List Nat))) = -1 := by rw [szL, if_pos (by unfold sub1; rw [if_pos hc]; omega)]
    refine Tri.of Tryz.func28 rfl rfl Tryz.ntmps28 rfl rfl ?_
    (repeat' (first | refine nI ?_ | (refine nA ?_; intro _) | refine nY ?_ | refine nR ?_ | refine WC_cond rfl (fun hc => ?_) (fun hc => ?_)))
    refine ro_ret (by exact kR) (by exact kL) ?_; dsimp only; rw [he]; rfl
  have hs1 : sub1 left xs.length = left - (xs.length : Int) := if_neg hc
  obtain ⟨_, _, hb, hat⟩ := hat0 (by omega)
  dsimp only at hat
  have he0 : szL left (xs.length :: xs.flatMap (fun p : Msg × Sl => ([p.2.n] : List Nat))) = szL (left - (xs.length : Int)) (xs.flatMap (fun p : Msg × Sl => ([p.2.n] : List Nat))) := by rw [szL, hs1, if_neg hc]
  dsimp only
  rw [he0]
  clear hat0 he0
  refine Tri.of Tryz.func28 rfl rfl Tryz.ntmps28 rfl rfl ?_
  (repeat' (first | refine nI ?_ | (refine nA ?_; intro _) | refine nY ?_ | refine nR ?_ | refine WC_cond rfl (fun hc => ?_) (fun hc => ?_)))
  refine WC_loop (fun mz Ez Mz => ∃ (k : Nat) (lf : Int), k + mz = (xs).length ∧ Ez = [(0, .slice a xs.length c), (1, I lf), (5, I k)] ∧ Mz = L ∧ (szL (left - (xs.length : Int)) (xs.flatMap (fun p : Msg × Sl => ([p.2.n] : List Nat))) = szL lf ((xs.drop k).flatMap (fun p : Msg × Sl => ([p.2.n] : List Nat))) ∧ 0 ≤ lf ∧ lf ≤ 1048576)) (xs).length (by exact kQ) (by exact kL) ⟨0, left - (xs.length : Int), by omega, rfl, rfl, by exact ⟨rfl, by omega, by omega⟩⟩ ?_
  rintro mz Ez Mz ⟨k, lf, hk, rfl, rfl, hin⟩
  rcases Nat.lt_or_ge k (xs).length with hlt | hge
  · obtain ⟨y1, hy1⟩ : ∃ y, (xs)[k]? = some y := ⟨(xs)[k]'(by omega), by simp [hlt]⟩; obtain ⟨b'1, o1, cs1, T1, fr1, rfl, hm1, hrow1⟩ := hat (by omega); have hrow'1 := hrow1 k y1 hy1; have htk1 := take_next hy1
    obtain ⟨hd, hl0, hl1⟩ := hin
    have ha1 := hx y1 (List.mem_of_getElem? hy1)
    rw [drop_hl hy1, List.flatMap_cons, szL_append _ _ _ hl0] at hd
    obtain ⟨v1, q1⟩ := y1
    obtain ⟨r1, e1⟩ : ∃ r, szL lf ((fun p : Msg × Sl => ([p.2.n] : List Nat)) (v1, q1)) = r := ⟨_, rfl⟩
    have hcs := szL_cases ((fun p : Msg × Sl => ([p.2.n] : List Nat)) (v1, q1)) lf hl0
    rw [e1] at hd hcs
    by_cases hr : r1 < 0
    · have he : szL (left - (xs.length : Int)) (xs.flatMap (fun p : Msg × Sl => ([p.2.n] : List Nat))) = -1 := by rw [hd, if_pos hr]
      (repeat' (first | refine nI ?_ | (refine nA ?_; intro _) | (refine nW ?_; first | (refine op_call_id ?_; refine op_ro rfl rfl (by exact (c_szMsg v1 q1 ha1.top lf ⟨hl0, hl1⟩).eq (congrArg I e1)) ?_)) | refine nY ?_ | refine nR ?_ | refine WC_cond rfl (fun hc => ?_) (fun hc => ?_)))
      refine ro_ret (by exact kR) (by exact kL) ?_; rw [he]; rfl
    · rw [if_neg hr] at hd
      have hr1 : 0 ≤ r1 ∧ r1 ≤ 1048576 := by rcases hcs with h | h <;> omega
      (repeat' (first | refine nI ?_ | (refine nA ?_; intro _) | (refine nW ?_; first | (refine op_call_id ?_; refine op_ro rfl rfl (by exact (c_szMsg v1 q1 ha1.top lf ⟨hl0, hl1⟩).eq (congrArg I e1)) ?_)) | refine nY ?_ | refine nR ?_ | refine WC_cond rfl (fun hc => ?_) (fun hc => ?_)))
      exact loopQ_next ⟨mz - 1, _, _, by omega, by exact kQ, by exact kL, k + 1, r1, by omega, rfl, rfl, by exact ⟨hd, by omega, by omega⟩⟩
  · have he : szL (left - (xs.length : Int)) (xs.flatMap (fun p : Msg × Sl => ([p.2.n] : List Nat))) = lf := by rw [hin.1, List.drop_of_length_le (by omega)]; rfl
    (repeat' (first | refine nI ?_ | (refine nA ?_; intro _) | refine nY ?_ | refine nR ?_ | refine WC_cond rfl (fun hc => ?_) (fun hc => ?_)))
    refine ro_ret (by exact kR) (by exact kL) ?_; rw [he]; rfl
theorem c_szEventS {L : List Ent} (s : Sl) (xs : List (Event × Sl)) (h : SlIn L encEvent s xs) (hx : ∀ p ∈ xs, MsgIn L (p.1.msg, p.2)) (left : Int) (hlf : 0 ≤ left ∧ left ≤ 1048576) : RO Tryz.prog 17 [s.v, I left] L (I (szL left (s.n :: xs.flatMap (fun p : Event × Sl => ([p.2.n] : List Nat))))) := by
  obtain ⟨a, n, c⟩ := s
  obtain ⟨htop, hn, hat0⟩ := h
  dsimp only at htop hn hat0
  subst hn
  by_cases hc : left - (xs.length : Int) < 0
  · have he : szL left (xs.length :: xs.flatMap (fun p : Event × Sl => ([p.2.n] : List Nat))) = -1 := by rw [szL, if_pos (by unfold sub1; rw [if_pos hc]; omega)]
    refine Tri.of Tryz.func17 rfl rfl Tryz.ntmps17 rfl rfl ?_
    (repeat' (first | refine nI ?_ | (refine nA ?_; intro _) | refine nY ?_ | refine nR ?_ | refine WC_cond rfl (fun hc => ?_) (fun hc => ?_)))
    refine ro_ret (by exact kR) (by exact kL) ?_; dsimp only; rw [he]; rfl
  have hs1 : sub1 left xs.length = left - (xs.length : Int) := if_neg hc
  obtain ⟨_, _, hb, hat⟩ := hat0 (by omega)
  dsimp only at hat
  have he0 : szL left (xs.length :: xs.flatMap (fun p : Event × Sl => ([p.2.n] : List Nat))) = szL (left - (xs.length : Int)) (xs.flatMap (fun p : Event × Sl => ([p.2.n] : List Nat))) := by rw [szL, hs1, if_neg hc]
  dsimp only
  rw [he0]
  clear hat0 he0
  refine Tri.of Tryz.func17 rfl rfl Tryz.ntmps17 rfl rfl ?_
  (repeat' (first | refine nI ?_ | (refine nA ?_; intro _) | refine nY ?_ | refine nR ?_ | refine WC_cond rfl (fun hc => ?_) (fun hc => ?_)))
  refine WC_loop (fun mz Ez Mz => ∃ (k : Nat) (lf : Int), k + mz = (xs).length ∧ Ez = [(0, .slice a xs.length c), (1, I lf), (5, I k)] ∧ Mz = L ∧ (szL (left - (xs.length : Int)) (xs.flatMap (fun p : Event × Sl => ([p.2.n] : List Nat))) = szL lf ((xs.drop k).flatMap (fun p : Event × Sl => ([p.2.n] : List Nat))) ∧ 0 ≤ lf ∧ lf ≤ 1048576)) (xs).length (by exact kQ) (by exact kL) ⟨0, left - (xs.length : Int), by omega, rfl, rfl, by exact ⟨rfl, by omega, by omega⟩⟩ ?_
  rintro mz Ez Mz ⟨k, lf, hk, rfl, rfl, hin⟩
  rcases Nat.lt_or_ge k (xs).length with hlt | hge
  · obtain ⟨y1, hy1⟩ : ∃ y, (xs)[k]? = some y := ⟨(xs)[k]'(by omega), by simp [hlt]⟩; obtain ⟨b'1, o1, cs1, T1, fr1, rfl, hm1, hrow1⟩ := hat (by omega); have hrow'1 := hrow1 k y1 hy1; have htk1 := take_next hy1
    obtain ⟨hd, hl0, hl1⟩ := hin
    have ha1 := hx y1 (List.mem_of_getElem? hy1)
    rw [drop_hl hy1, List.flatMap_cons, szL_append _ _ _ hl0] at hd
    obtain ⟨v1, q1⟩ := y1
    obtain ⟨r1, e1⟩ : ∃ r, szL lf ((fun p : Event × Sl => ([p.2.n] : List Nat)) (v1, q1)) = r := ⟨_, rfl⟩
    have hcs := szL_cases ((fun p : Event × Sl => ([p.2.n] : List Nat)) (v1, q1)) lf hl0
    rw [e1] at hd hcs
    by_cases hr : r1 < 0
    · have he : szL (left - (xs.length : Int)) (xs.flatMap (fun p : Event × Sl => ([p.2.n] : List Nat))) = -1 := by rw [hd, if_pos hr]
      (repeat' (first | refine nI ?_ | (refine nA ?_; intro _) | (refine nW ?_; first | (refine op_call_id ?_; refine op_ro rfl rfl (by exact (c_szEvent v1 q1 ha1.top lf ⟨hl0, hl1⟩).eq (congrArg I e1)) ?_)) | refine nY ?_ | refine nR ?_ | refine WC_cond rfl (fun hc => ?_) (fun hc => ?_)))
      refine ro_ret (by exact kR) (by exact kL) ?_; rw [he]; rfl
    · rw [if_neg hr] at hd
      have hr1 : 0 ≤ r1 ∧ r1 ≤ 1048576 := by rcases hcs with h | h <;> omega
      (repeat' (first | refine nI ?_ | (refine nA ?_; intro _) | (refine nW ?_; first | (refine op_call_id ?_; refine op_ro rfl rfl (by exact (c_szEvent v1 q1 ha1.top lf ⟨hl0, hl1⟩).eq (congrArg I e1)) ?_)) | refine nY ?_ | refine nR ?_ | refine WC_cond rfl (fun hc => ?_) (fun hc => ?_)))
      exact loopQ_next ⟨mz - 1, _, _, by omega, by exact kQ, by exact kL, k + 1, r1, by omega, rfl, rfl, by exact ⟨hd, by omega, by omega⟩⟩
  · have he : szL (left - (xs.length : Int)) (xs.flatMap (fun p : Event × Sl => ([p.2.n] : List Nat))) = lf := by rw [hin.1, List.drop_of_length_le (by omega)]; rfl
    (repeat' (first | refine nI ?_ | (refine nA ?_; intro _) | refine nY ?_ | refine nR ?_ | refine WC_cond rfl (fun hc => ?_) (fun hc => ?_)))
    refine ro_ret (by exact kR) (by exact kL) ?_; rw [he]; rfl
theorem fits {r left : Int} {ns : List Nat} (h0 : 0 ≤ left ∧ left ≤ 1048576) (e : szL left ns = r) (h : ¬ r < 0) : (0 ≤ r ∧ r ≤ 1048576) ∧ ∀ n ∈ ns, n ≤ 1048576 := by
  rcases szL_cases ns left h0.1 with hc | ⟨h1, h2, h3⟩
  · omega
  · exact ⟨by omega, fun n hn => by have := h3 n hn; omega⟩
theorem CliIn.at {L : List Ent} {p : Client × CSl} (h : CliIn L p) (h1 : p.2.w.n ≤ 1048576) (h2 : p.2.c.n ≤ 1048576) (h3 : p.2.s.n ≤ 1048576) (h4 : p.2.m.n ≤ 1048576) : CliAt L p := ⟨h.w.at_ h1, h.c.at_ h2, h.s.at_ h3, h.m.at_ h4⟩
theorem SrvIn.at {L : List Ent} {p : Serv × (Sl × Sl)} (h : SrvIn L p) (h1 : p.2.1.n ≤ 1048576) (h2 : p.2.2.n ≤ 1048576) : SrvAt L p := ⟨h.c.at_ h1, h.t.at_ h2⟩
/-- The measure of a world; where it fits, all of it can be read. -/
theorem c_szWorld {L : List Ent} (w : World) (q : WSl) (ps : List (Client × CSl)) (ss : List (Serv × (Sl × Sl))) (ms : List (Msg × Sl)) (h : WldIn L w q ps ss ms) : ∃ r, (∀ {M : List Ent}, (∀ e ∈ L, e ∈ M) → RO Tryz.prog 6 [worldV w q, I 1048576] M (I r)) ∧ (r < 0 ∨ ((0 ≤ r ∧ r ≤ 1048576) ∧ WAt L w q ∧ WLen w)) := by
  obtain ⟨sk, sc, sv, sm⟩ := q
  obtain ⟨r0, e0⟩ : ∃ r, szL 1048576 [sk.n] = r := ⟨_, rfl⟩
  by_cases h0 : r0 < 0
  · refine ⟨-1, fun {M} hM => ?_, .inl (by omega)⟩
    replace h := h.mono hM
    refine Tri.of Tryz.func6 rfl rfl Tryz.ntmps6 rfl rfl ?_
    (repeat' (first | refine nI ?_ | (refine nA ?_; intro _) | (refine nW ?_; first | (refine op_call_id ?_; refine op_ro rfl rfl (by exact (c_szKdc w.kdc sk h.kc.top 1048576 (by omega)).eq (congrArg I e0)) ?_)) | refine nY ?_ | refine nR ?_ | refine WC_cond rfl (fun hc => ?_) (fun hc => ?_)))
    refine ro_ret (by exact kR) (by exact kL) ?_; rfl
  have g0 := fits (by omega) e0 h0
  obtain ⟨r1, e1⟩ : ∃ r, szL r0 (sc.n :: ps.flatMap (fun p : Client × CSl => ([p.2.w.n, p.2.c.n, p.2.s.n, p.2.m.n] : List Nat))) = r := ⟨_, rfl⟩
  by_cases h1 : r1 < 0
  · refine ⟨-1, fun {M} hM => ?_, .inl (by omega)⟩
    replace h := h.mono hM
    refine Tri.of Tryz.func6 rfl rfl Tryz.ntmps6 rfl rfl ?_
    (repeat' (first | refine nI ?_ | (refine nA ?_; intro _) | (refine nW ?_; first | (refine op_call_id ?_; refine op_ro rfl rfl (by first | exact (c_szKdc w.kdc sk h.kc.top 1048576 (by omega)).eq (congrArg I e0) | exact (c_szClientS sc ps (h.pr.mono (by exact kS)) (fun p hp => (h.pa p hp).mono (by exact kS)) r0 g0.1).eq (congrArg I e1)) ?_)) | refine nY ?_ | refine nR ?_ | refine WC_cond rfl (fun hc => ?_) (fun hc => ?_)))
    refine ro_ret (by exact kR) (by exact kL) ?_; rfl
  have g1 := fits g0.1 e1 h1
  obtain ⟨r2, e2⟩ : ∃ r, szL r1 (sv.n :: ss.flatMap (fun p : Serv × (Sl × Sl) => ([p.2.1.n, p.2.2.n] : List Nat))) = r := ⟨_, rfl⟩
  by_cases h2 : r2 < 0
  · refine ⟨-1, fun {M} hM => ?_, .inl (by omega)⟩
    replace h := h.mono hM
    refine Tri.of Tryz.func6 rfl rfl Tryz.ntmps6 rfl rfl ?_
    (repeat' (first | refine nI ?_ | (refine nA ?_; intro _) | (refine nW ?_; first | (refine op_call_id ?_; refine op_ro rfl rfl (by first | exact (c_szKdc w.kdc sk h.kc.top 1048576 (by omega)).eq (congrArg I e0) | exact (c_szClientS sc ps (h.pr.mono (by exact kS)) (fun p hp => (h.pa p hp).mono (by exact kS)) r0 g0.1).eq (congrArg I e1) | exact (c_szServS sv ss (h.sr.mono (by exact kS)) (fun p hp => (h.sa p hp).mono (by exact kS)) r1 g1.1).eq (congrArg I e2)) ?_)) | refine nY ?_ | refine nR ?_ | refine WC_cond rfl (fun hc => ?_) (fun hc => ?_)))
    refine ro_ret (by exact kR) (by exact kL) ?_; rfl
  have g2 := fits g1.1 e2 h2
  obtain ⟨r3, e3⟩ : ∃ r, szL r2 (sm.n :: ms.flatMap (fun p : Msg × Sl => ([p.2.n] : List Nat))) = r := ⟨_, rfl⟩
  by_cases h3 : r3 < 0
  · refine ⟨-1, fun {M} hM => ?_, .inl (by omega)⟩
    replace h := h.mono hM
    refine Tri.of Tryz.func6 rfl rfl Tryz.ntmps6 rfl rfl ?_
    (repeat' (first | refine nI ?_ | (refine nA ?_; intro _) | (refine nW ?_; first | (refine op_call_id ?_; refine op_ro rfl rfl (by first | exact (c_szKdc w.kdc sk h.kc.top 1048576 (by omega)).eq (congrArg I e0) | exact (c_szClientS sc ps (h.pr.mono (by exact kS)) (fun p hp => (h.pa p hp).mono (by exact kS)) r0 g0.1).eq (congrArg I e1) | exact (c_szServS sv ss (h.sr.mono (by exact kS)) (fun p hp => (h.sa p hp).mono (by exact kS)) r1 g1.1).eq (congrArg I e2) | exact (c_szMsgS sm ms (h.mr.mono (by exact kS)) (fun p hp => (h.ma p hp).mono (by exact kS)) r2 g2.1).eq (congrArg I e3)) ?_)) | refine nY ?_ | refine nR ?_ | refine WC_cond rfl (fun hc => ?_) (fun hc => ?_)))
    refine ro_ret (by exact kR) (by exact kL) ?_; rfl
  have g3 := fits g2.1 e3 h3
  have f0 : sk.n ≤ 1048576 := g0.2 _ (by simp)
  have f1 : sc.n ≤ 1048576 := g1.2 _ List.mem_cons_self
  have f2 : sv.n ≤ 1048576 := g2.2 _ List.mem_cons_self
  have f3 : sm.n ≤ 1048576 := g3.2 _ List.mem_cons_self
  have fc : ∀ p ∈ ps, p.2.w.n ≤ 1048576 ∧ p.2.c.n ≤ 1048576 ∧ p.2.s.n ≤ 1048576 ∧ p.2.m.n ≤ 1048576 := fun p hp => by
    have k : ∀ n, n ∈ ([p.2.w.n, p.2.c.n, p.2.s.n, p.2.m.n] : List Nat) → n ≤ 1048576 := fun n hn => g1.2 n (List.mem_cons_of_mem _ (List.mem_flatMap.2 ⟨p, hp, hn⟩))
    exact ⟨k _ (by simp), k _ (by simp), k _ (by simp), k _ (by simp)⟩
  have fs : ∀ p ∈ ss, p.2.1.n ≤ 1048576 ∧ p.2.2.n ≤ 1048576 := fun p hp => by
    have k : ∀ n, n ∈ ([p.2.1.n, p.2.2.n] : List Nat) → n ≤ 1048576 := fun n hn => g2.2 n (List.mem_cons_of_mem _ (List.mem_flatMap.2 ⟨p, hp, hn⟩))
    exact ⟨k _ (by simp), k _ (by simp)⟩
  have fm : ∀ p ∈ ms, p.2.n ≤ 1048576 := fun p hp => g3.2 _ (List.mem_cons_of_mem _ (List.mem_flatMap.2 ⟨p, hp, by simp⟩))
  refine ⟨r3, fun {M} hM => ?_, .inr ⟨g3.1, ⟨ps, ss, ms, ⟨h.kc.at_ f0, h.pe, h.pr.at_ f1, fun p hp => (h.pa p hp).at (fc p hp).1 (fc p hp).2.1 (fc p hp).2.2.1 (fc p hp).2.2.2, h.se, h.sr.at_ f2, fun p hp => (h.sa p hp).at (fs p hp).1 (fs p hp).2, h.me, h.mr.at_ f3, fun p hp => (h.ma p hp).at_ (fm p hp)⟩⟩, ⟨?_, ?_, ?_, ?_, ?_, ?_, ?_⟩⟩⟩
  · replace h := h.mono hM
    refine Tri.of Tryz.func6 rfl rfl Tryz.ntmps6 rfl rfl ?_
    (repeat' (first | refine nI ?_ | (refine nA ?_; intro _) | (refine nW ?_; first | (refine op_call_id ?_; refine op_ro rfl rfl (by first | exact (c_szKdc w.kdc sk h.kc.top 1048576 (by omega)).eq (congrArg I e0) | exact (c_szClientS sc ps (h.pr.mono (by exact kS)) (fun p hp => (h.pa p hp).mono (by exact kS)) r0 g0.1).eq (congrArg I e1) | exact (c_szServS sv ss (h.sr.mono (by exact kS)) (fun p hp => (h.sa p hp).mono (by exact kS)) r1 g1.1).eq (congrArg I e2) | exact (c_szMsgS sm ms (h.mr.mono (by exact kS)) (fun p hp => (h.ma p hp).mono (by exact kS)) r2 g2.1).eq (congrArg I e3)) ?_)) | refine nY ?_ | refine nR ?_ | refine WC_cond rfl (fun hc => ?_) (fun hc => ?_)))
    refine ro_ret (by exact kR) (by exact kL) ?_; rfl
  · have := h.kc.len; dsimp only at this; omega
  · have := h.pr.len; have := fst_len h.pe; dsimp only at *; omega
  · intro c hc
    rw [← h.pe] at hc
    obtain ⟨p, hp, rfl⟩ := List.mem_map.1 hc
    have h1 := (h.pa p hp).w.len
    have h2 := (h.pa p hp).c.len
    have h3 := (h.pa p hp).s.len
    have h4 := (h.pa p hp).m.len
    have := fc p hp
    omega
  · have := h.sr.len; have := fst_len h.se; dsimp only at *; omega
  · intro c hc
    rw [← h.se] at hc
    obtain ⟨p, hp, rfl⟩ := List.mem_map.1 hc
    have h1 := (h.sa p hp).c.len
    have h2 := (h.sa p hp).t.len
    have := fs p hp
    omega
  · have := h.mr.len; have := fst_len h.me; dsimp only at *; omega
  · intro c hc
    rw [← h.me] at hc
    obtain ⟨p, hp, rfl⟩ := List.mem_map.1 hc
    have h1 := SlIn.len (h.ma p hp)
    have := fm p hp
    omega
end Go.Proofs.YtoledfhjmdpihaaGreat
/- Whether rows hold their marks. -/
set_option linter.unusedVariables false
set_option linter.unusedSectionVars false
set_option linter.unusedSimpArgs false
namespace Go.Proofs.YtoledfhjmdpihaaGreat
open Go Go.Proofs Go.Proofs.YtoledfhjmdpihaaGreat.VE
attribute [local irreducible] Val Op1 WO WR WA WC seqQ blockQ loopQ retQ
set_option maxHeartbeats 8000000
theorem c_heldSealS {L : List Ent} (s : Sl) (xs : List Seal) (k0 k' : Int) (h : SliceAt L encSeal s xs) (hh : HL HSeal k0 xs k') (h0 : 0 ≤ k0) (h1 : k' ≤ 1152921504606846976) : RO Tryz.prog 113 [s.v, I k0] L (I k') := by
  obtain ⟨a, n, c⟩ := s
  obtain ⟨hn, hc, hb, hat⟩ := h
  dsimp only at hn hat
  subst hn
  simp only [big] at hb
  refine Tri.of Tryz.func113 rfl rfl Tryz.ntmps113 rfl rfl ?_
  (repeat' (first | refine nI ?_ | (refine nA ?_; intro _) | refine nY ?_ | refine nR ?_ | refine WC_cond rfl (fun hc => ?_) (fun hc => ?_)))
  refine WC_loop (fun mz Ez Mz => ∃ (k : Nat) (kk : Int), k + mz = (xs).length ∧ Ez = [(0, .slice a xs.length c), (1, I kk), (5, I k)] ∧ Mz = L ∧ (HL HSeal kk (xs.drop k) k' ∧ 0 ≤ kk)) (xs).length (by exact kQ) (by exact kL) ⟨0, k0, by omega, rfl, rfl, by exact ⟨hh, h0⟩⟩ ?_
  rintro mz Ez Mz ⟨k, kk, hk, rfl, rfl, hin⟩
  rcases Nat.lt_or_ge k (xs).length with hlt | hge
  · obtain ⟨y1, hy1⟩ : ∃ y, (xs)[k]? = some y := ⟨(xs)[k]'(by omega), by simp [hlt]⟩; obtain ⟨b'1, o1, cs1, T1, fr1, rfl, hm1, hrow1⟩ := hat (by omega); have hrow'1 := hrow1 k y1 hy1; have htk1 := take_next hy1
    obtain ⟨hd, hk0⟩ := hin
    rw [drop_hl hy1] at hd
    obtain ⟨k1, hx, hd⟩ := hd
    have hle := HL.le HSeal.le hd
    obtain ⟨rfl, rfl⟩ := hx
    (repeat' (first | refine nI ?_ | (refine nA ?_; intro _) | refine nY ?_ | refine nR ?_ | refine WC_cond rfl (fun hc => ?_) (fun hc => ?_)))
    exact loopQ_next ⟨mz - 1, _, _, by omega, by exact kQ, by exact kL, k + 1, kk + 1 + 1 + 1 + 1 + 1 + 1 + 1, by omega, rfl, rfl, by exact ⟨hd, by omega⟩⟩
  · obtain ⟨hd, hk0⟩ := hin
    rw [List.drop_of_length_le (by omega)] at hd
    obtain rfl : k' = kk := hd
    (repeat' (first | refine nI ?_ | (refine nA ?_; intro _) | refine nY ?_ | refine nR ?_ | refine WC_cond rfl (fun hc => ?_) (fun hc => ?_)))
    refine ro_ret (by exact kR) (by exact kL) ?_; rfl
theorem c_heldWantS {L : List Ent} (s : Sl) (xs : List Want) (k0 k' : Int) (h : SliceAt L encWant s xs) (hh : HL HWant k0 xs k') (h0 : 0 ≤ k0) (h1 : k' ≤ 1152921504606846976) : RO Tryz.prog 114 [s.v, I k0] L (I k') := by
  obtain ⟨a, n, c⟩ := s
  obtain ⟨hn, hc, hb, hat⟩ := h
  dsimp only at hn hat
  subst hn
  simp only [big] at hb
  refine Tri.of Tryz.func114 rfl rfl Tryz.ntmps114 rfl rfl ?_
  (repeat' (first | refine nI ?_ | (refine nA ?_; intro _) | refine nY ?_ | refine nR ?_ | refine WC_cond rfl (fun hc => ?_) (fun hc => ?_)))
  refine WC_loop (fun mz Ez Mz => ∃ (k : Nat) (kk : Int), k + mz = (xs).length ∧ Ez = [(0, .slice a xs.length c), (1, I kk), (5, I k)] ∧ Mz = L ∧ (HL HWant kk (xs.drop k) k' ∧ 0 ≤ kk)) (xs).length (by exact kQ) (by exact kL) ⟨0, k0, by omega, rfl, rfl, by exact ⟨hh, h0⟩⟩ ?_
  rintro mz Ez Mz ⟨k, kk, hk, rfl, rfl, hin⟩
  rcases Nat.lt_or_ge k (xs).length with hlt | hge
  · obtain ⟨y1, hy1⟩ : ∃ y, (xs)[k]? = some y := ⟨(xs)[k]'(by omega), by simp [hlt]⟩; obtain ⟨b'1, o1, cs1, T1, fr1, rfl, hm1, hrow1⟩ := hat (by omega); have hrow'1 := hrow1 k y1 hy1; have htk1 := take_next hy1
    obtain ⟨hd, hk0⟩ := hin
    rw [drop_hl hy1] at hd
    obtain ⟨k1, hx, hd⟩ := hd
    have hle := HL.le HWant.le hd
    obtain ⟨rfl, rfl⟩ := hx
    (repeat' (first | refine nI ?_ | (refine nA ?_; intro _) | refine nY ?_ | refine nR ?_ | refine WC_cond rfl (fun hc => ?_) (fun hc => ?_)))
    exact loopQ_next ⟨mz - 1, _, _, by omega, by exact kQ, by exact kL, k + 1, kk + 1 + 1, by omega, rfl, rfl, by exact ⟨hd, by omega⟩⟩
  · obtain ⟨hd, hk0⟩ := hin
    rw [List.drop_of_length_le (by omega)] at hd
    obtain rfl : k' = kk := hd
    (repeat' (first | refine nI ?_ | (refine nA ?_; intro _) | refine nY ?_ | refine nR ?_ | refine WC_cond rfl (fun hc => ?_) (fun hc => ?_)))
    refine ro_ret (by exact kR) (by exact kL) ?_; rfl
theorem c_heldCallS {L : List Ent} (s : Sl) (xs : List Call) (k0 k' : Int) (h : SliceAt L encCall s xs) (hh : HL HCall k0 xs k') (h0 : 0 ≤ k0) (h1 : k' ≤ 1152921504606846976) : RO Tryz.prog 116 [s.v, I k0] L (I k') := by
  obtain ⟨a, n, c⟩ := s
  obtain ⟨hn, hc, hb, hat⟩ := h
  dsimp only at hn hat
  subst hn
  simp only [big] at hb
  refine Tri.of Tryz.func116 rfl rfl Tryz.ntmps116 rfl rfl ?_
  (repeat' (first | refine nI ?_ | (refine nA ?_; intro _) | refine nY ?_ | refine nR ?_ | refine WC_cond rfl (fun hc => ?_) (fun hc => ?_)))
  refine WC_loop (fun mz Ez Mz => ∃ (k : Nat) (kk : Int), k + mz = (xs).length ∧ Ez = [(0, .slice a xs.length c), (1, I kk), (5, I k)] ∧ Mz = L ∧ (HL HCall kk (xs.drop k) k' ∧ 0 ≤ kk)) (xs).length (by exact kQ) (by exact kL) ⟨0, k0, by omega, rfl, rfl, by exact ⟨hh, h0⟩⟩ ?_
  rintro mz Ez Mz ⟨k, kk, hk, rfl, rfl, hin⟩
  rcases Nat.lt_or_ge k (xs).length with hlt | hge
  · obtain ⟨y1, hy1⟩ : ∃ y, (xs)[k]? = some y := ⟨(xs)[k]'(by omega), by simp [hlt]⟩; obtain ⟨b'1, o1, cs1, T1, fr1, rfl, hm1, hrow1⟩ := hat (by omega); have hrow'1 := hrow1 k y1 hy1; have htk1 := take_next hy1
    obtain ⟨hd, hk0⟩ := hin
    rw [drop_hl hy1] at hd
    obtain ⟨k1, hx, hd⟩ := hd
    have hle := HL.le HCall.le hd
    obtain ⟨rfl, rfl⟩ := hx
    (repeat' (first | refine nI ?_ | (refine nA ?_; intro _) | refine nY ?_ | refine nR ?_ | refine WC_cond rfl (fun hc => ?_) (fun hc => ?_)))
    exact loopQ_next ⟨mz - 1, _, _, by omega, by exact kQ, by exact kL, k + 1, kk + 1 + 1 + 1 + 1, by omega, rfl, rfl, by exact ⟨hd, by omega⟩⟩
  · obtain ⟨hd, hk0⟩ := hin
    rw [List.drop_of_length_le (by omega)] at hd
    obtain rfl : k' = kk := hd
    (repeat' (first | refine nI ?_ | (refine nA ?_; intro _) | refine nY ?_ | refine nR ?_ | refine WC_cond rfl (fun hc => ?_) (fun hc => ?_)))
    refine ro_ret (by exact kR) (by exact kL) ?_; rfl
theorem c_heldCredS {L : List Ent} (s : Sl) (xs : List Cred) (k0 k' : Int) (h : SliceAt L encCred s xs) (hh : HL HCred k0 xs k') (h0 : 0 ≤ k0) (h1 : k' ≤ 1152921504606846976) : RO Tryz.prog 115 [s.v, I k0] L (I k') := by
  obtain ⟨a, n, c⟩ := s
  obtain ⟨hn, hc, hb, hat⟩ := h
  dsimp only at hn hat
  subst hn
  simp only [big] at hb
  refine Tri.of Tryz.func115 rfl rfl Tryz.ntmps115 rfl rfl ?_
  (repeat' (first | refine nI ?_ | (refine nA ?_; intro _) | refine nY ?_ | refine nR ?_ | refine WC_cond rfl (fun hc => ?_) (fun hc => ?_)))
  refine WC_loop (fun mz Ez Mz => ∃ (k : Nat) (kk : Int), k + mz = (xs).length ∧ Ez = [(0, .slice a xs.length c), (1, I kk), (5, I k)] ∧ Mz = L ∧ (HL HCred kk (xs.drop k) k' ∧ 0 ≤ kk)) (xs).length (by exact kQ) (by exact kL) ⟨0, k0, by omega, rfl, rfl, by exact ⟨hh, h0⟩⟩ ?_
  rintro mz Ez Mz ⟨k, kk, hk, rfl, rfl, hin⟩
  rcases Nat.lt_or_ge k (xs).length with hlt | hge
  · obtain ⟨y1, hy1⟩ : ∃ y, (xs)[k]? = some y := ⟨(xs)[k]'(by omega), by simp [hlt]⟩; obtain ⟨b'1, o1, cs1, T1, fr1, rfl, hm1, hrow1⟩ := hat (by omega); have hrow'1 := hrow1 k y1 hy1; have htk1 := take_next hy1
    obtain ⟨hd, hk0⟩ := hin
    rw [drop_hl hy1] at hd
    obtain ⟨k1, hx, hd⟩ := hd
    have hle := HL.le HCred.le hd
    obtain ⟨rfl, rfl⟩ := hx
    (repeat' (first | refine nI ?_ | (refine nA ?_; intro _) | (refine nW ?_; first | (refine op_load_id ?_; refine op_val rfl (by exact val_load1R2 rfl rfl rfl (by exact kM) (by assumption) rfl) ?_)) | refine nY ?_ | refine nR ?_ | refine WC_cond rfl (fun hc => ?_) (fun hc => ?_)))
    exact loopQ_next ⟨mz - 1, _, _, by omega, by exact kQ, by exact kL, k + 1, kk + 1 + 1 + 1 + 1 + 1 + 1 + 1 + 1 + 1 + 1, by omega, rfl, rfl, by exact ⟨hd, by omega⟩⟩
  · obtain ⟨hd, hk0⟩ := hin
    rw [List.drop_of_length_le (by omega)] at hd
    obtain rfl : k' = kk := hd
    (repeat' (first | refine nI ?_ | (refine nA ?_; intro _) | refine nY ?_ | refine nR ?_ | refine WC_cond rfl (fun hc => ?_) (fun hc => ?_)))
    refine ro_ret (by exact kR) (by exact kL) ?_; rfl
theorem c_heldKdc {L : List Ent} (k : Kdc) (s : Sl) (k0 k' : Int) (h : SliceAt L encSeal s k.cache) (hh : HL HSeal k0 k.cache k') (h0 : 0 ≤ k0) (h1 : k' ≤ 1152921504606846976) : RO Tryz.prog 51 [.agg [I k.next, s.v].toArray, I k0] L (I k') := by
  have hle := HL.le HSeal.le hh
  refine Tri.of Tryz.func51 rfl rfl Tryz.ntmps51 rfl rfl ?_
  (repeat' (first | refine nI ?_ | (refine nA ?_; intro _) | (refine nW ?_; first | (refine op_call_id ?_; refine op_ro rfl rfl (by exact c_heldSealS s k.cache k0 k' (h.mono (by exact kS)) hh h0 h1) ?_)) | refine nY ?_ | refine nR ?_ | refine WC_cond rfl (fun hc => ?_) (fun hc => ?_)))
  refine ro_ret (by exact kR) (by exact kL) ?_; rfl
theorem c_heldClientS {L : List Ent} (s : Sl) (xs : List (Client × CSl)) (k0 k' : Int) (h : SliceAt L encClient s xs) (hx : ∀ p ∈ xs, CliAt L p) (hh : HL HClientP k0 xs k') (h0 : 0 ≤ k0) (h1 : k' ≤ 1152921504606846976) : RO Tryz.prog 52 [s.v, I k0] L (I k') := by
  obtain ⟨a, n, c⟩ := s
  obtain ⟨hn, hc, hb, hat⟩ := h
  dsimp only at hn hat
  subst hn
  simp only [big] at hb
  refine Tri.of Tryz.func52 rfl rfl Tryz.ntmps52 rfl rfl ?_
  (repeat' (first | refine nI ?_ | (refine nA ?_; intro _) | refine nY ?_ | refine nR ?_ | refine WC_cond rfl (fun hc => ?_) (fun hc => ?_)))
  refine WC_loop (fun mz Ez Mz => ∃ (k : Nat) (kk : Int), k + mz = (xs).length ∧ Ez = [(0, .slice a xs.length c), (1, I kk), (5, I k)] ∧ Mz = L ∧ (HL HClientP kk (xs.drop k) k' ∧ 0 ≤ kk)) (xs).length (by exact kQ) (by exact kL) ⟨0, k0, by omega, rfl, rfl, by exact ⟨hh, h0⟩⟩ ?_
  rintro mz Ez Mz ⟨k, kk, hk, rfl, rfl, hin⟩
  rcases Nat.lt_or_ge k (xs).length with hlt | hge
  · obtain ⟨y1, hy1⟩ : ∃ y, (xs)[k]? = some y := ⟨(xs)[k]'(by omega), by simp [hlt]⟩; obtain ⟨b'1, o1, cs1, T1, fr1, rfl, hm1, hrow1⟩ := hat (by omega); have hrow'1 := hrow1 k y1 hy1; have htk1 := take_next hy1
    obtain ⟨hd, hk0⟩ := hin
    rw [drop_hl hy1] at hd
    obtain ⟨km, hhx, hd⟩ := hd
    have hle := HL.le (fun k x k' h => HClient.le k x.1 k' h) hd
    have ha1 := hx y1 (List.mem_of_getElem? hy1)
    obtain ⟨v1, q1⟩ := y1
    obtain ⟨k1, k2, k3, i1, i2, j1, j2, j3, j4⟩ := hhx
    dsimp only at i1 i2 j1 j2 j3 j4
    have l1 := HL.le HWant.le j1
    have l2 := HL.le HCred.le j2
    have l3 := HL.le HCall.le j3
    have l4 := HL.le HCall.le j4
    (repeat' (first | refine nI ?_ | (refine nA ?_; intro _) | (refine nW ?_; first | (refine op_call_id ?_; refine op_ro rfl rfl (by first | exact c_heldWantS q1.w v1.wants (kk + 1 + 1) k1 (ha1.w.mono (by exact kS)) j1 (by omega) (by omega) | exact c_heldCredS q1.c v1.creds k1 k2 (ha1.c.mono (by exact kS)) j2 (by omega) (by omega) | exact c_heldCallS q1.s v1.sent k2 k3 (ha1.s.mono (by exact kS)) j3 (by omega) (by omega) | exact c_heldCallS q1.m v1.met k3 km (ha1.m.mono (by exact kS)) j4 (by omega) (by omega)) ?_)) | refine nY ?_ | refine nR ?_ | refine WC_cond rfl (fun hc => ?_) (fun hc => ?_)))
    exact loopQ_next ⟨mz - 1, _, _, by omega, by exact kQ, by exact kL, k + 1, km, by omega, rfl, rfl, by exact ⟨hd, by omega⟩⟩
  · obtain ⟨hd, hk0⟩ := hin
    rw [List.drop_of_length_le (by omega)] at hd
    obtain rfl : k' = kk := hd
    (repeat' (first | refine nI ?_ | (refine nA ?_; intro _) | refine nY ?_ | refine nR ?_ | refine WC_cond rfl (fun hc => ?_) (fun hc => ?_)))
    refine ro_ret (by exact kR) (by exact kL) ?_; rfl
theorem c_heldServS {L : List Ent} (s : Sl) (xs : List (Serv × (Sl × Sl))) (k0 k' : Int) (h : SliceAt L encServ s xs) (hx : ∀ p ∈ xs, SrvAt L p) (hh : HL HServP k0 xs k') (h0 : 0 ≤ k0) (h1 : k' ≤ 1152921504606846976) : RO Tryz.prog 53 [s.v, I k0] L (I k') := by
  obtain ⟨a, n, c⟩ := s
  obtain ⟨hn, hc, hb, hat⟩ := h
  dsimp only at hn hat
  subst hn
  simp only [big] at hb
  refine Tri.of Tryz.func53 rfl rfl Tryz.ntmps53 rfl rfl ?_
  (repeat' (first | refine nI ?_ | (refine nA ?_; intro _) | refine nY ?_ | refine nR ?_ | refine WC_cond rfl (fun hc => ?_) (fun hc => ?_)))
  refine WC_loop (fun mz Ez Mz => ∃ (k : Nat) (kk : Int), k + mz = (xs).length ∧ Ez = [(0, .slice a xs.length c), (1, I kk), (5, I k)] ∧ Mz = L ∧ (HL HServP kk (xs.drop k) k' ∧ 0 ≤ kk)) (xs).length (by exact kQ) (by exact kL) ⟨0, k0, by omega, rfl, rfl, by exact ⟨hh, h0⟩⟩ ?_
  rintro mz Ez Mz ⟨k, kk, hk, rfl, rfl, hin⟩
  rcases Nat.lt_or_ge k (xs).length with hlt | hge
  · obtain ⟨y1, hy1⟩ : ∃ y, (xs)[k]? = some y := ⟨(xs)[k]'(by omega), by simp [hlt]⟩; obtain ⟨b'1, o1, cs1, T1, fr1, rfl, hm1, hrow1⟩ := hat (by omega); have hrow'1 := hrow1 k y1 hy1; have htk1 := take_next hy1
    obtain ⟨hd, hk0⟩ := hin
    rw [drop_hl hy1] at hd
    obtain ⟨km, hhx, hd⟩ := hd
    have hle := HL.le (fun k x k' h => HServ.le k x.1 k' h) hd
    have ha1 := hx y1 (List.mem_of_getElem? hy1)
    obtain ⟨v1, q1⟩ := y1
    obtain ⟨k1, i1, i2, j1, j2⟩ := hhx
    dsimp only at i1 i2 j1 j2
    have l1 := HL.le HSeal.le j1
    have l2 := HL.le HCall.le j2
    (repeat' (first | refine nI ?_ | (refine nA ?_; intro _) | (refine nW ?_; first | (refine op_call_id ?_; refine op_ro rfl rfl (by first | exact c_heldSealS q1.1 v1.cache (kk + 1 + 1) k1 (ha1.c.mono (by exact kS)) j1 (by omega) (by omega) | exact c_heldCallS q1.2 v1.took k1 km (ha1.t.mono (by exact kS)) j2 (by omega) (by omega)) ?_)) | refine nY ?_ | refine nR ?_ | refine WC_cond rfl (fun hc => ?_) (fun hc => ?_)))
    exact loopQ_next ⟨mz - 1, _, _, by omega, by exact kQ, by exact kL, k + 1, km, by omega, rfl, rfl, by exact ⟨hd, by omega⟩⟩
  · obtain ⟨hd, hk0⟩ := hin
    rw [List.drop_of_length_le (by omega)] at hd
    obtain rfl : k' = kk := hd
    (repeat' (first | refine nI ?_ | (refine nA ?_; intro _) | refine nY ?_ | refine nR ?_ | refine WC_cond rfl (fun hc => ?_) (fun hc => ?_)))
    refine ro_ret (by exact kR) (by exact kL) ?_; rfl
theorem c_heldMsgS {L : List Ent} (s : Sl) (xs : List (Msg × Sl)) (k0 k' : Int) (h : SliceAt L encMsg s xs) (hx : ∀ p ∈ xs, MsgAt L p.1 p.2) (hh : HL HMsgP k0 xs k') (h0 : 0 ≤ k0) (h1 : k' ≤ 1152921504606846976) : RO Tryz.prog 54 [s.v, I k0] L (I k') := by
  obtain ⟨a, n, c⟩ := s
  obtain ⟨hn, hc, hb, hat⟩ := h
  dsimp only at hn hat
  subst hn
  simp only [big] at hb
  refine Tri.of Tryz.func54 rfl rfl Tryz.ntmps54 rfl rfl ?_
  (repeat' (first | refine nI ?_ | (refine nA ?_; intro _) | refine nY ?_ | refine nR ?_ | refine WC_cond rfl (fun hc => ?_) (fun hc => ?_)))
  refine WC_loop (fun mz Ez Mz => ∃ (k : Nat) (kk : Int), k + mz = (xs).length ∧ Ez = [(0, .slice a xs.length c), (1, I kk), (5, I k)] ∧ Mz = L ∧ (HL HMsgP kk (xs.drop k) k' ∧ 0 ≤ kk)) (xs).length (by exact kQ) (by exact kL) ⟨0, k0, by omega, rfl, rfl, by exact ⟨hh, h0⟩⟩ ?_
  rintro mz Ez Mz ⟨k, kk, hk, rfl, rfl, hin⟩
  rcases Nat.lt_or_ge k (xs).length with hlt | hge
  · obtain ⟨y1, hy1⟩ : ∃ y, (xs)[k]? = some y := ⟨(xs)[k]'(by omega), by simp [hlt]⟩; obtain ⟨b'1, o1, cs1, T1, fr1, rfl, hm1, hrow1⟩ := hat (by omega); have hrow'1 := hrow1 k y1 hy1; have htk1 := take_next hy1
    obtain ⟨hd, hk0⟩ := hin
    rw [drop_hl hy1] at hd
    obtain ⟨km, hhx, hd⟩ := hd
    have hle := HL.le (fun k x k' h => HMsg.le k x.1 k' h) hd
    have ha1 := hx y1 (List.mem_of_getElem? hy1)
    obtain ⟨v1, q1⟩ := y1
    obtain ⟨i1, i2, i3, i4, j1⟩ := hhx
    dsimp only at i1 i2 i3 i4 j1
    have l1 := HL.le HSeal.le j1
    (repeat' (first | refine nI ?_ | (refine nA ?_; intro _) | (refine nW ?_; first | (refine op_call_id ?_; refine op_ro rfl rfl (by exact c_heldSealS q1 v1.seals (kk + 1 + 1 + 1 + 1) km (ha1.mono (by exact kS)) j1 (by omega) (by omega)) ?_)) | refine nY ?_ | refine nR ?_ | refine WC_cond rfl (fun hc => ?_) (fun hc => ?_)))
    exact loopQ_next ⟨mz - 1, _, _, by omega, by exact kQ, by exact kL, k + 1, km, by omega, rfl, rfl, by exact ⟨hd, by omega⟩⟩
  · obtain ⟨hd, hk0⟩ := hin
    rw [List.drop_of_length_le (by omega)] at hd
    obtain rfl : k' = kk := hd
    (repeat' (first | refine nI ?_ | (refine nA ?_; intro _) | refine nY ?_ | refine nR ?_ | refine WC_cond rfl (fun hc => ?_) (fun hc => ?_)))
    refine ro_ret (by exact kR) (by exact kL) ?_; rfl
theorem c_heldWorld {L : List Ent} (w : World) (q : WSl) (k0 k' : Int) (h : ∃ ps ss ms, WldAt L w q ps ss ms) (hh : HWorld k0 w k') (h0 : 0 ≤ k0) (h1 : k' ≤ 1152921504606846976) : RO Tryz.prog 16 [worldV w q, I k0] L (I k') := by
  obtain ⟨ps, ss, ms, h⟩ := h
  obtain ⟨sk, sc, sv, sm⟩ := q
  obtain ⟨k1, k2, k3, j1, j2, j3, j4⟩ := hh
  have l1 := HL.le HSeal.le j1
  have l2 := HL.le HClient.le j2
  have l3 := HL.le HServ.le j3
  have l4 := HL.le HMsg.le j4
  rw [← h.pe] at j2
  rw [← h.se] at j3
  rw [← h.me] at j4
  have i2 := HL.unmap Prod.fst j2
  have i3 := HL.unmap Prod.fst j3
  have i4 := HL.unmap Prod.fst j4
  refine Tri.of Tryz.func16 rfl rfl Tryz.ntmps16 rfl rfl ?_
  (repeat' (first | refine nI ?_ | (refine nA ?_; intro _) | (refine nW ?_; first | (refine op_call_id ?_; refine op_ro rfl rfl (by first | exact c_heldKdc w.kdc sk k0 k1 (h.kc.mono (by exact kS)) j1 h0 (by omega) | exact c_heldClientS sc ps k1 k2 (h.pr.mono (by exact kS)) (fun p hp => (h.pa p hp).mono (by exact kS)) i2 (by omega) (by omega) | exact c_heldServS sv ss k2 k3 (h.sr.mono (by exact kS)) (fun p hp => (h.sa p hp).mono (by exact kS)) i3 (by omega) (by omega) | exact c_heldMsgS sm ms k3 k' (h.mr.mono (by exact kS)) (fun p hp => (h.ma p hp).mono (by exact kS)) i4 (by omega) h1) ?_)) | refine nY ?_ | refine nR ?_ | refine WC_cond rfl (fun hc => ?_) (fun hc => ?_)))
  refine ro_ret (by exact kR) (by exact kL) ?_; rfl
end Go.Proofs.YtoledfhjmdpihaaGreat
