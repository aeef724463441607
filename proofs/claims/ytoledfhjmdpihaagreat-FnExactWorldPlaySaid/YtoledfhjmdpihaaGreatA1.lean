/- The base of the walks: what a piece of code does, said of a short list of temporaries and a list of blocks; all else in memory stays. Generic over the program. -/
import Derived.WalkKit
import Derived.OrdersHeld
import Derived.KernelRfl
import Derived.Laws.StructEq
import Derived.Laws.AppendOwn
import Derived.Laws.MakeOwn
import Derived.Lib.SliceRun
import Derived.Laws.Pointers
set_option linter.unusedVariables false
set_option linter.unusedSimpArgs false
namespace Go.Proofs.YtoledfhjmdpihaaGreat.VE
open Go

abbrev Env := List (Nat × Value)
abbrev Ent := Nat × Obj

def lk : Env → Nat → Option Value
  | [], _ => none
  | (k, v) :: r, t => bif Nat.beq k t then some v else lk r t

def ev (env : Env) : Operand → Option Value
  | .tmp t => lk env t
  | .const v => some v
  | .global g => some (.pointer (some ⟨g, 0, none⟩))
  | .func f => some (.func (.func f) #[] #[])

def evs (env : Env) : List Operand → Option (List Value)
  | [] => some []
  | x :: r => match ev env x, evs env r with
    | some v, some vs => some (v :: vs)
    | _, _ => none

def putE (d : Option Nat) (v : Value) (env : Env) : Env := match d with | some t => (t, v) :: env | none => env
def dstOk (n : Nat) (d : Option Nat) : Bool := match d with | some t => Nat.blt t n | none => true

structure Agree (n : Nat) (env : Env) (a : Act) : Prop where
  size : a.tmps.size = n
  defers : a.defers = []
  get : ∀ t v, lk env t = some v → a.tmps[t]? = some v

structure Sat (g : World) (L : List Ent) (w : World) : Prop where
  os : w.os = g.os
  tape : w.tape = g.tape
  output : w.output = g.output
  size : g.heap.size ≤ w.heap.size
  nodup : (L.map Prod.fst).Nodup
  has : ∀ e ∈ L, w.heap[e.1]? = some e.2

/-- What is asked of a world by what only reads. -/
def Has (L : List Ent) (w : World) : Prop := ∀ e ∈ L, w.heap[e.1]? = some e.2

theorem Agree.ev {n : Nat} {env : Env} {a : Act} (h : Agree n env a) : ∀ {x : Operand} {v : Value}, VE.ev env x = some v → a.eval x = v
  | .tmp t, v, hx => by
    have := h.get t v hx
    simp [Act.eval, this, Array.getD_eq_getD_getElem?]
  | .const u, v, hx => by simpa [VE.ev, Act.eval] using hx
  | .global g, v, hx => by simpa [VE.ev, Act.eval] using hx
  | .func f, v, hx => by simpa [VE.ev, Act.eval] using hx

theorem Agree.evs {n : Nat} {env : Env} {a : Act} (h : Agree n env a) : ∀ {xs : List Operand} {vs : List Value}, VE.evs env xs = some vs → xs.map a.eval = vs
  | [], vs, hx => by simpa [VE.evs] using hx
  | x :: r, vs, hx => by
    simp only [VE.evs] at hx
    split at hx
    · rename_i v vs' h1 h2
      obtain rfl := Option.some.inj hx
      simp [h.ev h1, h.evs h2]
    · cases hx

theorem beq_ne {k t : Nat} (h : Nat.beq k t = false) : k ≠ t := by
  intro e; subst e; simp at h

theorem Agree.put {n : Nat} {env : Env} {a : Act} (h : Agree n env a) {d : Option Nat} (hd : dstOk n d = true) (v : Value) : Agree n (putE d v env) (a.put d v) := by
  cases d with
  | none => exact h
  | some t =>
    have ht : t < n := by simpa [dstOk, Nat.blt_eq] using hd
    refine ⟨by simp [Act.put, h.size], h.defers, fun s u hs => ?_⟩
    simp only [putE, lk] at hs
    cases hb : Nat.beq t s with
    | true =>
      rw [hb] at hs
      have : t = s := Nat.eq_of_beq_eq_true hb
      subst this
      obtain rfl := Option.some.inj hs
      simp [Act.put, Array.getElem?_setIfInBounds, h.size, ht]
    | false =>
      rw [hb] at hs
      have hne : t ≠ s := beq_ne hb
      simp only [Act.put, Array.getElem?_setIfInBounds_ne hne]
      exact h.get s u hs

/-! ### Entries -/
def LSub (L L' : List Ent) : Prop := ∀ g w, Sat g L w → Sat g L' w
theorem LSub.refl (L : List Ent) : LSub L L := fun _ _ h => h
theorem LSub.trans {L L' L'' : List Ent} (h : LSub L L') (k : LSub L' L'') : LSub L L'' := fun g w s => k g w (h g w s)
theorem LSub.perm {L L' : List Ent} (h : L.Perm L') : LSub L L' := fun g w s =>
  ⟨s.os, s.tape, s.output, s.size, (h.map _).nodup_iff.1 s.nodup, fun e he => s.has e (h.mem_iff.2 he)⟩
theorem LSub.sublist {L L' : List Ent} (h : L'.Sublist L) : LSub L L' := fun g w s =>
  ⟨s.os, s.tape, s.output, s.size, s.nodup.sublist (h.map _), fun e he => s.has e (h.subset he)⟩
theorem LSub.drop {e : Ent} {L : List Ent} : LSub (e :: L) L := .sublist (List.sublist_cons_self _ _)
theorem LSub.left {L M : List Ent} : LSub (L ++ M) L := .sublist (List.sublist_append_left _ _)
theorem LSub.right {L M : List Ent} : LSub (L ++ M) M := .sublist (List.sublist_append_right _ _)
theorem Sat.Has {g : World} {L : List Ent} {w : World} (h : Sat g L w) : VE.Has L w := h.has
theorem Has.sub {L M : List Ent} {w : World} (h : Has L w) (hm : ∀ e ∈ M, e ∈ L) : Has M w := fun e he => h e (hm e he)

/-- Rest of entries behind one (or some) that is brought forward. -/
theorem front_here {es r : List Ent} : (es ++ r).Perm (es ++ r) := .refl _
theorem front_app {es e1 r r' : List Ent} (h : r.Perm (es ++ r')) : (e1 ++ r).Perm (es ++ (e1 ++ r')) :=
  (h.append_left e1).trans (by rw [← List.append_assoc, ← List.append_assoc]; exact (List.perm_append_comm).append_right r')
theorem front_cons {es r r' : List Ent} {e1 : Ent} (h : r.Perm (es ++ r')) : (e1 :: r).Perm (es ++ (e1 :: r')) := front_app (e1 := [e1]) h
theorem frontO_here {e : Ent} {r : List Ent} : (e :: r).Perm (e :: r) := .refl _
theorem frontO_app {e : Ent} {e1 r r' : List Ent} (h : r.Perm (e :: r')) : (e1 ++ r).Perm (e :: (e1 ++ r')) := front_app (es := [e]) h
theorem frontO_cons {e : Ent} {r r' : List Ent} {e1 : Ent} (h : r.Perm (e :: r')) : (e1 :: r).Perm (e :: (e1 :: r')) := front_app (es := [e]) (e1 := [e1]) h
theorem front_end {es : List Ent} : es.Perm (es ++ []) := by rw [List.append_nil]

theorem Sat.fresh {g : World} {L : List Ent} {w : World} (h : Sat g L w) : w.heap.size ∉ L.map Prod.fst := by
  intro hm
  obtain ⟨e, he, h1⟩ := List.mem_map.1 hm
  have := h.has e he
  rw [h1] at this
  simp at this

theorem Sat.new {g : World} {L : List Ent} {w : World} (h : Sat g L w) (o : Obj) : Sat g ((w.heap.size, o) :: L) { w with heap := w.heap.push o } := by
  refine ⟨h.os, h.tape, h.output, ?_, ?_, ?_⟩
  · have := h.size; simp; omega
  · simp only [List.map_cons, List.nodup_cons]; exact ⟨h.fresh, h.nodup⟩
  · intro e he
    rcases List.mem_cons.1 he with rfl | he
    · simp
    · have h1 := h.has e he
      have hlt : e.1 < w.heap.size := (Array.getElem?_eq_some_iff.1 h1).1
      simp only [Array.getElem?_push]
      rw [if_neg (by omega)]; exact h1

theorem Sat.drew {g : World} {L : List Ent} {w : World} (h : Sat g L w) (n : Nat) : Sat g L { w with drawn := n } := ⟨h.os, h.tape, h.output, h.size, h.nodup, h.has⟩

/-- The first entry's block is turned. -/
theorem Sat.set {g : World} {L : List Ent} {w w' : World} {b : Nat} {o o' : Obj} (h : Sat g ((b, o) :: L) w) (hos : w'.os = w.os) (ht : w'.tape = w.tape) (hout : w'.output = w.output)
    (hs : w'.heap.size = w.heap.size) (hb : w'.heap[b]? = some o') (hr : ∀ k, k ≠ b → w'.heap[k]? = w.heap[k]?) : Sat g ((b, o') :: L) w' := by
  refine ⟨hos.trans h.os, ht.trans h.tape, hout.trans h.output, hs ▸ h.size, h.nodup, ?_⟩
  intro e he
  rcases List.mem_cons.1 he with rfl | he
  · exact hb
  · have hne : e.1 ≠ b := by
      intro e1
      have := h.nodup
      simp only [List.map_cons, List.nodup_cons] at this
      exact this.1 (e1 ▸ List.mem_map_of_mem he)
    rw [hr _ hne]; exact h.has e (List.mem_cons_of_mem _ he)

/-! ### Functions -/
def Enters (P : Program) (f : FuncId) : Prop := ∀ args w, (callFunc f args).run P w = .ok (.enter f args) w

structure Tri (P : Program) (f : FuncId) (args : List Value) (L : List Ent) (R : Value → List Ent → Prop) : Prop where
  enters : Enters P f
  calls : ∀ g w, Sat g L w → Calls P f args.toArray w (fun e w' => ∃ v L', e = .returned v ∧ Sat g L' w' ∧ R v L')

/-- It only reads (or makes what is dropped), and hands back v. -/
def RO (P : Program) (f : FuncId) (args : List Value) (L : List Ent) (v : Value) : Prop := Tri P f args L (fun u L' => u = v ∧ L' = L)

theorem Tri.mono {P : Program} {f : FuncId} {args : List Value} {L : List Ent} {R R' : Value → List Ent → Prop} (h : Tri P f args L R) (hr : ∀ v L', R v L' → R' v L') : Tri P f args L R' :=
  ⟨h.enters, fun g w hs => (h.calls g w hs).mono fun _ _ ⟨v, L', e, s, r⟩ => ⟨v, L', e, s, hr _ _ r⟩⟩
theorem Tri.pre {P : Program} {f : FuncId} {args : List Value} {L M : List Ent} {R : Value → List Ent → Prop} (h : Tri P f args M R) (hs : LSub L M) : Tri P f args L R :=
  ⟨h.enters, fun g w s => h.calls g w (hs g w s)⟩
theorem Tri.perm {P : Program} {f : FuncId} {args : List Value} {L M : List Ent} {R : Value → List Ent → Prop} (h : Tri P f args M R) (hp : L.Perm M) : Tri P f args L R := h.pre (.perm hp)

/-! ### Code -/
def WC (P : Program) (n : Nat) (c : Code) (Q : Exit → Env → List Ent → Prop) (env : Env) (L : List Ent) : Prop :=
  ∀ g a w, Agree n env a → Sat g L w → c.wp P (fun e a' w' => ∃ env' L', Agree n env' a' ∧ Sat g L' w' ∧ Q e env' L') a w

def seqQ (P : Program) (n : Nat) (c : Code) (Q : Exit → Env → List Ent → Prop) : Exit → Env → List Ent → Prop
  | .normal, env, L => WC P n c Q env L
  | e, env, L => Q e env L
def blockQ (id : Nat) (Q : Exit → Env → List Ent → Prop) : Exit → Env → List Ent → Prop
  | .exit i, env, L => if i = id then Q .normal env L else Q (.exit i) env L
  | e, env, L => Q e env L

theorem WC_seq {P : Program} {n : Nat} {c d : Code} {Q : Exit → Env → List Ent → Prop} {env : Env} {L : List Ent} (h : WC P n c (seqQ P n d Q) env L) : WC P n (.seq c d) Q env L :=
  fun g a w ha hs => wp_seq (wp_mono (h g a w ha hs) fun e a' w' ⟨env', L', ha', hs', hq⟩ => by
    cases e with
    | normal => exact hq g a' w' ha' hs'
    | _ => exact ⟨env', L', ha', hs', hq⟩)
theorem WC_block {P : Program} {n id : Nat} {c : Code} {Q : Exit → Env → List Ent → Prop} {env : Env} {L : List Ent} (h : WC P n c (blockQ id Q) env L) : WC P n (.block id c) Q env L :=
  fun g a w ha hs => wp_block (wp_mono (h g a w ha hs) fun e a' w' ⟨env', L', ha', hs', hq⟩ => by
    cases e with
    | exit i =>
      simp only [Exit.inBlock]
      simp only [blockQ] at hq
      split
      · rename_i hi; rw [if_pos hi] at hq; exact ⟨env', L', ha', hs', hq⟩
      · rename_i hi; rw [if_neg hi] at hq; exact ⟨env', L', ha', hs', hq⟩
    | _ => exact ⟨env', L', ha', hs', hq⟩)
theorem WC_skip {P : Program} {n : Nat} {Q : Exit → Env → List Ent → Prop} {env : Env} {L : List Ent} (h : Q .normal env L) : WC P n .skip Q env L :=
  fun g a w ha hs => wp_skip ⟨env, L, ha, hs, h⟩
theorem WC_exit {P : Program} {n id : Nat} {Q : Exit → Env → List Ent → Prop} {env : Env} {L : List Ent} (h : Q (.exit id) env L) : WC P n (.exit id) Q env L :=
  fun g a w ha hs => wp_exit ⟨env, L, ha, hs, h⟩
theorem WC_ret {P : Program} {n : Nat} {Q : Exit → Env → List Ent → Prop} {env : Env} {L : List Ent} (h : Q .ret env L) : WC P n .ret Q env L :=
  fun g a w ha hs => wp_ret ⟨env, L, ha, hs, h⟩
theorem WC_cond {P : Program} {n : Nat} {c : Operand} {x y : Code} {b : Bool} {Q : Exit → Env → List Ent → Prop} {env : Env} {L : List Ent} (hc : ev env c = some (.bool b))
    (ht : b = true → WC P n x Q env L) (hf : b = false → WC P n y Q env L) : WC P n (.cond c x y) Q env L :=
  fun g a w ha hs => wp_cond_split (ha.ev hc) (fun e => ht e g a w ha hs) (fun e => hf e g a w ha hs)
theorem WC_true {P : Program} {n : Nat} {c : Operand} {x y : Code} {Q : Exit → Env → List Ent → Prop} {env : Env} {L : List Ent} (hc : ev env c = some (.bool true))
    (ht : WC P n x Q env L) : WC P n (.cond c x y) Q env L := WC_cond hc (fun _ => ht) (fun e => by cases e)
theorem WC_false {P : Program} {n : Nat} {c : Operand} {x y : Code} {Q : Exit → Env → List Ent → Prop} {env : Env} {L : List Ent} (hc : ev env c = some (.bool false))
    (hf : WC P n y Q env L) : WC P n (.cond c x y) Q env L := WC_cond hc (fun e => by cases e) (fun _ => hf)
theorem WC_mono {P : Program} {n : Nat} {c : Code} {Q Q' : Exit → Env → List Ent → Prop} {env : Env} {L : List Ent} (h : WC P n c Q env L) (hq : ∀ e env' L', Q e env' L' → Q' e env' L') : WC P n c Q' env L :=
  fun g a w ha hs => wp_mono (h g a w ha hs) fun e a' w' ⟨env', L', ha', hs', q⟩ => ⟨env', L', ha', hs', hq _ _ _ q⟩

/-! ### Weaker lists of temporaries -/
def SubE (env : Env) : Env → Prop
  | [] => True
  | (t, v) :: r => lk env t = some v ∧ SubE env r
theorem SubE.get {env : Env} : ∀ {E : Env}, SubE env E → ∀ t v, lk E t = some v → lk env t = some v
  | [], _, t, v, h => by cases h
  | (k, u) :: r, ⟨h1, h2⟩, t, v, h => by
    simp only [lk] at h
    cases hb : Nat.beq k t with
    | true =>
      rw [hb] at h
      obtain rfl := Nat.eq_of_beq_eq_true hb
      obtain rfl := Option.some.inj h
      exact h1
    | false => rw [hb] at h; exact SubE.get h2 t v h
theorem SubE.agree {n : Nat} {env E : Env} {a : Act} (h : SubE env E) (ha : Agree n env a) : Agree n E a := ⟨ha.size, ha.defers, fun t v hv => ha.get t v (h.get t v hv)⟩

theorem WC_weak {P : Program} {n : Nat} {c : Code} {Q : Exit → Env → List Ent → Prop} {env E : Env} {L M : List Ent} (he : SubE env E) (hl : LSub L M) (h : WC P n c Q E M) : WC P n c Q env L :=
  fun g a w ha hs => h g a w (he.agree ha) (hl g w hs)

/-! ### A loop: Inv m env L: m rounds at most are to come -/
def LoopEnd (Inv : Nat → Env → List Ent → Prop) (m : Nat) (env : Env) (L : List Ent) : Prop :=
  ∃ m' E M, m' < m ∧ SubE env E ∧ LSub L M ∧ Inv m' E M
def loopQ (Inv : Nat → Env → List Ent → Prop) (m : Nat) (Q : Exit → Env → List Ent → Prop) : Exit → Env → List Ent → Prop
  | .normal, env, L => LoopEnd Inv m env L
  | e, env, L => Q e env L

theorem least_of (p : Nat → Prop) (h : ∃ m, p m) : ∃ m, p m ∧ ∀ m', p m' → m ≤ m' := by
  obtain ⟨m, hm⟩ := h
  induction m using Nat.strongRecOn with
  | _ m ih =>
    by_cases hh : ∃ m', p m' ∧ m' < m
    · obtain ⟨m', h1, h2⟩ := hh; exact ih m' h2 h1
    · exact ⟨m, hm, fun m' h1 => Nat.le_of_not_lt fun h2 => hh ⟨m', h1, h2⟩⟩
noncomputable def mu (p : Nat → Prop) : Nat := @dite _ (∃ m, p m) (Classical.propDecidable _) (fun h => Classical.choose (least_of p h)) (fun _ => 0)
theorem mu_spec {p : Nat → Prop} (h : ∃ m, p m) : p (mu p) ∧ ∀ m', p m' → mu p ≤ m' := by
  unfold mu; rw [dif_pos h]; exact Classical.choose_spec (least_of p h)

theorem WC_loop {P : Program} {n : Nat} {c : Code} {Q : Exit → Env → List Ent → Prop} {env E : Env} {L M : List Ent} (Inv : Nat → Env → List Ent → Prop) (m : Nat)
    (he : SubE env E) (hl : LSub L M) (h0 : Inv m E M)
    (round : ∀ m env L, Inv m env L → WC P n c (loopQ Inv m Q) env L) : WC P n (.loop c) Q env L := by
  intro g a w ha hs
  refine wp_loop (fun a w => ∃ m E M, Agree n E a ∧ Sat g M w ∧ Inv m E M) (fun a w => mu fun m => ∃ E M, Agree n E a ∧ Sat g M w ∧ Inv m E M) ⟨m, E, M, he.agree ha, hl g w hs, h0⟩ ?_
  intro a w hI
  obtain ⟨⟨E, M, hA, hS, hInv⟩, hleast⟩ := mu_spec hI
  refine wp_mono (round _ E M hInv g a w hA hS) fun e a' w' ⟨env', L', ha', hs', hq⟩ => ?_
  cases e with
  | normal =>
    obtain ⟨m', E', M', hlt, hsub, hls, hi'⟩ := hq
    have hI' : ∃ m E M, Agree n E a' ∧ Sat g M w' ∧ Inv m E M := ⟨m', E', M', hsub.agree ha', hls g w' hs', hi'⟩
    exact ⟨hI', Nat.lt_of_le_of_lt ((mu_spec hI').2 m' ⟨E', M', hsub.agree ha', hls g w' hs', hi'⟩) hlt⟩
  | _ => exact ⟨env', L', ha', hs', hq⟩

/-! ### Entering and leaving -/
def packR : List Value → Value
  | [v] => v
  | vs => .tuple vs.toArray

end Go.Proofs.YtoledfhjmdpihaaGreat.VE
/- Operations and regions: in the text's order, and in whatever order. Generic over the program. -/
set_option linter.unusedVariables false
set_option linter.unusedSimpArgs false
namespace Go.Proofs.YtoledfhjmdpihaaGreat.VE
open Go

/-- It yields v in every world that has L, and turns nothing. -/
def Val (P : Program) (n : Nat) (env : Env) (L : List Ent) (o : Oper) (v : Value) : Prop :=
  ∀ a w, Agree n env a → Has L w → (execOp a.eval o).run P w = .ok (.value v) w

/-- What it leaves. -/
def Op1 (P : Program) (n : Nat) (o : Oper) (env : Env) (L : List Ent) (K : Env → List Ent → Prop) : Prop :=
  ∀ g a w (next : Act → World → Prop) (Q : Exit → Act → World → Prop), Agree n env a → Sat g L w →
    (∀ v env' L' w', Agree n env' (a.put o.dst v) → Sat g L' w' → K env' L' → next (a.put o.dst v) w') → o.wp P a w next Q

theorem Op1.of_val {P : Program} {n : Nat} {o : Oper} {env : Env} {L : List Ent} {K : Env → List Ent → Prop} {v : Value} (hv : Val P n env L o v) (hd : dstOk n o.dst = true)
    (h : K (putE o.dst v env) L) : Op1 P n o env L K := fun g a w next Q ha hs hk => by
  unfold Oper.wp
  rw [hv a w ha hs.Has]
  exact hk v _ L w (ha.put hd v) hs h

def WO (P : Program) (n : Nat) (ops : Array Oper) (l : List Oper) (Q : Env → List Ent → Prop) (env : Env) (L : List Ent) : Prop :=
  ∀ g a w, Agree n env a → Sat g L w → wpList P ops (fun e a' w' => e = .normal ∧ ∃ env' L', Agree n env' a' ∧ Sat g L' w' ∧ Q env' L') l a w

theorem WC_region {P : Program} {n id : Nat} {l : List Oper} {Q : Exit → Env → List Ent → Prop} {env : Env} {L : List Ent} (h : WO P n l.toArray l (fun e M => Q .normal e M) env L) : WC P n (.region id l.toArray false) Q env L :=
  fun g a w ha hs => wp_mono (wp_region_lit (h g a w ha hs)) fun e a' w' ⟨he, env', L', h1, h2, h3⟩ => ⟨env', L', h1, h2, he ▸ h3⟩

theorem WO_nil {P : Program} {n : Nat} {ops : Array Oper} {Q : Env → List Ent → Prop} {env : Env} {L : List Ent} (h : Q env L) : WO P n ops [] Q env L :=
  fun g a w ha hs => wpList_nil ⟨rfl, env, L, ha, hs, h⟩

/-- 'some true': it runs; 'some false': it is left out (what it waits for left false, or was left out itself); else unknown. -/
def wantE (ops : Array Oper) (env : Env) (g : Option (Nat × Bool)) : Option Bool :=
  match g with
  | none => some true
  | some (j, want) => match ((ops[j]?).bind (·.dst)).bind (lk env) with
    | some (.bool b) => some (b == want)
    | some (.tuple _) => some false
    | _ => none
theorem wantE_spec {n : Nat} {ops : Array Oper} {env : Env} {a : Act} (ha : Agree n env a) {o : Oper} {b : Bool} (h : wantE ops env o.guard = some b) : Region.wanted o (yielded ops a.tmps) = b := by
  unfold wantE at h
  unfold Region.wanted
  cases hg : o.guard with
  | none => rw [hg] at h; exact Option.some.inj h
  | some jw =>
    obtain ⟨j, want⟩ := jw
    rw [hg] at h
    simp only at h ⊢
    unfold yielded
    cases hd : (ops[j]?).bind (·.dst) with
    | none => rw [hd] at h; simp at h
    | some t =>
      rw [hd] at h
      simp only [Option.bind_some] at h ⊢
      cases hl : lk env t with
      | none => rw [hl] at h; simp at h
      | some v =>
        rw [hl] at h
        rw [ha.get t v hl]
        cases v <;> simp at h ⊢ <;> exact h

theorem WO_op {P : Program} {n : Nat} {ops : Array Oper} {o : Oper} {l : List Oper} {Q : Env → List Ent → Prop} {env : Env} {L : List Ent} (hg : wantE ops env o.guard = some true)
    (h : Op1 P n o env L (WO P n ops l Q)) : WO P n ops (o :: l) Q env L := fun g a w ha hs => by
  unfold wpList
  rw [if_pos (wantE_spec ha hg)]
  exact .inl (h g a w _ _ ha hs fun v env' L' w' h1 h2 h3 => h3 g _ w' h1 h2)
theorem WO_left {P : Program} {n d : Nat} {op : Op} {t : TypeId} {pos : String} {after : Array Edge} {gd : Option (Nat × Bool)} {ops : Array Oper} {l : List Oper} {Q : Env → List Ent → Prop} {env : Env} {L : List Ent} (hg : wantE ops env gd = some false) (hd : Nat.blt d n = true)
    (h : WO P n ops l Q ((d, undef) :: env) L) : WO P n ops (⟨some d, op, t, pos, after, gd⟩ :: l) Q env L := fun g a w ha hs => by
  unfold wpList
  rw [if_neg (by rw [wantE_spec (o := ⟨some d, op, t, pos, after, gd⟩) ha hg]; simp)]
  exact h g _ w (ha.put (d := some d) hd undef) hs
theorem WO_val {P : Program} {n d : Nat} {op : Op} {t : TypeId} {pos : String} {after : Array Edge} {gd : Option (Nat × Bool)} {ops : Array Oper} {l : List Oper} {Q : Env → List Ent → Prop} {env : Env} {L : List Ent} {v : Value} (hg : wantE ops env gd = some true) (hd : Nat.blt d n = true) (hv : Val P n env L ⟨some d, op, t, pos, after, gd⟩ v)
    (h : WO P n ops l Q ((d, v) :: env) L) : WO P n ops (⟨some d, op, t, pos, after, gd⟩ :: l) Q env L := WO_op hg (Op1.of_val hv hd h)

/-! ### A region that draws its order -/
section
variable {P : Program} {ops : Array Oper} {Q : Exit → Act → World → Prop} {S : World → Prop}

/-- j waits for k: by an edge, or by up to six edges. -/
def waitsN (ops : Array Oper) : Nat → Nat → Nat → Bool
  | 0, _, _ => false
  | n + 1, j, k => match ops[j]? with
    | some o => o.after.any fun e => Region.binds .any e && (e.on == k || (Nat.blt k e.on && waitsN ops n e.on k))
    | none => false
def waits (ops : Array Oper) (j k : Nat) : Bool := waitsN ops 6 j k
/-- What has come up waited for nothing that has not. -/
def Closed (ops : Array Oper) (listed : Array Bool) : Prop := ∀ (j : Nat) o, ops[j]? = some o → listed.getD j false = true → ∀ e ∈ o.after, Region.binds .any e = true → listed.getD e.on false = true
theorem closed_begin (ops : Array Oper) : Closed ops (Array.replicate ops.size false) := fun j o ho h => by
  exfalso
  have hlt := (Array.getElem?_eq_some_iff.1 ho).1
  simp [hlt] at h
theorem Closed.set {listed : Array Bool} (hc : Closed ops listed) {j : Nat} (hj : j ∈ Region.ready .any ops listed) : Closed ops (listed.setIfInBounds j true) := fun k o hk hl e he hb => by
  by_cases hkj : j = k
  · subst hkj
    obtain ⟨_, o', ho', hall⟩ := mem_ready.1 hj
    rw [hk] at ho'
    cases ho'
    exact getD_set_true (hall e he hb)
  · rw [getD_set_ne false hkj] at hl
    exact getD_set_true (hc k o hk hl e he hb)
theorem waitsN_no {listed : Array Bool} {i : Nat} (hc : Closed ops listed) (hi : listed.getD i true = false) : ∀ (n j : Nat), (∀ o, ops[j]? = some o → ∀ e ∈ o.after, Region.binds .any e = true → listed.getD e.on false = true) → waitsN ops n j i = false
  | 0, _, _ => rfl
  | n + 1, j, h => by
    unfold waitsN
    cases ho : ops[j]? with
    | none => rfl
    | some o =>
      apply Bool.eq_false_iff.2
      intro hh
      obtain ⟨e, he, hb⟩ := Array.any_eq_true'.1 hh
      simp only [Bool.and_eq_true, Bool.or_eq_true, beq_iff_eq] at hb
      have hl := h o ho e he hb.1
      rcases hb.2 with hk | hk
      · rw [hk] at hl
        rcases Nat.lt_or_ge i listed.size with h' | h'
        · simp [h'] at hi hl; rw [hi] at hl; cases hl
        · simp [Array.getElem?_eq_none h'] at hl
      · have h2 := waitsN_no hc hi n e.on (fun o' ho' e' he' hb' => hc e.on o' ho' hl e' he' hb')
        rw [h2] at hk; cases hk.2

/-- Whatever order is picked; S holds behind each operation, as long as there is one that was taken and for which nobody who waits for it has come up. -/
def wpT (P : Program) (ops : Array Oper) (Q : Exit → Act → World → Prop) (S : World → Prop) : List Nat → Nat → Array Bool → Act → World → Prop
  | _, 0, listed, a, w => Region.ready .any ops listed = [] ∧ Q .normal a w
  | taken, fuel + 1, listed, a, w => Closed ops listed →
    (Region.ready .any ops listed = [] → Q .normal a w) ∧
    ∀ j ∈ Region.ready .any ops listed, wpOp P ops Q j (fun a' w' => (taken.filter (fun k => !waits ops j k) ≠ [] → S w') ∧
      wpT P ops Q S (taken.filter fun k => !waits ops j k) fuel (listed.setIfInBounds j true) a' w') a w

theorem wpAny_of_wpT : ∀ (fuel : Nat) (taken : List Nat) (listed : Array Bool) (a : Act) (w : World), Closed ops listed → wpT P ops Q S taken fuel listed a w → wpAny P .any ops Q fuel listed a w
  | 0, _, _, _, _, _, h => h
  | fuel + 1, _, _, _, _, hc, h => ⟨(h hc).1, fun i hi => wpOp_mono (fun a' w' h' => wpAny_of_wpT fuel _ _ a' w' (hc.set hi) h'.2) ((h hc).2 i hi)⟩

theorem wpT_less : ∀ (fuel : Nat) (taken taken' : List Nat) (listed : Array Bool) (a : Act) (w : World), (∀ k ∈ taken', k ∈ taken) → wpT P ops Q S taken fuel listed a w → wpT P ops Q S taken' fuel listed a w
  | 0, _, _, _, _, _, _, h => h
  | fuel + 1, taken, taken', _, _, _, hs, h => fun hc => ⟨(h hc).1, fun i hi => wpOp_mono (fun a' w' h' => by
      have hs' : ∀ k ∈ taken'.filter (fun k => !waits ops i k), k ∈ taken.filter (fun k => !waits ops i k) := fun k hk => by
        rw [List.mem_filter] at *; exact ⟨hs k hk.1, hk.2⟩
      refine ⟨fun hne => h'.1 fun he => hne ?_, wpT_less fuel _ _ _ a' w' hs' h'.2⟩
      exact List.eq_nil_iff_forall_not_mem.2 fun k hk => by have := hs' k hk; rw [he] at this; cases this) ((h hc).2 i hi)⟩

theorem wpT_first {i : Nat} {oi : Oper} {v : Value} {S' : World → Prop} (hi : ops[i]? = some oi) (hsel : ∀ (j : Nat) (o : Oper) cs b, ops[j]? = some o → o.op ≠ .select cs b)
    (hQ : ∀ c a w, Q (.panic c) (a.put oi.dst v) w → Q (.panic c) a w) :
    ∀ (fuel : Nat) (taken taken' : List Nat) (listed : Array Bool) (a : Act) (w : World), (∀ k ∈ taken, k ∈ taken') → ((∀ w, S' w) ∨ (i ∈ taken' ∧ ∀ w, S w → S' w)) →
      (∀ j oj, ops[j]? = some oj → j ≠ i → listed.getD j true = false → (∀ e ∈ oj.after, Region.binds .any e = true → e.on ≠ i) → oi.apart ops oj = true) →
      i ∈ Region.ready .any ops listed → YieldsIf P ops S' oi v a → S' w → (taken ≠ [] → S w) →
      wpT P ops Q S taken' fuel (listed.setIfInBounds i true) (a.put oi.dst v) w → wpT P ops Q S taken (fuel + 1) listed a w := by
  intro fuel
  induction fuel with
  | zero =>
    intro taken taken' listed a w hsub hS' _ hr hy hS hSw H
    refine fun hc => ⟨fun h => (by rw [h] at hr; cases hr), fun j hj => ?_⟩
    by_cases hji : j = i
    · subst hji; exact hy.wpOp hi hS ⟨fun hne => hSw fun he => hne (by rw [he]; rfl), H⟩
    · have := ready_mono hj hji
      rw [H.1] at this
      cases this
  | succ fuel ih =>
    intro taken taken' listed a w hsub hS' hfree hr hy hS hSw H
    refine fun hc => ⟨fun h => (by rw [h] at hr; cases hr), fun j hj => ?_⟩
    by_cases hji : j = i
    · subst hji
      refine hy.wpOp hi hS ⟨fun hne => hSw fun he => hne (by rw [he]; rfl), wpT_less _ _ _ _ _ _ (fun k hk => hsub k (List.mem_filter.1 hk).1) H⟩
    · have h1 := (H (hc.set hr)).2 j (ready_mono hj hji)
      obtain ⟨hjun, oj, hoj, hall⟩ := mem_ready.1 hj
      have hnot : ∀ e ∈ oj.after, Region.binds .any e = true → e.on ≠ i := fun e he hb heq => by
        have h1 := hall e he hb
        have h0 := (mem_ready.1 hr).1
        rw [heq] at h1
        rcases Nat.lt_or_ge i listed.size with h' | h'
        · simp [h'] at h0 h1; rw [h0] at h1; cases h1
        · simp [Array.getElem?_eq_none h'] at h1
      have hwait : waits ops j i = false := waitsN_no hc (mem_ready.1 hr).1 6 j (fun o ho e he hb => by
        rw [hoj] at ho
        cases ho
        exact hall e he hb)
      have h2 := wpOp_putIf hoj (hfree j oj hoj hji hjun hnot) (fun cs b => hsel i oi cs b hi) (fun cs b => hsel j oj cs b hoj) hQ hy h1
      have hfree' : ∀ k ok, ops[k]? = some ok → k ≠ i → (listed.setIfInBounds j true).getD k true = false →
          (∀ e ∈ ok.after, Region.binds .any e = true → e.on ≠ i) → oi.apart ops ok = true := fun k ok hk hki hun hno => by
        refine hfree k ok hk hki ?_ hno
        by_cases hjk : j = k
        · subst hjk; exact hjun
        · rw [getD_set_ne true hjk] at hun; exact hun
      refine wpOp_mono (fun a' w' h3 => ?_) h2
      obtain ⟨hy', hs3, h3⟩ := h3
      rw [Array.setIfInBounds_comm _ _ (Ne.symm hji)] at h3
      have hsub' : ∀ k ∈ taken.filter (fun k => !waits ops j k), k ∈ taken'.filter (fun k => !waits ops j k) := fun k hk => by
        rw [List.mem_filter] at *; exact ⟨hsub k hk.1, hk.2⟩
      have hne' : taken.filter (fun k => !waits ops j k) ≠ [] → S w' := fun hne => hs3 fun he => hne (List.eq_nil_iff_forall_not_mem.2 fun k hk => by have := hsub' k hk; rw [he] at this; cases this)
      refine ⟨hne', ?_⟩
      rcases hS' with hall' | ⟨himem, himp⟩
      · exact ih _ _ (listed.setIfInBounds j true) a' w' hsub' (.inl hall') hfree' (ready_mono hr (Ne.symm hji)) hy' (hall' w') hne' h3
      · have him : i ∈ taken'.filter (fun k => !waits ops j k) := List.mem_filter.2 ⟨himem, by rw [hwait]; rfl⟩
        have hSw' : S w' := hs3 fun he => by rw [he] at him; cases him
        exact ih _ _ (listed.setIfInBounds j true) a' w' hsub' (.inr ⟨him, himp⟩) hfree' (ready_mono hr (Ne.symm hji)) hy' (himp w' hSw') hne' h3
end

/-- An order in which a region may be walked: 'st number kind ..'. 0: taken ahead, whatever the world; 1: taken ahead, it reads; 2: it may come up, what was read must stay; 3: it may come up, all that was read has come up. 'alt': several may come up. -/
inductive Run where
  | done
  | st (i k : Nat) (r : Run)
  | alt (a b : Run)
def Run.heads : Run → List Nat
  | .done => []
  | .st i _ _ => [i]
  | .alt a b => a.heads ++ b.heads
def Run.len : Run → Nat
  | .done => 0
  | .st _ _ r => r.len + 1
  | .alt a _ => a.len
def runOK (ops : Array Oper) : Run → Bool → List Nat → Array Bool → Bool
  | .done, _, _, listed => (Region.ready .any ops listed).isEmpty
  | .st i k r, inAlt, taken, listed => match k with
    | 0 => !inAlt && (Region.ready .any ops listed).contains i && Region.free .any ops listed i && runOK ops r false taken (listed.setIfInBounds i true)
    | 1 => !inAlt && (Region.ready .any ops listed).contains i && Region.free .any ops listed i && runOK ops r false (i :: taken) (listed.setIfInBounds i true)
    | 2 => (inAlt || (Region.ready .any ops listed) == [i]) && runOK ops r false (taken.filter fun k => !waits ops i k) (listed.setIfInBounds i true)
    | 3 => (inAlt || (Region.ready .any ops listed) == [i]) && (taken.filter fun k => !waits ops i k).isEmpty && runOK ops r false [] (listed.setIfInBounds i true)
    | _ => false
  | .alt a b, inAlt, taken, listed => (inAlt || (Region.ready .any ops listed) == a.heads ++ b.heads) && (a.len == b.len) && !(a.len == 0) && runOK ops a true taken listed && runOK ops b true taken listed

/-- The walk in that order; M: what the loads read. -/
def WR (P : Program) (n : Nat) (ops : Array Oper) (M : List Ent) (r : Run) (Q : Env → List Ent → Prop) (env : Env) (L : List Ent) : Prop :=
  Region.noSelect ops = true → ∀ taken listed, runOK ops r false taken listed = true → ∀ g a w, Agree n env a → Sat g L w → (taken ≠ [] → Has M w) →
    wpT P ops (fun e a' w' => e = .normal ∧ ∃ env' L', Agree n env' a' ∧ Sat g L' w' ∧ Q env' L') (Has M) taken r.len listed a w
/-- One of several comes up. -/
def WA (P : Program) (n : Nat) (ops : Array Oper) (M : List Ent) (r : Run) (Q : Env → List Ent → Prop) (env : Env) (L : List Ent) : Prop :=
  Region.noSelect ops = true → ∀ taken listed, runOK ops r true taken listed = true → ∀ g a w, Agree n env a → Sat g L w → (taken ≠ [] → Has M w) →
    ∀ fuel, r.len = fuel + 1 → ∀ j ∈ r.heads, wpOp P ops (fun e a' w' => e = .normal ∧ ∃ env' L', Agree n env' a' ∧ Sat g L' w' ∧ Q env' L') j (fun a' w' => (taken.filter (fun k => !waits ops j k) ≠ [] → Has M w') ∧
      wpT P ops (fun e a' w' => e = .normal ∧ ∃ env' L', Agree n env' a' ∧ Sat g L' w' ∧ Q env' L') (Has M) (taken.filter fun k => !waits ops j k) fuel (listed.setIfInBounds j true) a' w') a w

/-- Parts of a code, by the way that leads there. -/
def codeOf (f : Func) : Code := match f.body with | some c => c | none => .skip
def cl : Code → Code | .seq a _ => a | .cond _ a _ => a | .block _ a => a | .loop a => a | c => c
def cr : Code → Code | .seq _ b => b | .cond _ _ b => b | c => c
def cops : Code → Array Oper | .region _ o _ => o | _ => #[]
theorem WC_draw {P : Program} {n id : Nat} {ops : Array Oper} {Q : Exit → Env → List Ent → Prop} {env : Env} {L : List Ent} (M : List Ent) (r : Run)
    (hok : (runOK ops r false [] (Array.replicate ops.size false) && Region.noSelect ops && r.len == ops.size) = true) (hm : P.follows .mixedOrders = true)
    (h : WR P n ops M r (fun e M => Q .normal e M) env L) : WC P n (.region id ops true) Q env L := fun g a w ha hs => by
  simp only [Bool.and_eq_true, beq_iff_eq] at hok
  have := h hok.1.2 [] _ hok.1.1 g a _ ha (hs.drew (w.drawn + 1)) (fun h => absurd rfl h)
  rw [hok.2] at this
  refine wp_mono (wp_region_any (id := id) hm (wpAny_of_wpT _ _ _ _ _ (closed_begin ops) this)) fun e a' w' ⟨he, env', L', h1, h2, h3⟩ => ⟨env', L', h1, h2, he ▸ h3⟩
theorem WC_drawL {P : Program} {n id : Nat} {ops : Array Oper} {Q : Exit → Env → List Ent → Prop} {env : Env} {L : List Ent} (r : Run)
    (hok : (runOK ops r false [] (Array.replicate ops.size false) && Region.noSelect ops && r.len == ops.size) = true) (hm : P.follows .mixedOrders = true)
    (h : WR P n ops L r (fun e M => Q .normal e M) env L) : WC P n (.region id ops true) Q env L := WC_draw L r hok hm h

theorem WR_nil {P : Program} {n : Nat} {ops : Array Oper} {M : List Ent} {Q : Env → List Ent → Prop} {env : Env} {L : List Ent} (h : Q env L) : WR P n ops M .done Q env L :=
  fun _ taken listed hok g a w ha hs _ => ⟨by simpa [runOK] using hok, rfl, env, L, ha, hs, h⟩

section
variable {P : Program} {n i k : Nat} {ops : Array Oper} {o : Oper} {M : List Ent} {r r' : Run} {Q : Env → List Ent → Prop} {env : Env} {L : List Ent} {v : Value} {d : Nat} {op : Op} {t : TypeId} {pos : String} {after : Array Edge} {gd : Option (Nat × Bool)}

theorem Val.yields {S : World → Prop} {a : Act} (hv : Val P n env M o v) (hg : wantE ops env o.guard = some true) (ha : Agree n env a) (hS : ∀ w, S w → Has M w) : YieldsIf P ops S o v a :=
  .inl ⟨wantE_spec ha hg, fun w hw => hv a w ha (hS w hw)⟩

theorem WR_pure0 (ho : ops[i]? = some o) (hv : Val P n env [] o v) (hg : wantE ops env o.guard = some true) (hd : dstOk n o.dst = true) (h : WR P n ops M r Q (putE o.dst v env) L) : WR P n ops M (.st i 0 r) Q env L := by
  intro hsel taken listed hok g a w ha hs hM
  simp only [runOK, Bool.and_eq_true, List.contains_iff_mem] at hok
  refine wpT_first (S' := fun _ => True) ho (Region.noSelect_spec hsel) (fun c a w hq => by cases hq.1) _ taken taken listed a w (fun _ h => h) (.inl fun _ => trivial)
    (Region.free_spec ho hok.1.2) hok.1.1.2 (hv.yields hg ha (fun w _ e he => by cases he)) trivial hM ?_
  exact h hsel taken _ hok.2 g _ w (ha.put hd v) hs hM
theorem WR_load0 (ho : ops[i]? = some o) (hv : Val P n env M o v) (hML : ∀ e ∈ M, e ∈ L) (hg : wantE ops env o.guard = some true) (hd : dstOk n o.dst = true) (h : WR P n ops M r Q (putE o.dst v env) L) : WR P n ops M (.st i 1 r) Q env L := by
  intro hsel taken listed hok g a w ha hs hM
  simp only [runOK, Bool.and_eq_true, List.contains_iff_mem] at hok
  have hMw : Has M w := hs.Has.sub hML
  refine wpT_first (S' := Has M) ho (Region.noSelect_spec hsel) (fun c a w hq => by cases hq.1) _ taken (i :: taken) listed a w (fun k hk => List.mem_cons_of_mem _ hk) (.inr ⟨List.mem_cons_self, fun _ h => h⟩)
    (Region.free_spec ho hok.1.2) hok.1.1.2 (hv.yields hg ha (fun w h => h)) hMw (fun _ => hMw) ?_
  exact h hsel _ _ hok.2 g _ w (ha.put hd v) hs (fun _ => hMw)
theorem WR_left0 (ho : ops[i]? = some o) (hg : wantE ops env o.guard = some false) (hd : dstOk n o.dst = true) (h : WR P n ops M r Q (putE o.dst undef env) L) : WR P n ops M (.st i 0 r) Q env L := by
  intro hsel taken listed hok g a w ha hs hM
  simp only [runOK, Bool.and_eq_true, List.contains_iff_mem] at hok
  refine wpT_first (S' := fun _ => True) (v := undef) ho (Region.noSelect_spec hsel) (fun c a w hq => by cases hq.1) _ taken taken listed a w (fun _ h => h) (.inl fun _ => trivial)
    (Region.free_spec ho hok.1.2) hok.1.1.2 (.inr ⟨wantE_spec ha hg, rfl⟩) trivial hM ?_
  exact h hsel taken _ hok.2 g _ w (ha.put hd undef) hs hM
theorem WR_left10 (ho : ops[i]? = some o) (hg : wantE ops env o.guard = some false) (hd : dstOk n o.dst = true) (hML : ∀ e ∈ M, e ∈ L) (h : WR P n ops M r Q (putE o.dst undef env) L) : WR P n ops M (.st i 1 r) Q env L := by
  intro hsel taken listed hok g a w ha hs hM
  simp only [runOK, Bool.and_eq_true, List.contains_iff_mem] at hok
  have hMw : Has M w := hs.Has.sub hML
  refine wpT_first (S' := Has M) (v := undef) ho (Region.noSelect_spec hsel) (fun c a w hq => by cases hq.1) _ taken (i :: taken) listed a w (fun k hk => List.mem_cons_of_mem _ hk) (.inr ⟨List.mem_cons_self, fun _ h => h⟩)
    (Region.free_spec ho hok.1.2) hok.1.1.2 (.inr ⟨wantE_spec ha hg, rfl⟩) hMw (fun _ => hMw) ?_
  exact h hsel _ _ hok.2 g _ w (ha.put hd undef) hs (fun _ => hMw)

/-! What may come up: alone, or beside others -/
theorem WR_of_one (hk : ∀ taken listed, runOK ops (.st i k r) false taken listed = true → runOK ops (.st i k r) true taken listed = true ∧ Region.ready .any ops listed = [i]) (h : WA P n ops M (.st i k r) Q env L) : WR P n ops M (.st i k r) Q env L := by
  intro hsel taken listed hok g a w ha hs hM
  obtain ⟨h1, h2⟩ := hk taken listed hok
  refine fun _ => ⟨fun h0 => (by rw [h0] at h2; cases h2), fun j hj => ?_⟩
  rw [h2] at hj
  exact h hsel taken listed h1 g a w ha hs hM _ rfl j hj

theorem WA_keep (ho : ops[i]? = some o) (hg : wantE ops env o.guard = some true) (h : Op1 P n o env L (fun env' L' => (∀ e ∈ M, e ∈ L') ∧ WR P n ops M r Q env' L')) : WA P n ops M (.st i 2 r) Q env L := by
  intro hsel taken listed hok g a w ha hs hM fuel hf j hj
  simp only [runOK, Bool.and_eq_true, Bool.or_eq_true] at hok
  obtain rfl := List.mem_singleton.1 hj
  obtain rfl : r.len = fuel := Nat.succ.inj hf
  unfold wpOp
  rw [ho]
  simp only [wantE_spec ha hg, if_true]
  refine .inl (h g a w _ _ ha hs fun v env' L' w' h1 h2 h3 => ?_)
  have hMw := h2.Has.sub h3.1
  exact ⟨fun _ => hMw, h3.2 hsel _ _ hok.2 g _ w' h1 h2 (fun _ => hMw)⟩
theorem WA_last (ho : ops[i]? = some o) (hg : wantE ops env o.guard = some true) (h : Op1 P n o env L (WR P n ops M r Q)) : WA P n ops M (.st i 3 r) Q env L := by
  intro hsel taken listed hok g a w ha hs hM fuel hf j hj
  simp only [runOK, Bool.and_eq_true, Bool.or_eq_true] at hok
  obtain rfl := List.mem_singleton.1 hj
  obtain rfl : r.len = fuel := Nat.succ.inj hf
  unfold wpOp
  rw [ho]
  simp only [wantE_spec ha hg, if_true]
  have he : taken.filter (fun k => !waits ops j k) = [] := by simpa using hok.1.2
  rw [he]
  refine .inl (h g a w _ _ ha hs fun v env' L' w' h1 h2 h3 => ?_)
  exact ⟨fun h0 => absurd rfl h0, h3 hsel _ _ hok.2 g _ w' h1 h2 (fun h0 => absurd rfl h0)⟩
theorem WA_keep_left (ho : ops[i]? = some ⟨some d, op, t, pos, after, gd⟩) (hg : wantE ops env gd = some false) (hd : Nat.blt d n = true) (hML : ∀ e ∈ M, e ∈ L) (h : WR P n ops M r Q ((d, undef) :: env) L) : WA P n ops M (.st i 2 r) Q env L := by
  intro hsel taken listed hok g a w ha hs hM fuel hf j hj
  simp only [runOK, Bool.and_eq_true, Bool.or_eq_true] at hok
  obtain rfl := List.mem_singleton.1 hj
  obtain rfl : r.len = fuel := Nat.succ.inj hf
  unfold wpOp
  rw [ho]
  simp only [wantE_spec (o := ⟨some d, op, t, pos, after, gd⟩) ha hg]
  have hMw := hs.Has.sub hML
  exact ⟨fun _ => hMw, h hsel _ _ hok.2 g _ w (ha.put (d := some d) hd undef) hs (fun _ => hMw)⟩
theorem WA_last_left (ho : ops[i]? = some ⟨some d, op, t, pos, after, gd⟩) (hg : wantE ops env gd = some false) (hd : Nat.blt d n = true) (h : WR P n ops M r Q ((d, undef) :: env) L) : WA P n ops M (.st i 3 r) Q env L := by
  intro hsel taken listed hok g a w ha hs hM fuel hf j hj
  simp only [runOK, Bool.and_eq_true, Bool.or_eq_true] at hok
  obtain rfl := List.mem_singleton.1 hj
  obtain rfl : r.len = fuel := Nat.succ.inj hf
  unfold wpOp
  rw [ho]
  simp only [wantE_spec (o := ⟨some d, op, t, pos, after, gd⟩) ha hg]
  have he : taken.filter (fun k => !waits ops j k) = [] := by simpa using hok.1.2
  rw [he]
  exact ⟨fun h0 => absurd rfl h0, h hsel _ _ hok.2 g _ w (ha.put (d := some d) hd undef) hs (fun h0 => absurd rfl h0)⟩
theorem WR_keep (h : WA P n ops M (.st i 2 r) Q env L) : WR P n ops M (.st i 2 r) Q env L :=
  WR_of_one (fun taken listed hok => by simp only [runOK, Bool.and_eq_true, Bool.or_eq_true, beq_iff_eq, Bool.false_eq_true, false_or, true_or, true_and] at hok ⊢; exact ⟨hok.2, hok.1⟩) h
theorem WR_last (h : WA P n ops M (.st i 3 r) Q env L) : WR P n ops M (.st i 3 r) Q env L :=
  WR_of_one (fun taken listed hok => by simp only [runOK, Bool.and_eq_true, Bool.or_eq_true, beq_iff_eq, Bool.false_eq_true, false_or, true_or, true_and] at hok ⊢; exact ⟨⟨hok.1.2, hok.2⟩, hok.1.1⟩) h
theorem WA_alt (h1 : WA P n ops M r Q env L) (h2 : WA P n ops M r' Q env L) : WA P n ops M (.alt r r') Q env L := by
  intro hsel taken listed hok g a w ha hs hM fuel hf j hj
  simp only [runOK, Bool.and_eq_true, Bool.true_or, beq_iff_eq] at hok
  have hl : r'.len = fuel + 1 := hok.1.1.1.2 ▸ hf
  rcases List.mem_append.1 hj with hj | hj
  · exact h1 hsel taken listed hok.1.2 g a w ha hs hM fuel hf j hj
  · exact h2 hsel taken listed hok.2 g a w ha hs hM fuel hl j hj
theorem WR_alt (h : WA P n ops M (.alt r r') Q env L) : WR P n ops M (.alt r r') Q env L := by
  intro hsel taken listed hok g a w ha hs hM
  have hok' := hok
  simp only [runOK, Bool.and_eq_true, Bool.false_or, beq_iff_eq] at hok
  have hok2 : runOK ops (.alt r r') true taken listed = true := by
    simp only [runOK, Bool.and_eq_true, Bool.true_or, beq_iff_eq, true_and]
    exact ⟨⟨⟨hok.1.1.1.2, hok.1.1.2⟩, hok.1.2⟩, hok.2⟩
  have hne : r.len ≠ 0 := by
    intro h0; have := hok.1.1.2; rw [h0] at this; cases this
  obtain ⟨fuel, hf⟩ : ∃ fuel, (Run.alt r r').len = fuel + 1 := ⟨r.len - 1, by simp only [Run.len]; omega⟩
  rw [hf]
  refine fun _ => ⟨fun h0 => ?_, fun j hj => ?_⟩
  · exfalso
    rw [h0] at hok
    have hnil := hok.1.1.1.1
    have : ∀ q : Run, q.len ≠ 0 → ∀ tk, runOK ops q true tk listed = true → q.heads ≠ [] := by
      intro q
      induction q with
      | done => intro h; exact absurd rfl h
      | st i k r _ => intro _ _ _; simp [Run.heads]
      | alt a b iha _ =>
        intro h tk hk he
        simp only [Run.heads, List.append_eq_nil_iff] at he
        simp only [runOK, Bool.and_eq_true] at hk
        exact iha h tk hk.1.2 he.1
    exact this r hne taken hok.1.2 (List.append_eq_nil_iff.1 hnil.symm).1
  · rw [hok.1.1.1.1] at hj
    exact h hsel taken listed hok2 g a w ha hs hM fuel hf j hj

theorem WR_pure (ho : ops[i]? = some ⟨some d, op, t, pos, after, gd⟩) (hg : wantE ops env gd = some true) (hd : Nat.blt d n = true) (hv : Val P n env [] ⟨some d, op, t, pos, after, gd⟩ v) (h : WR P n ops M r Q ((d, v) :: env) L) : WR P n ops M (.st i 0 r) Q env L := WR_pure0 ho hv hg hd h
theorem WR_load (ho : ops[i]? = some ⟨some d, op, t, pos, after, gd⟩) (hg : wantE ops env gd = some true) (hd : Nat.blt d n = true) (hv : Val P n env M ⟨some d, op, t, pos, after, gd⟩ v) (hML : ∀ e ∈ M, e ∈ L) (h : WR P n ops M r Q ((d, v) :: env) L) : WR P n ops M (.st i 1 r) Q env L := WR_load0 ho hv hML hg hd h
theorem WR_left (ho : ops[i]? = some ⟨some d, op, t, pos, after, gd⟩) (hg : wantE ops env gd = some false) (hd : Nat.blt d n = true) (h : WR P n ops M r Q ((d, undef) :: env) L) : WR P n ops M (.st i 0 r) Q env L := WR_left0 ho hg hd h
theorem WR_left1 (ho : ops[i]? = some ⟨some d, op, t, pos, after, gd⟩) (hg : wantE ops env gd = some false) (hd : Nat.blt d n = true) (hML : ∀ e ∈ M, e ∈ L) (h : WR P n ops M r Q ((d, undef) :: env) L) : WR P n ops M (.st i 1 r) Q env L := WR_left10 ho hg hd hML h
end

/-! ### A guard that is not known: both ways -/
def guardAt (ops : Array Oper) (gd : Option (Nat × Bool)) : Option Nat := match gd with
  | some (j, _) => (ops[j]?).bind (·.dst)
  | none => none
section
variable {P : Program} {n : Nat} {env : Env} {L : List Ent} {a : Act} {k : Nat} {b : Bool}
theorem Agree.again (h : Agree n env a) (hl : lk env k = some (.bool b)) : Agree n ((k, .bool b) :: env) a := ⟨h.size, h.defers, fun t v hv => by
  simp only [lk] at hv
  cases hb : Nat.beq k t with
  | true =>
    rw [hb] at hv
    obtain rfl := Nat.eq_of_beq_eq_true hb
    exact h.get _ _ (hl.trans hv)
  | false => rw [hb] at hv; exact h.get t v hv⟩
theorem WO_split {ops : Array Oper} {l : List Oper} {o : Oper} {Q : Env → List Ent → Prop} (hk : guardAt ops o.guard = some k) (hl : lk env k = some (.bool b))
    (ht : b = true → WO P n ops (o :: l) Q ((k, .bool true) :: env) L) (hf : b = false → WO P n ops (o :: l) Q ((k, .bool false) :: env) L) : WO P n ops (o :: l) Q env L := fun g a w ha hs => by
  cases b with
  | true => exact ht rfl g a w (ha.again hl) hs
  | false => exact hf rfl g a w (ha.again hl) hs
theorem WR_split {ops : Array Oper} {i q : Nat} {r : Run} {o : Oper} {M : List Ent} {Q : Env → List Ent → Prop} (ho : ops[i]? = some o) (hk : guardAt ops o.guard = some k) (hl : lk env k = some (.bool b))
    (ht : b = true → WR P n ops M (.st i q r) Q ((k, .bool true) :: env) L) (hf : b = false → WR P n ops M (.st i q r) Q ((k, .bool false) :: env) L) : WR P n ops M (.st i q r) Q env L := fun hsel taken listed hok g a w ha hs hM => by
  cases b with
  | true => exact ht rfl hsel taken listed hok g a w (ha.again hl) hs hM
  | false => exact hf rfl hsel taken listed hok g a w (ha.again hl) hs hM
end
end Go.Proofs.YtoledfhjmdpihaaGreat.VE
/- The operations, one law each. Generic over the program. -/
set_option linter.unusedVariables false
set_option linter.unusedSimpArgs false
namespace Go.Proofs.YtoledfhjmdpihaaGreat.VE
open Go

abbrev I (n : Int) : Value := .int .i64 n
abbrev B (b : Bool) : Value := .bool b
abbrev cellsO (l : List Value) (T : TypeId) : Obj := .cells l.toArray T (0, 0)

structure TyI where
  u : TypeDesc
  size : Nat
  zero : List Value
  bytes : Nat
/-- What a type is, as the program has it. -/
structure TyOk (P : Program) (t : TypeId) (i : TyI) : Prop where
  u : P.underlying t = some i.u
  info : ∃ x, P.info? t = some x ∧ x.size = i.size ∧ x.bytes = i.bytes ∧ ∃ z, x.zero = some z ∧ z.cells = i.zero.toArray
def tlk : List (Nat × TyI) → Nat → Option TyI
  | [], _ => none
  | (k, v) :: r, t => bif Nat.beq k t then some v else tlk r t
/-- Field k of struct s lies so many cells behind its begin, and is not empty. -/
structure FldOk (P : Program) (s k off : Nat) : Prop where
  ok : ∃ fs f, P.underlying s = some (.struct fs) ∧ fs[k]? = some f ∧ f.offset = off ∧ ∃ x, P.info? f.type = some x ∧ x.size ≠ 0
def flk : List Nat → Nat → Option Nat
  | [], _ => none
  | o :: _, 0 => some o
  | _ :: r, k + 1 => flk r k
def slk : List (Nat × List Nat) → Nat → Nat → Option Nat
  | [], _, _ => none
  | (s, os) :: r, t, k => bif Nat.beq s t then flk os k else slk r t k
class TT (P : Program) where
  tbl : List (Nat × TyI)
  ok : ∀ t i, tlk tbl t = some i → TyOk P t i
  flds : List (Nat × List Nat)
  fok : ∀ s k o, slk flds s k = some o → FldOk P s k o
abbrev ty (P : Program) [TT P] (t : TypeId) : Option TyI := tlk (TT.tbl P) t

def aggB : TypeDesc → Bool
  | .struct _ | .array _ _ => true
  | _ => false

section
variable {P : Program} {w : World}
theorem run_sizeOf {t : TypeId} {i : TyI} (h : TyOk P t i) : (sizeOf t).run P w = .ok i.size w := by
  obtain ⟨x, hx, hs, _⟩ := h.info
  simp [sizeOf, typeInfo, hx, hs]
theorem run_isAgg {t : TypeId} {i : TyI} (h : TyOk P t i) : (isAgg t).run P w = .ok (aggB i.u) w := by
  unfold isAgg
  simp only [Sem.run_bind, run_underlying h.u, Result.andThen_ok]
  cases i.u <;> rfl

theorem Has.cell {L : List Ent} (h : Has L w) {b : Nat} {c : Array Value} {T : TypeId} {fr : Nat × Nat} (hm : (b, .cells c T fr) ∈ L) (o : Nat) : w.cell? ⟨b, o, none⟩ = c[o]? := by
  have := h _ hm
  simp only at this
  simp [World.cell?, this]

theorem run_loadCells {b o : Nat} : ∀ (n : Nat) (cs : List Value) (i : Nat) (acc : Array Value), cs.length = n → (∀ k v, cs[k]? = some v → w.cell? ((⟨b, o, none⟩ : Addr).add (i + k)) = some v) →
    (loadCellsFrom ⟨b, o, none⟩ i n acc).run P w = .ok (acc ++ cs.toArray) w := by
  intro n
  induction n with
  | zero => intro cs i acc hl _; obtain rfl := List.eq_nil_of_length_eq_zero hl; simp [loadCellsFrom]
  | succ n ih =>
    intro cs i acc hl h
    match cs, hl with
    | v :: r, hl =>
      have h0 := h 0 v rfl
      simp only [Nat.add_zero] at h0
      have hr := ih r (i + 1) (acc.push v) (by simpa using hl) (fun k u hu => by have := h (k + 1) u hu; rwa [show i + 1 + k = i + (k + 1) by omega])
      simp only [loadCellsFrom, Sem.run_bind, load, Sem.run, h0, Result.andThen_ok, hr]
      simp

theorem addr_add (b o n : Nat) : (⟨b, o, none⟩ : Addr).add n = ⟨b, o + n, none⟩ := by
  unfold Addr.add; split
  · rename_i h; subst h; rfl
  · rfl

/-- n cells from o on. -/
def takeC (l : List Value) (o n : Nat) : Option (List Value) := if o + n ≤ l.length then some ((l.drop o).take n) else none

theorem run_loadVar {L : List Ent} (h : Has L w) {t : TypeId} {i : TyI} (ht : TyOk P t i) (ha : aggB i.u = true) {b o : Nat} {c : List Value} {T : TypeId} {fr : Nat × Nat} (hm : (b, .cells c.toArray T fr) ∈ L) {cs : List Value}
    (hc : takeC c o i.size = some cs) : (loadVar t ⟨b, o, none⟩).run P w = .ok (.agg cs.toArray) w := by
  unfold takeC at hc
  split at hc
  · rename_i hle
    obtain rfl := Option.some.inj hc
    simp only [loadVar, Sem.run_bind, run_isAgg ht, Result.andThen_ok, ha, if_true, run_sizeOf ht, loadCells]
    rw [run_loadCells i.size ((c.drop o).take i.size) 0 #[] (by simp; omega) (fun k v hk => ?_)]
    · simp
    · rw [addr_add, h.cell hm]
      have hk' : k < i.size := by
        have := (List.getElem?_eq_some_iff.1 hk).1
        simp at this; omega
      rw [List.getElem?_take_of_lt hk', List.getElem?_drop] at hk
      simpa using hk
  · cases hc
theorem run_loadVar1 {L : List Ent} (h : Has L w) {t : TypeId} {i : TyI} (ht : TyOk P t i) (ha : aggB i.u = false) {b o : Nat} {c : List Value} {T : TypeId} {fr : Nat × Nat} (hm : (b, .cells c.toArray T fr) ∈ L) {v : Value}
    (hc : c[o]? = some v) : (loadVar t ⟨b, o, none⟩).run P w = .ok v w := by
  have h1 : w.cell? ⟨b, o, none⟩ = some v := by rw [h.cell hm]; simpa using hc
  simp only [loadVar, Sem.run_bind, run_isAgg ht, Result.andThen_ok, ha, Bool.false_eq_true, if_false, load, Sem.run, h1]
end

section
variable {P : Program} [TT P] {n : Nat} {env : Env} {L : List Ent} {dst : Option Nat} {t : TypeId} {pos : String} {after : Array Edge} {g : Option (Nat × Bool)}

omit [TT P] in
theorem val_move {x : Operand} {v : Value} (hx : ev env x = some v) : Val P n env L ⟨dst, .move x, t, pos, after, g⟩ v := fun a w ha _ => by
  simp [execOp, ha.ev hx]
omit [TT P] in
theorem val_assign {x : Operand} {v : Value} (hx : ev env x = some v) : Val P n env L ⟨dst, .assign x, t, pos, after, g⟩ v := fun a w ha _ => by
  simp [execOp, ha.ev hx]
omit [TT P] in
theorem val_pick {c x y : Operand} {b : Bool} {u v : Value} (hc : ev env c = some (.bool b)) (hx : ev env x = some u) (hy : ev env y = some v) : Val P n env L ⟨dst, .pick c x y, t, pos, after, g⟩ (if b then u else v) := fun a w ha _ => by
  simp [execOp, ha.ev hc, ha.ev hx, ha.ev hy, asBool]
omit [TT P] in
theorem val_pick_true {c x y : Operand} {u : Value} (hc : ev env c = some (.bool true)) (hx : ev env x = some u) : Val P n env L ⟨dst, .pick c x y, t, pos, after, g⟩ u := fun a w ha _ => by
  simp [execOp, ha.ev hc, ha.ev hx, asBool]
omit [TT P] in
theorem val_pick_false {c x y : Operand} {v : Value} (hc : ev env c = some (.bool false)) (hy : ev env y = some v) : Val P n env L ⟨dst, .pick c x y, t, pos, after, g⟩ v := fun a w ha _ => by
  simp [execOp, ha.ev hc, ha.ev hy, asBool]

theorem val_load1 {s : TypeId} {x : Operand} {u : TypeDesc} {sz bt : Nat} {z : List Value} {b o : Nat} {c : List Value} {T : TypeId} {fr : Nat × Nat} {v : Value} (hx : ev env x = some (.pointer (some ⟨b, o, none⟩))) (ht : ty P s = some ⟨u, sz, z, bt⟩) (ha : aggB u = false)
    (hm : (b, .cells c.toArray T fr) ∈ L) (hc : c[o]? = some v) : Val P n env L ⟨dst, .load s x, t, pos, after, g⟩ v := fun a w hA hL => by
  have := run_loadVar1 hL (TT.ok _ _ ht) ha hm hc
  simp [execOp, hA.ev hx, Instr.loadAt, Instr.sureAddr, this]
theorem val_loadN {s : TypeId} {x : Operand} {u : TypeDesc} {sz bt : Nat} {z : List Value} {b o : Nat} {c : List Value} {T : TypeId} {fr : Nat × Nat} {cs : List Value} (hx : ev env x = some (.pointer (some ⟨b, o, none⟩))) (ht : ty P s = some ⟨u, sz, z, bt⟩) (ha : aggB u = true)
    (hm : (b, .cells c.toArray T fr) ∈ L) (hc : takeC c o sz = some cs) : Val P n env L ⟨dst, .load s x, t, pos, after, g⟩ (.agg cs.toArray) := fun a w hA hL => by
  have := run_loadVar hL (TT.ok _ _ ht) ha hm hc
  simp [execOp, hA.ev hx, Instr.loadAt, Instr.sureAddr, this]

omit [TT P] in
theorem val_nilCheck {x : Operand} {a : Addr} (hx : ev env x = some (.pointer (some a))) : Val P n env L ⟨dst, .nilCheck x, t, pos, after, g⟩ (.pointer (some a)) := fun a w hA hL => by
  simp [execOp, hA.ev hx]
omit [TT P] in
theorem val_nilCheck_func {x : Operand} {f : FuncId} {fst cap : Array Value} (hx : ev env x = some (.func (.func f) fst cap)) : Val P n env L ⟨dst, .nilCheck x, t, pos, after, g⟩ (.func (.func f) fst cap) := fun a w hA hL => by
  simp [execOp, hA.ev hx]

omit [TT P] in
theorem run_fieldAt {s k off b o : Nat} {w : World} (h : FldOk P s k off) : (Instr.fieldAt s (.pointer (some ⟨b, o, none⟩)) k).run P w = .ok (.pointer (some ⟨b, o + off, none⟩)) w := by
  obtain ⟨fs, f, hu, hf, ho, x, hx, hz⟩ := h.ok
  have h1 := run_underlying hu w
  have h2 : (sizeOf f.type).run P w = .ok x.size w := by simp [sizeOf, typeInfo, hx]
  simp [Instr.fieldAt, h1, hf, Instr.sureAddr, fieldPlace, h2, hz, addr_add, ho]
theorem val_fieldAddr {s : TypeId} {x : Operand} {k b o off : Nat} (hx : ev env x = some (.pointer (some ⟨b, o, none⟩))) (hf : slk (TT.flds P) s k = some off) :
    Val P n env L ⟨dst, .fieldAddr s x k, t, pos, after, g⟩ (.pointer (some ⟨b, o + off, none⟩)) := fun a w hA hL => by
  have := run_fieldAt (P := P) (w := w) (b := b) (o := o) (TT.fok s k off hf)
  simp [execOp, hA.ev hx, this]
theorem val_fieldAddr0 {s : TypeId} {x : Operand} {k b off : Nat} (hx : ev env x = some (.pointer (some ⟨b, 0, none⟩))) (hf : slk (TT.flds P) s k = some off) :
    Val P n env L ⟨dst, .fieldAddr s x k, t, pos, after, g⟩ (.pointer (some ⟨b, off, none⟩)) := fun a w hA hL => by
  have := val_fieldAddr (dst := dst) (t := t) (pos := pos) (after := after) (g := g) hx hf a w hA hL
  rwa [Nat.zero_add] at this

omit [TT P] in
theorem run_cmp {op : BinOp} {k : IntKind} {x y : Operand} {a b : Int} {w : World} {s : TypeId} {r : Bool} (h : Op.intCmp op a b = Sem.pure (.bool r)) (hop : op ≠ .shl ∧ op ≠ .shr ∧ op ≠ .add ∧ op ≠ .sub ∧ op ≠ .mul ∧ op ≠ .quo ∧ op ≠ .rem ∧ op ≠ .and ∧ op ≠ .or ∧ op ≠ .xor ∧ op ≠ .andNot) :
    (do eqGuard op s x y (.int k a) (.int k b); binOp op s (.int k a) (.int k b) : Sem Value).run P w = .ok (.bool r) w := by
  have hg : (eqGuard op s x y (.int k a) (.int k b)).run P w = .ok () w := by
    cases op <;> rfl
  simp only [Sem.run_bind, hg, Result.andThen_ok]
  cases op <;> simp_all [binOp, Sem.run]

omit [TT P] in
theorem val_lss {s s' : TypeId} {x y : Operand} {k : IntKind} {p q : Int} (hx : ev env x = some (.int k p)) (hy : ev env y = some (.int k q)) : Val P n env L ⟨dst, .binOp .lss s x y s', t, pos, after, g⟩ (.bool (decide (p < q))) := fun a w hA hL => by
  have := run_cmp (P := P) (w := w) (op := .lss) (k := k) (x := x) (y := y) (a := p) (b := q) (s := s) (r := decide (p < q)) rfl (by simp)
  simp only [execOp, hA.ev hx, hA.ev hy]
  rw [Sem.run_bind, this]; rfl
omit [TT P] in
theorem val_leq {s s' : TypeId} {x y : Operand} {k : IntKind} {p q : Int} (hx : ev env x = some (.int k p)) (hy : ev env y = some (.int k q)) : Val P n env L ⟨dst, .binOp .leq s x y s', t, pos, after, g⟩ (.bool (decide (p ≤ q))) := fun a w hA hL => by
  have := run_cmp (P := P) (w := w) (op := .leq) (k := k) (x := x) (y := y) (a := p) (b := q) (s := s) (r := decide (p ≤ q)) rfl (by simp)
  simp only [execOp, hA.ev hx, hA.ev hy]
  rw [Sem.run_bind, this]; rfl
omit [TT P] in
theorem val_gtr {s s' : TypeId} {x y : Operand} {k : IntKind} {p q : Int} (hx : ev env x = some (.int k p)) (hy : ev env y = some (.int k q)) : Val P n env L ⟨dst, .binOp .gtr s x y s', t, pos, after, g⟩ (.bool (decide (q < p))) := fun a w hA hL => by
  have := run_cmp (P := P) (w := w) (op := .gtr) (k := k) (x := x) (y := y) (a := p) (b := q) (s := s) (r := decide (q < p)) rfl (by simp)
  simp only [execOp, hA.ev hx, hA.ev hy]
  rw [Sem.run_bind, this]; rfl
omit [TT P] in
theorem val_geq {s s' : TypeId} {x y : Operand} {k : IntKind} {p q : Int} (hx : ev env x = some (.int k p)) (hy : ev env y = some (.int k q)) : Val P n env L ⟨dst, .binOp .geq s x y s', t, pos, after, g⟩ (.bool (decide (q ≤ p))) := fun a w hA hL => by
  have := run_cmp (P := P) (w := w) (op := .geq) (k := k) (x := x) (y := y) (a := p) (b := q) (s := s) (r := decide (q ≤ p)) rfl (by simp)
  simp only [execOp, hA.ev hx, hA.ev hy]
  rw [Sem.run_bind, this]; rfl
omit [TT P] in
theorem val_eql {s s' : TypeId} {x y : Operand} {k : IntKind} {p q : Int} (hx : ev env x = some (.int k p)) (hy : ev env y = some (.int k q)) : Val P n env L ⟨dst, .binOp .eql s x y s', t, pos, after, g⟩ (.bool (p == q)) := fun a w hA hL => by
  have := run_cmp (P := P) (w := w) (op := .eql) (k := k) (x := x) (y := y) (a := p) (b := q) (s := s) (r := p == q) rfl (by simp)
  simp only [execOp, hA.ev hx, hA.ev hy]
  rw [Sem.run_bind, this]; rfl
omit [TT P] in
theorem val_neq {s s' : TypeId} {x y : Operand} {k : IntKind} {p q : Int} (hx : ev env x = some (.int k p)) (hy : ev env y = some (.int k q)) : Val P n env L ⟨dst, .binOp .neq s x y s', t, pos, after, g⟩ (.bool (p != q)) := fun a w hA hL => by
  have := run_cmp (P := P) (w := w) (op := .neq) (k := k) (x := x) (y := y) (a := p) (b := q) (s := s) (r := p != q) rfl (by simp)
  simp only [execOp, hA.ev hx, hA.ev hy]
  rw [Sem.run_bind, this]; rfl

omit [TT P] in
theorem run_arith {op : BinOp} {k : IntKind} {x y : Operand} {p q r : Int} {w : World} {s : TypeId} (h : (binOp op s (.int k p) (.int k q)).run P w = .ok (.int k r) w) :
    (do eqGuard op s x y (.int k p) (.int k q); binOp op s (.int k p) (.int k q) : Sem Value).run P w = .ok (.int k r) w := by
  have hg : (eqGuard op s x y (.int k p) (.int k q)).run P w = .ok () w := by
    cases op <;> rfl
  simp only [Sem.run_bind, hg, Result.andThen_ok, h]
omit [TT P] in
theorem val_add {s s' : TypeId} {x y : Operand} {p q : Int} (hx : ev env x = some (I p)) (hy : ev env y = some (I q)) (h0 : -9223372036854775808 ≤ p + q) (h1 : p + q ≤ 9223372036854775807) : Val P n env L ⟨dst, .binOp .add s x y s', t, pos, after, g⟩ (I (p + q)) := fun a w hA hL => by
  have hw : IntKind.i64.wrap (p + q) = p + q := by rw [IntKind.wrap_i64]; omega
  have := run_arith (P := P) (w := w) (op := .add) (k := .i64) (x := x) (y := y) (p := p) (q := q) (s := s) (r := p + q) (by simp [binOp, Op.intArith, hw])
  simp only [execOp, hA.ev hx, hA.ev hy]
  rw [Sem.run_bind, this]; rfl
omit [TT P] in
theorem val_sub {s s' : TypeId} {x y : Operand} {p q : Int} (hx : ev env x = some (I p)) (hy : ev env y = some (I q)) (h0 : -9223372036854775808 ≤ p - q) (h1 : p - q ≤ 9223372036854775807) : Val P n env L ⟨dst, .binOp .sub s x y s', t, pos, after, g⟩ (I (p - q)) := fun a w hA hL => by
  have hw : IntKind.i64.wrap (p - q) = p - q := by rw [IntKind.wrap_i64]; omega
  have := run_arith (P := P) (w := w) (op := .sub) (k := .i64) (x := x) (y := y) (p := p) (q := q) (s := s) (r := p - q) (by simp [binOp, Op.intArith, hw])
  simp only [execOp, hA.ev hx, hA.ev hy]
  rw [Sem.run_bind, this]; rfl
omit [TT P] in
theorem val_mul {s s' : TypeId} {x y : Operand} {p q : Int} (hx : ev env x = some (I p)) (hy : ev env y = some (I q)) (h0 : -9223372036854775808 ≤ p * q) (h1 : p * q ≤ 9223372036854775807) : Val P n env L ⟨dst, .binOp .mul s x y s', t, pos, after, g⟩ (I (p * q)) := fun a w hA hL => by
  have hw : IntKind.i64.wrap (p * q) = p * q := by rw [IntKind.wrap_i64]; omega
  have := run_arith (P := P) (w := w) (op := .mul) (k := .i64) (x := x) (y := y) (p := p) (q := q) (s := s) (r := p * q) (by simp [binOp, Op.intArith, hw])
  simp only [execOp, hA.ev hx, hA.ev hy]
  rw [Sem.run_bind, this]; rfl
omit [TT P] in
theorem val_quo {s s' : TypeId} {x y : Operand} {p q : Int} (hx : ev env x = some (I p)) (hy : ev env y = some (I q)) (h0 : 0 ≤ p) (hp : p ≤ 9223372036854775807) (h1 : 0 < q) : Val P n env L ⟨dst, .binOp .quo s x y s', t, pos, after, g⟩ (I (p / q)) := fun a w hA hL => by
  have hw : IntKind.i64.wrap (p.tdiv q) = p / q := by
    rw [Int.tdiv_eq_ediv_of_nonneg h0, IntKind.wrap_i64]
    have h2 : 0 ≤ p / q := Int.ediv_nonneg h0 (by omega)
    have h3 : p / q ≤ p := Int.ediv_le_self _ h0
    omega
  have := run_arith (P := P) (w := w) (op := .quo) (k := .i64) (x := x) (y := y) (p := p) (q := q) (s := s) (r := p / q) (by simp [binOp, Op.intDiv, hw, show ¬ q = 0 by omega])
  simp only [execOp, hA.ev hx, hA.ev hy]
  rw [Sem.run_bind, this]; rfl
omit [TT P] in
theorem val_rem {s s' : TypeId} {x y : Operand} {p q : Int} (hx : ev env x = some (I p)) (hy : ev env y = some (I q)) (h0 : 0 ≤ p) (h1 : 0 < q) : Val P n env L ⟨dst, .binOp .rem s x y s', t, pos, after, g⟩ (I (p % q)) := fun a w hA hL => by
  have hw : p.tmod q = p % q := Int.tmod_eq_emod_of_nonneg h0
  have := run_arith (P := P) (w := w) (op := .rem) (k := .i64) (x := x) (y := y) (p := p) (q := q) (s := s) (r := p % q) (by simp [binOp, Op.intDiv, hw, show ¬ q = 0 by omega])
  simp only [execOp, hA.ev hx, hA.ev hy]
  rw [Sem.run_bind, this]; rfl

omit [TT P] in
theorem val_not {s : TypeId} {x : Operand} {b : Bool} (hx : ev env x = some (.bool b)) : Val P n env L ⟨dst, .unOp .not s x, t, pos, after, g⟩ (.bool (!b)) := fun a w hA hL => by
  simp [execOp, hA.ev hx, Op.unary]
omit [TT P] in
theorem val_extract {x : Operand} {k : Nat} {vs : List Value} {v : Value} (hx : ev env x = some (.tuple vs.toArray)) (hk : vs[k]? = some v) : Val P n env L ⟨dst, .extract x k, t, pos, after, g⟩ v := fun a w hA hL => by
  simp [execOp, hA.ev hx, Instr.extract, hk]
omit [TT P] in
theorem val_makeFunc {f : Fn} {fst cap : List Operand} {vs us : List Value} (h1 : evs env fst = some vs) (h2 : evs env cap = some us) : Val P n env L ⟨dst, .makeFunc f fst.toArray cap.toArray, t, pos, after, g⟩ (.func f vs.toArray us.toArray) := fun a w hA hL => by
  simp [execOp, Instr.makeFunc, hA.evs h1, hA.evs h2]

theorem val_len {x : Operand} {T e : TypeId} {sz bt : Nat} {z : List Value} {A : Option Addr} {m c : Nat} (hx : ev env x = some (.slice A m c)) (ht : ty P T = some ⟨.slice e, sz, z, bt⟩) :
    Val P n env L ⟨dst, .call { callee := .builtin .len, args := [x].toArray, argTypes := [T].toArray }, t, pos, after, g⟩ (I m) := fun a w hA hL => by
  have h := (TT.ok _ _ ht).u
  simp only at h
  simp [execOp, resolve, hA.ev hx, invoke, builtin, Builtin.len_, run_underlying h, goInt]
omit [TT P] in
theorem val_max {x y : Operand} {Ts : Array TypeId} {p q : Int} (hx : ev env x = some (I p)) (hy : ev env y = some (I q)) :
    Val P n env L ⟨dst, .call { callee := .builtin .max, args := [x, y].toArray, argTypes := Ts }, t, pos, after, g⟩ (I (if q > p then q else p)) := fun a w hA hL => by
  simp [execOp, resolve, hA.ev hx, hA.ev hy, invoke, builtin, Builtin.max_, Builtin.max2]
omit [TT P] in
theorem val_min {x y : Operand} {Ts : Array TypeId} {p q : Int} (hx : ev env x = some (I p)) (hy : ev env y = some (I q)) :
    Val P n env L ⟨dst, .call { callee := .builtin .min, args := [x, y].toArray, argTypes := Ts }, t, pos, after, g⟩ (I (if q < p then q else p)) := fun a w hA hL => by
  simp [execOp, resolve, hA.ev hx, hA.ev hy, invoke, builtin, Builtin.min_, Builtin.min2]
end
end Go.Proofs.YtoledfhjmdpihaaGreat.VE
/- What makes memory, writes, calls. Generic over the program. -/
set_option linter.unusedVariables false
set_option linter.unusedSimpArgs false
namespace Go.Proofs.YtoledfhjmdpihaaGreat.VE
open Go

/-- Cells stored one behind the other from o on. -/
def putC : List Value → Nat → List Value → List Value
  | c, 0, [] => c
  | _ :: c, 0, v :: vs => v :: putC c 0 vs
  | x :: c, o + 1, vs => x :: putC c o vs
  | [], _, _ => []
theorem putC_eq : ∀ (c : List Value) (o : Nat) (vs : List Value), o + vs.length ≤ c.length → putC c o vs = c.take o ++ vs ++ c.drop (o + vs.length)
  | [], 0, [], _ => rfl
  | x :: c, 0, [], _ => by simp [putC]
  | [], 0, v :: vs, h => by simp at h
  | x :: c, 0, v :: vs, h => by
    have := putC_eq c 0 vs (by simpa using h)
    simp [putC, this]
  | [], o + 1, vs, h => by simp at h
  | x :: c, o + 1, vs, h => by
    have := putC_eq c o vs (by simp at h; omega)
    simp [putC, this, Nat.add_right_comm]
theorem putC_length : ∀ (c : List Value) (o : Nat) (vs : List Value), (putC c o vs).length = c.length
  | [], 0, [] => rfl
  | x :: c, 0, [] => rfl
  | [], 0, v :: vs => rfl
  | x :: c, 0, v :: vs => by simp [putC, putC_length c 0 vs]
  | [], o + 1, vs => rfl
  | x :: c, o + 1, vs => by simp [putC, putC_length c o vs]

/-- How values that fill one cell each look. -/
def oneC (vs : List Value) : Bool := vs.all Value.oneCell'
theorem oneC_spec {vs : List Value} (h : oneC vs = true) : ∀ u ∈ vs, u.oneCell' = true := by simpa [oneC] using h

/-! ### Slices -/
structure Sl where
  a : Option Addr
  n : Nat
  c : Nat
abbrev Sl.v (s : Sl) : Value := .slice s.a s.n s.c
abbrev Sl.nil : Sl := ⟨none, 0, 0⟩
def big : Nat := 140737488355328

/-- A row that is one's own: nothing, or a block from its begin on. -/
def Own (T : TypeId) (sz : Nat) (s : Sl) (n : Nat) (cs : List Value) (es : List Ent) : Prop :=
  (s.n = 0 ∧ s.c = 0 ∧ n = 0 ∧ cs = [] ∧ es = []) ∨
  ∃ g cap rest, s = ⟨some ⟨g, 0, none⟩, n, cap⟩ ∧ es = [(g, cellsO (cs ++ rest) T)] ∧ cs.length = n * sz ∧ n ≤ cap ∧ cap * sz ≤ n * sz + rest.length ∧ cap ≤ maxLen
theorem Own.nil {T : TypeId} {sz : Nat} {A : Option Addr} : Own T sz ⟨A, 0, 0⟩ 0 [] [] := .inl ⟨rfl, rfl, rfl, rfl, rfl⟩
theorem Own.len {T : TypeId} {sz : Nat} {s : Sl} {n : Nat} {cs : List Value} {es : List Ent} (h : Own T sz s n cs es) : cs.length = n * sz := by
  rcases h with ⟨_, _, rfl, rfl, _⟩ | ⟨g, cap, rest, _, _, h, _⟩
  · simp
  · exact h
theorem Own.n_eq {T : TypeId} {sz : Nat} {s : Sl} {n : Nat} {cs : List Value} {es : List Ent} (h : Own T sz s n cs es) : s.n = n := by
  rcases h with ⟨h, _, rfl, _⟩ | ⟨g, cap, rest, rfl, _⟩
  · exact h
  · rfl
theorem Own.le_cap {T : TypeId} {sz : Nat} {s : Sl} {n : Nat} {cs : List Value} {es : List Ent} (h : Own T sz s n cs es) : s.n ≤ s.c := by
  rcases h with ⟨h, h', _⟩ | ⟨g, cap, rest, rfl, _, _, h, _⟩
  · omega
  · exact h

section
variable {P : Program} {w : World}

theorem run_append_empty (t ty e : TypeId) (i : TypeInfo) (ht : P.underlying t = some (.slice e)) (hi : P.info? e = some i) (A : Option Addr) (n cap c : Nat) (X : Option Addr) (hn : n ≤ cap) :
    (Builtin.append_ #[t, t] ty #[.slice A n cap, .slice X 0 c]).run P w = .ok (.slice A n cap) w := by
  cases A <;> cases X <;> simp [Builtin.append_, run_underlying ht, sizeOf, typeInfo, hi, Builtin.lenOf, hn, Builtin.firstCells, loadCells, loadCellsFrom, storeCells]
theorem run_append_zero (t ty e : TypeId) (i : TypeInfo) (z : Value) (ht : P.underlying t = some (.slice e)) (hi : P.info? e = some i) (hz : i.zero = some z)
    (A : Option Addr) (a : Addr) (n c : Nat) (news : List Value) (hl : news.length = n * i.size) (hnews : ∀ j v, news[j]? = some v → w.cell? (a.add j) = some v)
    (h0 : 0 < n) (h63 : (n : Int) ≤ 9223372036854775807) (h48 : n * i.bytes ≤ 281474976710656) :
    (Builtin.append_ #[t, t] ty #[.slice A 0 0, .slice (some a) n c]).run P w =
      .ok (.slice (some ⟨w.heap.size, 0, none⟩) n (grownCap w n 0 e)) (w.drew.alloc (.cells (news.toArray ++ Builtin.zeroCells z.cells (grownCap w n 0 e - n)) e)) := by
  cases A with
  | none => exact run_append_nil w t ty e i z ht hi hz a n c news hl hnews h0 h63 h48
  | some b =>
    have h48' : Builtin.nextslicecap (0 + n) 0 * i.bytes ≤ 281474976710656 := by rw [Nat.zero_add, nextslicecap_zero h0]; omega
    have := run_append_grow (P := P) w t ty e i z ht hi hz b 0 0 [] (by simp) (by simp) a n c news hl hnews (by omega) (by omega) h48'
    simpa using this
end

section
variable {P : Program} [TT P] {n : Nat} {env : Env} {L : List Ent} {dst : Option Nat} {d : Nat} {t : TypeId} {pos : String} {after : Array Edge} {g : Option (Nat × Bool)} {K : Env → List Ent → Prop}

omit [TT P] in
theorem op_box {s : TypeId} {x : Operand} {v : Value} {cs : List Value} (hx : ev env x = some v) (hc : v.cells = cs.toArray) (hd : Nat.blt d n = true)
    (h : ∀ b, K ((d, .pointer (some ⟨b, 0, none⟩)) :: env) ((b, cellsO cs s) :: L)) : Op1 P n ⟨some d, .box s x, t, pos, after, g⟩ env L K := fun g' a w next Q ha hs hk => by
  unfold Oper.wp
  have hr : (execOp a.eval ⟨some d, .box s x, t, pos, after, g⟩).run P w = .ok (.value (.pointer (some ⟨w.heap.size, 0, none⟩))) { w with heap := w.heap.push (cellsO cs s) } := by
    simp [execOp, ha.ev hx, Instr.box, newVar, newRow, newObj, Sem.run, hc]
  rw [hr]
  exact hk _ _ _ _ (ha.put (d := some d) hd _) (hs.new _) (h _)

theorem op_alloc {s : TypeId} {u : TypeDesc} {sz bt : Nat} {zl : List Value} (ht : ty P s = some ⟨u, sz, zl, bt⟩) (hd : Nat.blt d n = true)
    (h : ∀ b, K ((d, .pointer (some ⟨b, 0, none⟩)) :: env) ((b, cellsO zl s) :: L)) : Op1 P n ⟨some d, .alloc s, t, pos, after, g⟩ env L K := fun g' a w next Q ha hs hk => by
  unfold Oper.wp
  obtain ⟨x, hx, _, _, z, hz, hzc⟩ := (TT.ok (P := P) _ _ ht).info
  have hr : (execOp a.eval ⟨some d, .alloc s, t, pos, after, g⟩).run P w = .ok (.value (.pointer (some ⟨w.heap.size, 0, none⟩))) { w with heap := w.heap.push (cellsO zl s) } := by
    simp [execOp, Instr.alloc, zeroValue, typeInfo, hx, hz, newVar, newRow, newObj, Sem.run, hzc]
  rw [hr]
  exact hk _ _ _ _ (ha.put (d := some d) hd _) (hs.new _) (h _)

/-- One cell. -/
theorem op_store1 {s : TypeId} {x y : Operand} {u : TypeDesc} {sz bt : Nat} {z : List Value} {b o : Nat} {c : List Value} {T : TypeId} {v : Value} {L0 : List Ent} (hx : ev env x = some (.pointer (some ⟨b, o, none⟩))) (hy : ev env y = some v) (ht : ty P s = some ⟨u, sz, z, bt⟩) (hsz : sz = 1) (hv : v.oneCell' = true)
    (hp : L.Perm ((b, cellsO c T) :: L0)) {c' : List Value} (ho : Nat.blt o c.length = true) (hc' : c.set o v = c') (h : K env ((b, cellsO c' T) :: L0)) : Op1 P n ⟨none, .store s x y, t, pos, after, g⟩ env L K := fun g' a w next Q ha hs hk => by
  subst hc'
  replace ho : o < c.length := by simpa [Nat.blt_eq] using ho
  unfold Oper.wp
  have hs' := LSub.perm hp g' w hs
  have hh := hs'.has _ List.mem_cons_self
  simp only at hh
  have hone : v.cells = #[v] := by cases v <;> simp_all [Value.oneCell', Value.cells]
  have hst := run_storeCells_at P b o T [v] 0 c.toArray w hh (by simp; omega) (by simpa using hv)
  have hr : (execOp a.eval ⟨none, .store s x y, t, pos, after, g⟩).run P w = .ok .skip (w.setRow b (c.take o ++ [v] ++ c.drop (o + 1)).toArray) := by
    simp only [Nat.add_zero, List.length_singleton] at hst
    simp [execOp, ha.ev hx, ha.ev hy, Instr.storeAt, Instr.sureAddr, storeVar, hone, run_sizeOf (P := P) (TT.ok _ _ ht), hsz, hst]
  rw [hr]
  refine hk undef _ _ _ ha (hs'.set rfl rfl rfl (by simp [World.setRow]) ?_ (fun k hk => setRow_other w b k _ hk)) h
  rw [setRow_heap w b _ _ T (0, 0) hh]
  have : c.take o ++ [v] ++ c.drop (o + 1) = c.set o v := by rw [List.set_eq_take_append_cons_drop]; simp [ho]
  rw [this]

/-- A struct. -/
theorem op_storeN {s : TypeId} {x y : Operand} {u : TypeDesc} {sz bt : Nat} {z : List Value} {b o : Nat} {c vs : List Value} {T : TypeId} {L0 : List Ent} (hx : ev env x = some (.pointer (some ⟨b, o, none⟩))) (hy : ev env y = some (.agg vs.toArray)) (ht : ty P s = some ⟨u, sz, z, bt⟩) (hsz : vs.length = sz) (hv : oneC vs = true)
    (hp : L.Perm ((b, cellsO c T) :: L0)) {c' : List Value} (ho : Nat.ble (o + vs.length) c.length = true) (hc' : putC c o vs = c') (h : K env ((b, cellsO c' T) :: L0)) : Op1 P n ⟨none, .store s x y, t, pos, after, g⟩ env L K := fun g' a w next Q ha hs hk => by
  subst hc'
  replace ho : o + vs.length ≤ c.length := Nat.le_of_ble_eq_true ho
  unfold Oper.wp
  have hs' := LSub.perm hp g' w hs
  have hh := hs'.has _ List.mem_cons_self
  simp only at hh
  have hst := run_storeCells_at P b o T vs 0 c.toArray w hh (by simpa using ho) (oneC_spec hv)
  have hr : (execOp a.eval ⟨none, .store s x y, t, pos, after, g⟩).run P w = .ok .skip (w.setRow b (c.take o ++ vs ++ c.drop (o + vs.length)).toArray) := by
    simp only [Nat.add_zero] at hst
    simp [execOp, ha.ev hx, ha.ev hy, Instr.storeAt, Instr.sureAddr, storeVar, Value.cells, run_sizeOf (P := P) (TT.ok _ _ ht), hsz, hst]
  rw [hr]
  refine hk undef _ _ _ ha (hs'.set rfl rfl rfl (by simp [World.setRow]) ?_ (fun k hk => setRow_other w b k _ hk)) h
  rw [setRow_heap w b _ _ T (0, 0) hh, putC_eq c o vs ho]

omit [TT P] in
theorem op_call {f : FuncId} {xs : List Operand} {vs : List Value} {ts : Array TypeId} {R : Value → List Ent → Prop} (hx : evs env xs = some vs) (hT : Tri P f vs L R) (hd : Nat.blt d n = true)
    (h : ∀ v L', R v L' → K ((d, v) :: env) L') : Op1 P n ⟨some d, .call { callee := .value (.func f), args := xs.toArray, argTypes := ts }, t, pos, after, g⟩ env L K := fun g' a w next Q ha hs hk => by
  unfold Oper.wp
  have hr : (execOp a.eval ⟨some d, .call { callee := .value (.func f), args := xs.toArray, argTypes := ts }, t, pos, after, g⟩).run P w = .ok (.enter f vs.toArray) w := by
    have he := hT.enters vs.toArray w
    simp [execOp, resolve, Act.eval, Deferred.ofValue, invoke, ha.evs hx, he]
  rw [hr]
  refine (hT.calls g' w hs).mono ?_
  rintro e w' ⟨v, L', rfl, h1, h2⟩
  exact hk v _ L' w' (ha.put (d := some d) hd v) h1 (h v L' h2)
omit [TT P] in
theorem op_callv {x : Operand} {f : FuncId} {xs : List Operand} {fst cap vs : List Value} {ts : Array TypeId} {R : Value → List Ent → Prop} (hf : ev env x = some (.func (.func f) fst.toArray cap.toArray)) (hx : evs env xs = some vs) (hT : Tri P f (fst ++ vs ++ cap) L R) (hd : Nat.blt d n = true)
    (h : ∀ v L', R v L' → K ((d, v) :: env) L') : Op1 P n ⟨some d, .call { callee := .value x, args := xs.toArray, argTypes := ts }, t, pos, after, g⟩ env L K := fun g' a w next Q ha hs hk => by
  unfold Oper.wp
  have hr : (execOp a.eval ⟨some d, .call { callee := .value x, args := xs.toArray, argTypes := ts }, t, pos, after, g⟩).run P w = .ok (.enter f (fst ++ vs ++ cap).toArray) w := by
    have he := hT.enters (fst ++ vs ++ cap).toArray w
    simp only [List.append_assoc] at he
    simp [execOp, resolve, ha.ev hf, Deferred.ofValue, invoke, ha.evs hx, he]
  rw [hr]
  refine (hT.calls g' w hs).mono ?_
  rintro e w' ⟨v, L', rfl, h1, h2⟩
  exact hk v _ L' w' (ha.put (d := some d) hd v) h1 (h v L' h2)

omit [TT P] in
theorem op_ro {f : FuncId} {xs : List Operand} {vs : List Value} {v : Value} {ts : Array TypeId} (hx : evs env xs = some vs) (hd : Nat.blt d n = true) (hT : RO P f vs L v)
    (h : K ((d, v) :: env) L) : Op1 P n ⟨some d, .call { callee := .value (.func f), args := xs.toArray, argTypes := ts }, t, pos, after, g⟩ env L K :=
  op_call hx hT hd (fun u L' ⟨h1, h2⟩ => by subst h1; subst h2; exact h)
omit [TT P] in
theorem op_rov {x : Operand} {f : FuncId} {xs : List Operand} {fst cap vs : List Value} {v : Value} {ts : Array TypeId} (hf : ev env x = some (.func (.func f) fst.toArray cap.toArray)) (hx : evs env xs = some vs) (hd : Nat.blt d n = true) (hT : RO P f (fst ++ vs ++ cap) L v)
    (h : K ((d, v) :: env) L) : Op1 P n ⟨some d, .call { callee := .value x, args := xs.toArray, argTypes := ts }, t, pos, after, g⟩ env L K :=
  op_callv hf hx hT hd (fun u L' ⟨h1, h2⟩ => by subst h1; subst h2; exact h)
theorem size_zeroCells' (z : Array Value) (n : Nat) : (Builtin.zeroCells z n).size = n * z.size := by simp [Builtin.zeroCells]

/-- append(s, x..): s one's own; x some cells that lie there. -/
theorem op_append {s x : Operand} {T e : TypeId} {u : TypeDesc} {si bi sz bt : Nat} {zi zl : List Value} {sl : Sl} {k m c0 : Nat} {cs news cx : List Value} {es L0 : List Ent} {b o : Nat} {Tx : TypeId} {fr : Nat × Nat}
    (hs : ev env s = some sl.v) (hx : ev env x = some (.slice (some ⟨b, o, none⟩) m c0)) (ht : ty P T = some ⟨.slice e, si, zi, bi⟩) (hj : ty P e = some ⟨u, sz, zl, bt⟩) (hzl : zl.length = sz) (hsz : Nat.blt 0 sz = true)
    (hown : Own e sz sl k cs es) (hp : L.Perm (es ++ L0)) (hm : (b, .cells cx.toArray Tx fr) ∈ L) (hnews : takeC cx o (m * sz) = some news) (hone : oneC news = true) (hbytes : (k + m) * bt ≤ big) (hmax : k + m ≤ maxLen)
    (hd : Nat.blt d n = true)
    (h : ∀ sl' es', Own e sz sl' (k + m) (cs ++ news) es' → (k + m ≤ sl.c → sl'.a = sl.a ∧ sl'.c = sl.c) → K ((d, sl'.v) :: env) (es' ++ L0)) : Op1 P n ⟨some d, .call { callee := .builtin .append, args := [s, x].toArray, argTypes := [T, T].toArray }, t, pos, after, g⟩ env L K := fun g' a w next Q ha hS hk => by
  unfold Oper.wp
  obtain ⟨xi, hxi, hxs, hxb, z, hz, hzc⟩ := (TT.ok (P := P) _ _ hj).info
  replace hxs : xi.size = sz := hxs
  replace hxb : xi.bytes = bt := hxb
  replace hzc : z.cells = zl.toArray := hzc
  have hT := (TT.ok (P := P) _ _ ht).u
  simp only at hT
  have hS' := LSub.perm hp g' w hS
  have hnl : news.length = m * xi.size := by
    unfold takeC at hnews
    split at hnews
    · obtain rfl := Option.some.inj hnews; simp [hxs]; omega
    · cases hnews
  have hcell : ∀ q v, news[q]? = some v → w.cell? ((⟨b, o, none⟩ : Addr).add q) = some v := fun q v hq => by
    rw [addr_add, hS.Has.cell hm]
    unfold takeC at hnews
    split at hnews
    · obtain rfl := Option.some.inj hnews
      have hlt : q < m * sz := by have := (List.getElem?_eq_some_iff.1 hq).1; simp at this; omega
      rw [List.getElem?_take_of_lt hlt, List.getElem?_drop] at hq
      simpa using hq
    · cases hnews
  have hmx : (m : Int) ≤ 9223372036854775807 := by simp only [maxLen] at hmax; omega
  have hred : ∀ v' w', (Builtin.append_ #[T, T] t #[sl.v, .slice (some ⟨b, o, none⟩) m c0]).run P w = .ok v' w' →
      (execOp a.eval ⟨some d, .call { callee := .builtin .append, args := [s, x].toArray, argTypes := [T, T].toArray }, t, pos, after, g⟩).run P w = .ok (.value v') w' := fun v' w' hr => by
    simp only [execOp, resolve, invoke, builtin, Sem.run_bind, Sem.run_pure, Result.andThen_ok, List.map_toArray, List.map_cons, List.map_nil, ha.ev hs, ha.ev hx, hr]
  have hbig : (k + m) * xi.bytes ≤ 140737488355328 := by rw [hxb]; exact hbytes
  -- what a new block bears
  have hnew : ∀ (old : Nat), w.heap.size = w.heap.size → ∀ q, k + m ≤ q → q ≤ maxLen →
      Own e sz ⟨some ⟨w.heap.size, 0, none⟩, k + m, q⟩ (k + m) (cs ++ news) [(w.heap.size, .cells (cs.toArray ++ news.toArray ++ Builtin.zeroCells z.cells (q - (k + m))) e (0, 0))] := fun _ _ q hq hq' => by
    refine .inr ⟨w.heap.size, q, (Builtin.zeroCells z.cells (q - (k + m))).toList, rfl, by simp [cellsO], ?_, hq, ?_, hq'⟩
    · rw [List.length_append, hown.len, hnl, hxs, Nat.add_mul]
    · simp only [Array.length_toList, size_zeroCells', hzc, List.size_toArray, hzl]
      rw [← Nat.add_mul]; exact Nat.mul_le_mul_right _ (by omega)
  rcases hown with ⟨h1, h2, rfl, rfl, rfl⟩ | ⟨gb, cap, rest, rfl, rfl, hl, hc1, hc2, hc3⟩
  · obtain ⟨A, n', c'⟩ := sl
    simp only at h1 h2
    subst h1; subst h2
    by_cases hm0 : m = 0
    · subst hm0
      have hn0 : news = [] := List.eq_nil_of_length_eq_zero (by simpa using hnl)
      subst hn0
      rw [hred _ _ (run_append_empty T t e xi hT hxi A 0 0 c0 _ (Nat.le_refl _))]
      exact hk _ _ _ _ (ha.put (d := some d) hd _) hS' (h ⟨A, 0, 0⟩ [] Own.nil (fun _ => ⟨rfl, rfl⟩))
    · have hr := run_append_zero (P := P) (w := w) T t e xi z hT hxi hz A ⟨b, o, none⟩ m c0 news hnl hcell (by omega) hmx (by simp only [Nat.zero_add] at hbig; omega)
      rw [hred _ _ hr]
      have hge := grownCap_ge w m 0 e
      have hle := grownCap_le_maxLen w m 0 e (by omega)
      have ho := hnew 0 rfl (grownCap w m 0 e) (by omega) hle
      simp only [Nat.zero_add, Array.empty_append] at ho h
      exact hk _ _ _ _ (ha.put (d := some d) hd _) ((hS'.drew _).new _) (h _ _ ho (fun h9 => absurd h9 (by first | omega | (dsimp only at h9; omega))))
  · by_cases hroom : k + m ≤ cap
    · have hh : w.heap[gb]? = some (cellsO (cs ++ rest) e) := hS'.has (gb, cellsO (cs ++ rest) e) List.mem_cons_self
      have hfit : k * xi.size + news.length ≤ (cs ++ rest).toArray.size := by
        have h2 : (k + m) * sz ≤ cap * sz := Nat.mul_le_mul_right _ hroom
        simp only [List.size_toArray, List.length_append, hl, hnl, hxs]
        rw [Nat.add_mul] at h2; omega
      have hr := run_append_room (P := P) w T t e xi hT hxi gb k cap _ hh ⟨b, o, none⟩ m c0 news hnl hcell (oneC_spec hone) hroom hfit
      rw [hred _ _ hr]
      have hlist : (cs ++ rest).toArray.toList.take (k * xi.size) ++ news ++ (cs ++ rest).toArray.toList.drop (k * xi.size + news.length) = (cs ++ news) ++ rest.drop news.length := by
        rw [hxs, ← hl]
        simp
      rw [hlist]
      refine hk _ _ _ _ (ha.put (d := some d) hd _) (hS'.set rfl rfl rfl (by simp [World.setRow]) (setRow_heap w gb _ _ e (0, 0) hh) (fun q hq => setRow_other w gb q _ hq)) ?_
      refine h ⟨some ⟨gb, 0, none⟩, k + m, cap⟩ [_] (.inr ⟨gb, cap, rest.drop news.length, rfl, rfl, ?_, hroom, ?_, hc3⟩) (fun _ => ⟨rfl, rfl⟩)
      · rw [List.length_append, hl, hnl, hxs, Nat.add_mul]
      · rw [List.length_drop, hnl, hxs, Nat.add_mul]; omega
    · have hh : w.heap[gb]? = some (cellsO (cs ++ rest) e) := hS'.has (gb, cellsO (cs ++ rest) e) List.mem_cons_self
      have holds : ∀ q v, cs[q]? = some v → w.cell? ((⟨gb, 0, none⟩ : Addr).add q) = some v := fun q v hq => by
        rw [addr_add, Nat.zero_add]
        have hlt := (List.getElem?_eq_some_iff.1 hq).1
        simp [World.cell?, hh, List.getElem?_append_left hlt, hq]
      have hr := run_append_grow (P := P) w T t e xi z hT hxi hz ⟨gb, 0, none⟩ k cap cs (by rw [hl, hxs]) holds ⟨b, o, none⟩ m c0 news hnl hcell (by omega) (by simp only [maxLen] at hmax; omega) (growslice_fits (by omega) hbig)
      rw [hred _ _ hr]
      have hge := grownCap_ge w (k + m) cap e
      have hle := grownCap_le_maxLen w (k + m) cap e hmax
      have ho := hnew 0 rfl (grownCap w (k + m) cap e) hge hle
      exact hk _ _ _ _ (ha.put (d := some d) hd _) (((LSub.right (L := [(gb, _)]) g' w hS').drew _).new _) (h _ _ ho (fun h9 => absurd h9 hroom))
end
end Go.Proofs.YtoledfhjmdpihaaGreat.VE
/- More operations; entering a function. Generic over the program. -/
set_option linter.unusedVariables false
set_option linter.unusedSimpArgs false
namespace Go.Proofs.YtoledfhjmdpihaaGreat.VE
open Go

/-! ### Literals: structs and slices -/
/-- The parts' cells, written over the zero ones. -/
def fillL (place : Nat → Option (Nat × Nat)) : List Value → List (Nat × Value) → Option (List Value)
  | c, [] => some c
  | c, (i, v) :: r => match place i with
    | none => none
    | some (off, size) => bif (Nat.beq v.cells.toList.length size) && Nat.ble (off + v.cells.toList.length) c.length then fillL place (putC c off v.cells.toList) r else none

theorem foldl_put (off : Nat) : ∀ (vs : List Value) (k : Nat) (c : List Value), off + k + vs.length ≤ c.length →
    ((vs.zipIdx k).foldl (fun (cs : Array Value) (x : Value × Nat) => cs.setIfInBounds (off + x.2) x.1) c.toArray) = (putC c (off + k) vs).toArray := by
  intro vs
  induction vs with
  | nil => intro k c h; simp [putC_eq c (off + k) [] h]
  | cons v vs ih =>
    intro k c h
    simp only [List.length_cons] at h
    simp only [List.zipIdx_cons, List.foldl_cons, List.setIfInBounds_toArray]
    rw [show off + (k) = off + k from rfl, ih (k + 1) _ (by simp; omega)]
    congr 1
    rw [putC_eq _ _ _ (by simp; omega), putC_eq _ _ _ (by simp; omega)]
    apply List.ext_getElem?
    intro q
    simp only [List.getElem?_append, List.length_append, List.length_take, List.length_set, List.length_cons, List.getElem?_take, List.getElem?_drop, List.getElem?_set]
    have e1 : min (off + (k + 1)) c.length = off + k + 1 := by omega
    have e2 : min (off + k) c.length = off + k := by omega
    simp only [e1, e2]
    rcases Nat.lt_trichotomy q (off + k) with hq | hq | hq
    · rw [if_pos (by omega), if_pos (by omega), if_pos (by omega), if_neg (by omega), if_pos (by omega), if_pos (by omega), if_pos (by omega)]
    · subst hq
      rw [if_pos (by omega), if_pos (by omega), if_pos (by omega), if_pos rfl, if_pos (by omega), if_pos (by omega), if_neg (by omega)]
      simp
    · by_cases h2 : q < off + k + 1 + vs.length
      · rw [if_pos (by omega), if_neg (by omega), if_pos (by omega), if_neg (by omega)]
        rw [show q - (off + k) = (q - (off + k + 1)) + 1 by omega]; simp
      · rw [if_neg (by omega), if_neg (by omega), if_neg (by omega)]
        congr 1; omega

theorem fill_eq (place : Nat → Option (Nat × Nat)) : ∀ (ps : List (Nat × Value)) (c c' : List Value), fillL place c ps = some c' → Instr.fill place c.toArray ps = some c'.toArray
  | [], c, c', h => by simp only [fillL, Option.some.injEq] at h; subst h; rfl
  | (i, v) :: r, c, c', h => by
    simp only [fillL] at h
    simp only [Instr.fill]
    cases hp : place i with
    | none => rw [hp] at h; cases h
    | some os =>
      obtain ⟨off, size⟩ := os
      rw [hp] at h
      simp only [Bool.cond_eq_ite, Bool.and_eq_true] at h
      split at h
      · rename_i hh
        have h1 : v.cells.size = size := by have := Nat.eq_of_beq_eq_true hh.1; simpa using this
        have h2 : off + v.cells.size ≤ c.length := by have := Nat.le_of_ble_eq_true hh.2; simpa using this
        have hne : (v.cells.size ≠ size || off + v.cells.size > c.toArray.size) = false := by simp [h1]; omega
        simp only [hne, Bool.false_eq_true, if_false]
        have hf := foldl_put off v.cells.toList 0 c (by simpa using h2)
        have : v.cells.zipIdx.foldl (fun (cs : Array Value) (x : Value × Nat) => cs.setIfInBounds (off + x.2) x.1) c.toArray = (putC c off v.cells.toList).toArray := by
          have hz : ∀ (arr : Array Value) (f : Array Value → Value × Nat → Array Value) (b : Array Value), arr.zipIdx.foldl f b = arr.toList.zipIdx.foldl f b := fun ⟨l⟩ f b => by simp
          rw [hz]; exact hf
        rw [this]
        exact fill_eq place r _ c' h
      · cases h

def evp (env : Env) : List (Nat × Operand) → Option (List (Nat × Value))
  | [] => some []
  | (i, x) :: r => match ev env x, evp env r with
    | some v, some vs => some ((i, v) :: vs)
    | _, _ => none
theorem Agree.evp {n : Nat} {env : Env} {a : Act} (h : Agree n env a) : ∀ {xs : List (Nat × Operand)} {vs : List (Nat × Value)}, VE.evp env xs = some vs → xs.map (fun p => (p.1, a.eval p.2)) = vs
  | [], vs, hx => by simpa [VE.evp] using hx
  | (i, x) :: r, vs, hx => by
    simp only [VE.evp] at hx
    split at hx
    · rename_i v vs' h1 h2
      obtain rfl := Option.some.inj hx
      simp [h.ev h1, h.evp h2]
    · cases hx

/-- Where the fields lie. -/
def placesOf (P : Program) [TT P] : List Field → Option (List (Nat × Nat))
  | [] => some []
  | f :: r => match ty P f.type, placesOf P r with
    | some j, some ps => some ((f.offset, j.size) :: ps)
    | _, _ => none
theorem places_run {P : Program} [TT P] {w : World} : ∀ {fs : List Field} {ps : List (Nat × Nat)}, placesOf P fs = some ps →
    (fs.mapM (m := Sem) fun f => do pure (f.offset, ← sizeOf f.type)).run P w = .ok ps w
  | [], ps, h => by simp only [placesOf, Option.some.injEq] at h; subst h; rfl
  | f :: r, ps, h => by
    simp only [placesOf] at h
    split at h
    · rename_i j qs h1 h2
      obtain rfl := Option.some.inj h
      have hs := run_sizeOf (P := P) (w := w) (TT.ok _ _ h1)
      rw [List.mapM_cons]
      simp only [Sem.run_bind, hs, Result.andThen_ok, places_run h2, Sem.run_pure]
    · cases h

section
variable {P : Program} [TT P] {n : Nat} {env : Env} {L : List Ent} {dst : Option Nat} {d : Nat} {t : TypeId} {pos : String} {after : Array Edge} {g : Option (Nat × Bool)} {K : Env → List Ent → Prop}

theorem val_build {s : TypeId} {sz bt : Nat} {zl : List Value} {fs : List Field} {ps : List (Nat × Nat)} {xs : List (Nat × Operand)} {vs : List (Nat × Value)} {cs : List Value} (ht : ty P s = some ⟨.struct fs.toArray, sz, zl, bt⟩) (hp : placesOf P fs = some ps) (hx : evp env xs = some vs)
    (hc : fillL (fun k => ps[k]?) zl vs = some cs) : Val P n env L ⟨dst, .build s xs.toArray, t, pos, after, g⟩ (.agg cs.toArray) := fun a w hA hL => by
  obtain ⟨x, hxi, _, _, z, hz, hzc⟩ := (TT.ok (P := P) _ _ ht).info
  have hT := (TT.ok (P := P) _ _ ht).u
  simp only at hT
  have hpl : (fs.toArray.mapM (m := Sem) fun f => do pure (f.offset, ← sizeOf f.type)).run P w = .ok ps.toArray w := by
    have := places_run (w := w) hp
    simp only [List.mapM_toArray, ← bind_pure_comp] at this ⊢
    simp only [Sem.run_bind, this, Result.andThen_ok, Sem.run_pure]
  have hfill := fill_eq (fun k => ps[k]?) vs zl cs hc
  have hparts : (xs.toArray.map fun (k, x) => (k, a.eval x)) = vs.toArray := by
    have := hA.evp hx
    simp [this]
  have hb : (Instr.build s vs.toArray).run P w = .ok (.agg cs.toArray) w := by
    simp only [Instr.build, zeroValue, typeInfo, Sem.run_bind, run_program, Result.andThen_ok, hxi, Sem.run_pure, hz, hzc, run_underlying hT, hpl]
    simp only [List.getElem?_toArray]
    rw [hfill]
    rfl
  simp only [execOp, hparts, Sem.run_bind, hb, Result.andThen_ok, Sem.run_pure]

def zerosOf (z : List Value) : Nat → List Value
  | 0 => []
  | k + 1 => z ++ zerosOf z k
theorem zerosOf_length (z : List Value) : ∀ k, (zerosOf z k).length = k * z.length
  | 0 => by simp [zerosOf]
  | k + 1 => by simp [zerosOf, zerosOf_length z k, Nat.add_mul, Nat.add_comm]
theorem zerosOf_get (z : List Value) (hz : 0 < z.length) : ∀ (k i : Nat), i < k * z.length → (zerosOf z k)[i]? = z[i % z.length]?
  | 0, i, h => by simp at h
  | k + 1, i, h => by
    simp only [zerosOf, List.getElem?_append]
    split
    · rename_i hlt; rw [Nat.mod_eq_of_lt hlt]
    · rename_i hge
      rw [zerosOf_get z hz k (i - z.length) (by rw [Nat.add_mul] at h; omega)]
      rw [← Nat.mod_eq_sub_mod (by omega)]
theorem range_zeros (z : List Value) (hz : 0 < z.length) (k : Nat) : (Array.range (k * z.length)).map (fun q => z.toArray[q % z.toArray.size]!) = (zerosOf z k).toArray := by
  apply Array.ext
  · simp [zerosOf_length]
  · intro q h1 h2
    simp only [Array.size_map, Array.size_range] at h1
    have hg := zerosOf_get z hz k q h1
    have hlt : q % z.length < z.length := Nat.mod_lt _ hz
    have h2' : q < (zerosOf z k).length := by rw [zerosOf_length]; exact h1
    rw [List.getElem?_eq_getElem h2', List.getElem?_eq_getElem hlt] at hg
    simp only [Array.getElem_map, Array.getElem_range, List.size_toArray, List.getElem_toArray]
    rw [getElem!_pos z.toArray (q % z.length) (by simpa using hlt)]
    simpa using (Option.some.inj hg).symm

/-- Where the elements lie. -/
def stepsOf (size : Nat) (k : Nat) : Option (Nat × Nat) := some (k * size, size)

theorem op_buildSlice {s e : TypeId} {u : TypeDesc} {si bi sz bt : Nat} {zi zl : List Value} {len : Nat} {xs : List (Nat × Operand)} {vs : List (Nat × Value)} {cs : List Value} (ht : ty P s = some ⟨.slice e, si, zi, bi⟩) (hj : ty P e = some ⟨u, sz, zl, bt⟩) (hz : zl.length = sz) (h0 : Nat.blt 0 sz = true) (hl : Nat.ble (len * sz) 16777216 = true) (hx : evp env xs = some vs)
    (hc : fillL (stepsOf sz) (zerosOf zl len) vs = some cs) (hd : Nat.blt d n = true)
    (h : ∀ b, K ((d, .slice (some ⟨b, 0, none⟩) len len) :: env) ((b, cellsO cs e) :: L)) : Op1 P n ⟨some d, .buildSlice s len xs.toArray, t, pos, after, g⟩ env L K := fun g' a w next Q ha hs hk => by
  unfold Oper.wp
  obtain ⟨x, hxi, hxs, _, z, hz', hzc⟩ := (TT.ok (P := P) _ _ hj).info
  have hT := (TT.ok (P := P) _ _ ht).u
  simp only at hT
  have h0' : 0 < sz := by simpa [Nat.blt_eq] using h0
  have hl' : len * sz ≤ 16777216 := Nat.le_of_ble_eq_true hl
  have hfill := fill_eq (stepsOf sz) vs (zerosOf zl len) cs hc
  have hparts : (xs.toArray.map fun (k, x) => (k, a.eval x)) = vs.toArray := by
    have := ha.evp hx
    simp [this]
  have hr : (execOp a.eval ⟨some d, .buildSlice s len xs.toArray, t, pos, after, g⟩).run P w = .ok (.value (.slice (some ⟨w.heap.size, 0, none⟩) len len)) { w with heap := w.heap.push (cellsO cs e) } := by
    have hsz := run_sizeOf (P := P) (w := w) (TT.ok _ _ hj)
    have hn : ¬ (len * sz > 2 ^ 24) := by omega
    have hrg := range_zeros zl (by omega) len
    rw [hz] at hrg
    have hb : (Instr.buildSlice s len vs.toArray).run P w = .ok (.slice (some ⟨w.heap.size, 0, none⟩) len len) { w with heap := w.heap.push (cellsO cs e) } := by
      simp only [Instr.buildSlice, Sem.run_bind, run_underlying hT, Result.andThen_ok, hsz, if_neg hn]
      by_cases hlen : len = 0
      · subst hlen
        have hcs : Instr.fill (fun i => some (i * sz, sz)) ((Array.range (0 * sz)).map fun q => (#[] : Array Value)[q % (#[] : Array Value).size]!) vs = some cs.toArray := by
          have hz0 : (Array.range (0 * sz)).map (fun q => (#[] : Array Value)[q % (#[] : Array Value).size]!) = #[] := Array.eq_empty_of_size_eq_zero (by simp)
          rw [hz0]; exact hfill
        simp only [if_pos (Nat.zero_mul sz), Sem.run_bind, Sem.run_pure, Result.andThen_ok, hcs, newRow, newObj, Sem.run]
      · have hne : ¬ (len * sz = 0) := by
          intro he; rcases Nat.mul_eq_zero.1 he with h | h <;> omega
        have hcs : Instr.fill (fun i => some (i * sz, sz)) (zerosOf zl len).toArray vs = some cs.toArray := hfill
        have hzz : z.cells.size = zl.toArray.size := by rw [hzc]
        simp only [if_neg hne, zeroValue, typeInfo, Sem.run_bind, run_program, Result.andThen_ok, hxi, Sem.run_pure, hz', hzc, hrg, hcs, newRow, newObj, Sem.run]
    simp only [execOp, hparts, Sem.run_bind, hb, Result.andThen_ok, Sem.run_pure]
  rw [hr]
  exact hk _ _ _ _ (ha.put (d := some d) hd _) (hs.new _) (h _)

/-! ### Indices and cuts -/
theorem val_indexAddr {s e : TypeId} {u : TypeDesc} {si bi sz bt : Nat} {zi zl : List Value} {x y : Operand} {b o m c : Nat} {q : Int} (ht : ty P s = some ⟨.slice e, si, zi, bi⟩) (hj : ty P e = some ⟨u, sz, zl, bt⟩) (hx : ev env x = some (.slice (some ⟨b, o, none⟩) m c)) (hy : ev env y = some (I q))
    (h0 : 0 ≤ q) (h1 : q < (m : Int)) : Val P n env L ⟨dst, .indexAddr s x y, t, pos, after, g⟩ (.pointer (some ⟨b, o + q.toNat * sz, none⟩)) := fun a w hA hL => by
  have hT := (TT.ok (P := P) _ _ ht).u
  simp only at hT
  have hu' := run_underlying hT w
  have hsz := run_sizeOf (P := P) (w := w) (TT.ok _ _ hj)
  simp [execOp, hA.ev hx, hA.ev hy, Instr.indexAt, asIntOf, hu', h0, h1, hsz, addr_add]
theorem val_indexAddr_arr {s e : TypeId} {u : TypeDesc} {si bi sz bt : Nat} {zi zl : List Value} {x y : Operand} {b o m : Nat} {q : Int} (ht : ty P s = some ⟨.array m e, si, zi, bi⟩) (hj : ty P e = some ⟨u, sz, zl, bt⟩) (hx : ev env x = some (.pointer (some ⟨b, o, none⟩))) (hy : ev env y = some (I q))
    (h0 : 0 ≤ q) (h1 : q < (m : Int)) : Val P n env L ⟨dst, .indexAddr s x y, t, pos, after, g⟩ (.pointer (some ⟨b, o + q.toNat * sz, none⟩)) := fun a w hA hL => by
  have hT := (TT.ok (P := P) _ _ ht).u
  simp only at hT
  have hu' := run_underlying hT w
  have hsz := run_sizeOf (P := P) (w := w) (TT.ok _ _ hj)
  simp [execOp, hA.ev hx, hA.ev hy, Instr.indexAt, Instr.sureAddr, asIntOf, hu', h0, h1, hsz, addr_add]

/-- A cut: low, high and cap's bound as given or not. -/
def cutB (env : Env) (d : Int) : Option Operand → Option Int
  | none => some d
  | some x => match ev env x with
    | some (.int .i64 q) => some q
    | _ => none
theorem cutB_some {n : Nat} {env : Env} {a : Act} (h : Agree n env a) {d q : Int} {x : Operand} (hc : cutB env d (some x) = some q) : a.eval x = I q := by
  simp only [cutB] at hc
  split at hc
  · rename_i r hr; obtain rfl := Option.some.inj hc; exact h.ev hr
  · cases hc

theorem run_sliceBound {P : Program} {w : World} {q : Int} {y : Nat} {code : BoundsCode} (h0 : 0 ≤ q) (h1 : q ≤ (y : Int)) : (Instr.sliceBound (I q) y code).run P w = .ok q.toNat w := by
  simp [Instr.sliceBound, asIntOf, h0, h1]

/-- Where a cut begins. -/
def cutA (A : Option Addr) (l mx sz : Nat) : Option Addr := if mx = l then A else A.map (·.add (l * sz))
theorem val_slice {s e : TypeId} {u : TypeDesc} {si bi sz bt : Nat} {zi zl : List Value} {x : Operand} {lo hi mx : Option Operand} {A : Option Addr} {m c : Nat} {l h q : Int} (ht : ty P s = some ⟨.slice e, si, zi, bi⟩) (hj : ty P e = some ⟨u, sz, zl, bt⟩) (hx : ev env x = some (.slice A m c))
    (hl : cutB env 0 lo = some l) (hh : cutB env m hi = some h) (hm : cutB env c mx = some q) (hq : mx.isSome = true → hi.isSome = true) (h0 : 0 ≤ l) (h1 : l ≤ h) (h2 : h ≤ q) (h3 : q ≤ (c : Int)) (h4 : hi = none → h ≤ q) :
    Val P n env L ⟨dst, .slice s x lo hi mx, t, pos, after, g⟩ (.slice (cutA A l.toNat q.toNat sz) (h.toNat - l.toNat) (q.toNat - l.toNat)) := fun a w hA hL => by
  have hT := (TT.ok (P := P) _ _ ht).u
  simp only at hT
  have hu' := run_underlying hT w
  have hsz := run_sizeOf (P := P) (w := w) (TT.ok _ _ hj)
  have hb : (Instr.sliceBounds true m c (lo.map a.eval) (hi.map a.eval) (mx.map a.eval)).run P w = .ok (l.toNat, h.toNat, q.toNat) w := by
    cases mx with
    | some mx =>
      have e1 := cutB_some hA hm
      cases hi with
      | none => simp at hq
      | some hi =>
        have e2 := cutB_some hA hh
        have b1 := run_sliceBound (P := P) (w := w) (q := q) (y := c) (code := .slice3Acap) (by omega) h3
        have b2 := run_sliceBound (P := P) (w := w) (q := h) (y := q.toNat) (code := .slice3B) (by omega) (by omega)
        cases lo with
        | none =>
          simp only [cutB, Option.some.injEq] at hl; subst hl
          simp [Instr.sliceBounds, e1, e2, b1, b2]
        | some lo =>
          have e3 := cutB_some hA hl
          have b3 := run_sliceBound (P := P) (w := w) (q := l) (y := h.toNat) (code := .slice3C) h0 (by omega)
          simp [Instr.sliceBounds, e1, e2, e3, b1, b2, b3]
    | none =>
      simp only [cutB, Option.some.injEq] at hm; subst hm
      cases hi with
      | none =>
        simp only [cutB, Option.some.injEq] at hh; subst hh
        cases lo with
        | none =>
          simp only [cutB, Option.some.injEq] at hl; subst hl
          simp [Instr.sliceBounds]
        | some lo =>
          have e3 := cutB_some hA hl
          have b3 := run_sliceBound (P := P) (w := w) (q := l) (y := m) (code := .sliceB) h0 h1
          simp [Instr.sliceBounds, e3, b3]
      | some hi =>
        have e2 := cutB_some hA hh
        have b2 := run_sliceBound (P := P) (w := w) (q := h) (y := c) (code := .sliceAcap) (by omega) (by omega)
        cases lo with
        | none =>
          simp only [cutB, Option.some.injEq] at hl; subst hl
          simp [Instr.sliceBounds, e2, b2]
        | some lo =>
          have e3 := cutB_some hA hl
          have b3 := run_sliceBound (P := P) (w := w) (q := l) (y := h.toNat) (code := .sliceB) h0 (by omega)
          simp [Instr.sliceBounds, e2, e3, b2, b3]
  have hr : (Instr.slice s (.slice A m c) (lo.map a.eval) (hi.map a.eval) (mx.map a.eval)).run P w = .ok (.slice (cutA A l.toNat q.toNat sz) (h.toNat - l.toNat) (q.toNat - l.toNat)) w := by
    simp only [Instr.slice, Sem.run_bind, hu', Result.andThen_ok, hb, hsz, Sem.run_pure, cutA]
  have hr2 : (Instr.sliceAt s (.slice A m c) (lo.map a.eval) (hi.map a.eval) (mx.map a.eval)).run P w = .ok (.slice (cutA A l.toNat q.toNat sz) (h.toNat - l.toNat) (q.toNat - l.toNat)) w := by
    simp only [Instr.sliceAt, Sem.run_bind, hu', Result.andThen_ok]
    exact hr
  simp only [execOp, hA.ev hx, Sem.run_bind, hr2, Result.andThen_ok, Sem.run_pure]

/-! ### Comparisons -/
theorem val_eq_nil {s s' e : TypeId} {si bi : Nat} {zi : List Value} {x : Operand} {A : Option Addr} {m c : Nat} (ht : ty P s = some ⟨.slice e, si, zi, bi⟩) (hx : ev env x = some (.slice A m c)) :
    Val P n env L ⟨dst, .binOp .eql s x (.const (.slice none 0 0)) s', t, pos, after, g⟩ (.bool A.isNone) := fun a w hA hL => by
  have hT := (TT.ok (P := P) _ _ ht).u
  simp only at hT
  have h := Lib.run_eql_slice_nil (P := P) w s e A m c 0 0 hT
  have hg : (eqGuard .eql s x (.const (.slice none 0 0)) (.slice A m c) (.slice none 0 0)).run P w = .ok () w := rfl
  have hc : a.eval (.const (.slice none 0 0)) = .slice none 0 0 := rfl
  simp only [execOp, hA.ev hx, hc, Sem.run_bind, hg, Result.andThen_ok, h, Sem.run_pure]
theorem val_eq_ptr_nil {s s' e : TypeId} {si bi : Nat} {zi : List Value} {x : Operand} {A : Option Addr} (ht : ty P s = some ⟨.pointer e, si, zi, bi⟩) (hx : ev env x = some (.pointer A)) :
    Val P n env L ⟨dst, .binOp .eql s x (.const (.pointer none)) s', t, pos, after, g⟩ (.bool A.isNone) := fun a w hA hL => by
  have hT := (TT.ok (P := P) _ _ ht).u
  simp only at hT
  have h : (binOp .eql s (.pointer A) (.pointer none)).run P w = .ok (.bool A.isNone) w := by
    exact run_eql_pointer_nil w s A (by simp [Program.pointee, hT])
  have hg : (eqGuard .eql s x (.const (.pointer none)) (.pointer A) (.pointer none)).run P w = .ok () w := rfl
  have hc : a.eval (.const (.pointer none)) = .pointer none := rfl
  simp only [execOp, hA.ev hx, hc, Sem.run_bind, hg, Result.andThen_ok, h, Sem.run_pure]
theorem val_ne_ptr_nil {s s' e : TypeId} {si bi : Nat} {zi : List Value} {x : Operand} {A : Option Addr} (ht : ty P s = some ⟨.pointer e, si, zi, bi⟩) (hx : ev env x = some (.pointer A)) :
    Val P n env L ⟨dst, .binOp .neq s x (.const (.pointer none)) s', t, pos, after, g⟩ (.bool (!A.isNone)) := fun a w hA hL => by
  have hT := (TT.ok (P := P) _ _ ht).u
  simp only at hT
  have h : (binOp .neq s (.pointer A) (.pointer none)).run P w = .ok (.bool (!A.isNone)) w := by
    exact run_neq_pointer_nil w s A (by simp [Program.pointee, hT])
  have hg : (eqGuard .neq s x (.const (.pointer none)) (.pointer A) (.pointer none)).run P w = .ok () w := rfl
  have hc : a.eval (.const (.pointer none)) = .pointer none := rfl
  simp only [execOp, hA.ev hx, hc, Sem.run_bind, hg, Result.andThen_ok, h, Sem.run_pure]
end

/-- Two values of a type are one just if what they bear is. -/
structure EqT (P : Program) (t : TypeId) (a b : Value) (r : Bool) : Prop where
  guard : P.eqGuardType P.depth t = false
  run : ∀ w, (Op.equal t a b).run P w = .ok r w

section
variable {P : Program} [TT P] {n : Nat} {env : Env} {L : List Ent} {dst : Option Nat} {d : Nat} {t : TypeId} {pos : String} {after : Array Edge} {g : Option (Nat × Bool)}
omit [TT P] in
theorem run_eqGuard_agg {op : BinOp} {s : TypeId} {x y : Operand} {p q : Array Value} {w : World} (h : P.eqGuardType P.depth s = false) : (eqGuard op s x y (.agg p) (.agg q)).run P w = .ok () w := by
  cases op <;> simp [eqGuard, h]
omit [TT P] in
theorem val_eql_agg {s s' : TypeId} {x y : Operand} {p q : List Value} {r : Bool} (hx : ev env x = some (.agg p.toArray)) (hy : ev env y = some (.agg q.toArray)) (he : EqT P s (.agg p.toArray) (.agg q.toArray) r) : Val P n env L ⟨dst, .binOp .eql s x y s', t, pos, after, g⟩ (.bool r) := fun a w hA hL => by
  have h : (binOp .eql s (.agg p.toArray) (.agg q.toArray)).run P w = .ok (.bool r) w := by
    simp only [binOp, Sem.run_bind, he.run, Result.andThen_ok, Sem.run_pure]
  simp only [execOp, hA.ev hx, hA.ev hy, Sem.run_bind, run_eqGuard_agg he.guard, Result.andThen_ok, h, Sem.run_pure]
omit [TT P] in
theorem val_neq_agg {s s' : TypeId} {x y : Operand} {p q : List Value} {r : Bool} (hx : ev env x = some (.agg p.toArray)) (hy : ev env y = some (.agg q.toArray)) (he : EqT P s (.agg p.toArray) (.agg q.toArray) r) : Val P n env L ⟨dst, .binOp .neq s x y s', t, pos, after, g⟩ (.bool (!r)) := fun a w hA hL => by
  have h : (binOp .neq s (.agg p.toArray) (.agg q.toArray)).run P w = .ok (.bool (!r)) w := by
    simp only [binOp, Sem.run_bind, he.run, Result.andThen_ok, Sem.run_pure]
  simp only [execOp, hA.ev hx, hA.ev hy, Sem.run_bind, run_eqGuard_agg he.guard, Result.andThen_ok, h, Sem.run_pure]
end

/-! ### Entering a function -/
theorem enters_of {P : Program} {f : FuncId} {fn : Func} (hf : P.funcs[f]? = some fn) (hb : fn.body.isSome = true) (hn : (fn.name == "runtime.NumGoroutine") = false) : Enters P f := fun args w => by
  have hb' : fn.body.isNone = false := by cases h : fn.body <;> simp_all
  simp only [callFunc, Sem.run_bind, run_program, Result.andThen_ok, hf, hn, hb', Bool.false_eq_true, if_false, Sem.run_pure]

/-- What a function hands back, out of temporaries and of cells. -/
def Res (P : Program) [TT P] (env : Env) (L : List Ent) : List ResultVar → List Value → Prop
  | [], vs => vs = []
  | .tmp t :: r, vs => ∃ v vs', vs = v :: vs' ∧ lk env t = some v ∧ Res P env L r vs'
  | .cell a t :: r, vs => ∃ v vs', vs = v :: vs' ∧ Res P env L r vs' ∧ ∃ b o c T fr i, lk env a = some (.pointer (some ⟨b, o, none⟩)) ∧ (b, .cells c.toArray T fr) ∈ L ∧ ty P t = some i ∧
      ((aggB i.u = false ∧ c[o]? = some v) ∨ (aggB i.u = true ∧ ∃ cs, takeC c o i.size = some cs ∧ v = .agg cs.toArray))
section
variable {P : Program} [TT P] {env : Env} {L : List Ent} {r : List ResultVar} {vs : List Value}
theorem res_nil : Res P env L [] [] := rfl
theorem res_tmp {t : Nat} {v : Value} (h : lk env t = some v) (hr : Res P env L r vs) : Res P env L (.tmp t :: r) (v :: vs) := ⟨v, vs, rfl, h, hr⟩
theorem res_cell1 {a t b o : Nat} {c : List Value} {T : TypeId} {fr : Nat × Nat} {u : TypeDesc} {sz bt : Nat} {z : List Value} {v : Value} (h : lk env a = some (.pointer (some ⟨b, o, none⟩))) (ht : ty P t = some ⟨u, sz, z, bt⟩) (ha : aggB u = false) (hm : (b, .cells c.toArray T fr) ∈ L) (hc : c[o]? = some v) (hr : Res P env L r vs) : Res P env L (.cell a t :: r) (v :: vs) :=
  ⟨v, vs, rfl, hr, b, o, c, T, fr, _, h, hm, ht, .inl ⟨ha, hc⟩⟩
theorem res_cellN {a t b o : Nat} {c cs : List Value} {T : TypeId} {fr : Nat × Nat} {u : TypeDesc} {sz bt : Nat} {z : List Value} (h : lk env a = some (.pointer (some ⟨b, o, none⟩))) (ht : ty P t = some ⟨u, sz, z, bt⟩) (ha : aggB u = true) (hm : (b, .cells c.toArray T fr) ∈ L) (hc : takeC c o sz = some cs) (hr : Res P env L r vs) : Res P env L (.cell a t :: r) (.agg cs.toArray :: vs) :=
  ⟨_, vs, rfl, hr, b, o, c, T, fr, _, h, hm, ht, .inr ⟨ha, cs, hc, rfl⟩⟩
theorem res_run {n : Nat} {a : Act} (ha : Agree n env a) {w : World} (hL : Has L w) {fn : Func} {rs : List ResultVar} (hr : fn.results = rs.toArray) {vs : List Value} (h : Res P env L rs vs) :
    (results fn a.tmps).run P w = .ok (packR vs) w := by
  have key : ∀ (f : ResultVar → Sem Value), (∀ t, f (.tmp t) = Sem.pure (a.tmps.getD t undef)) → (∀ b t, f (.cell b t) = do loadVar t (← asAddr (a.tmps.getD b undef))) → ∀ (rs : List ResultVar) (vs : List Value), Res P env L rs vs → (rs.mapM f).run P w = .ok vs w := by
    intro f hf hf2 rs
    induction rs with
    | nil => intro vs h; simp only [Res] at h; subst h; rfl
    | cons r rs ih =>
      intro vs h
      cases r with
      | tmp t =>
        obtain ⟨v, vs', rfl, h1, h2⟩ := h
        have hv : a.tmps.getD t undef = v := by simp [Array.getD_eq_getD_getElem?, ha.get t v h1]
        rw [List.mapM_cons, hf, hv]
        simp only [Sem.run_bind, ih vs' h2, Sem.run, Result.andThen_ok, Sem.run_pure]
      | cell b t =>
        obtain ⟨v, vs', rfl, h2, b', o, c, T, fr, i, h1, hm, ht, hv⟩ := h
        have hb : a.tmps.getD b undef = .pointer (some ⟨b', o, none⟩) := by simp [Array.getD_eq_getD_getElem?, ha.get b _ h1]
        have hl : (loadVar t ⟨b', o, none⟩).run P w = .ok v w := by
          rcases hv with ⟨ha', hc⟩ | ⟨ha', cs, hc, rfl⟩
          · exact run_loadVar1 hL (TT.ok _ _ ht) ha' hm hc
          · exact run_loadVar hL (TT.ok _ _ ht) ha' hm hc
        rw [List.mapM_cons, hf2, hb]
        simp only [asAddr, Sem.run_bind, Sem.run_pure, Result.andThen_ok, hl, ih vs' h2]
  obtain ⟨F, hF, hF1, hF2⟩ : ∃ F : ResultVar → Sem Value, results fn a.tmps = (do let vs ← fn.results.mapM F; pure (if h : vs.size = 1 then vs[0] else .tuple vs)) ∧ (∀ t, F (.tmp t) = Sem.pure (a.tmps.getD t undef)) ∧ (∀ b t, F (.cell b t) = do loadVar t (← asAddr (a.tmps.getD b undef))) :=
    ⟨_, rfl, fun t => rfl, fun b t => rfl⟩
  have h1 := key F hF1 hF2 rs vs h
  rw [hF, hr]
  simp only [List.mapM_toArray, ← bind_pure_comp, Sem.run_bind, h1, Result.andThen_ok, Sem.run_pure]
  match vs with
  | [] => rfl
  | [v] => rfl
  | v :: u :: r => simp [packR]
end

def retQ (P : Program) [TT P] (rs : List ResultVar) (R : Value → List Ent → Prop) : Exit → Env → List Ent → Prop
  | .normal, env, L | .ret, env, L => ∃ vs M, Res P env L rs vs ∧ LSub L M ∧ R (packR vs) M
  | _, _, _ => False
section
variable {P : Program} [TT P]
theorem retQ_ret {rs : List ResultVar} {R : Value → List Ent → Prop} {env : Env} {L M : List Ent} {vs : List Value} (h : Res P env L rs vs) (hl : LSub L M) (hr : R (packR vs) M) : retQ P rs R .ret env L := ⟨vs, M, h, hl, hr⟩
theorem retQ_normal {rs : List ResultVar} {R : Value → List Ent → Prop} {env : Env} {L M : List Ent} {vs : List Value} (h : Res P env L rs vs) (hl : LSub L M) (hr : R (packR vs) M) : retQ P rs R .normal env L := ⟨vs, M, h, hl, hr⟩
/-- It hands back v, and leaves L. -/
theorem ro_ret {rs : List ResultVar} {env : Env} {L M : List Ent} {v : Value} {vs : List Value} (h : Res P env M rs vs) (hl : LSub M L) (hr : packR vs = v) : retQ P rs (fun u L' => u = v ∧ L' = L) .ret env M := ⟨vs, L, h, hl, hr, rfl⟩
theorem ro_normal {rs : List ResultVar} {env : Env} {L M : List Ent} {v : Value} {vs : List Value} (h : Res P env M rs vs) (hl : LSub M L) (hr : packR vs = v) : retQ P rs (fun u L' => u = v ∧ L' = L) .normal env M := ⟨vs, L, h, hl, hr, rfl⟩
end

def argE : Nat → List Value → Env
  | _, [] => []
  | k, v :: r => (k, v) :: argE (k + 1) r
theorem argE_get : ∀ (args : List Value) (k t : Nat) (v : Value), lk (argE k args) t = some v → k ≤ t ∧ args[t - k]? = some v
  | [], k, t, v, h => by cases h
  | u :: r, k, t, v, h => by
    simp only [argE, lk] at h
    cases hb : Nat.beq k t with
    | true =>
      rw [hb] at h
      obtain rfl := Nat.eq_of_beq_eq_true hb
      obtain rfl := Option.some.inj h
      simp
    | false =>
      rw [hb] at h
      obtain ⟨h1, h2⟩ := argE_get r (k + 1) t v h
      refine ⟨by omega, ?_⟩
      rw [show t - k = (t - (k + 1)) + 1 by omega]; simpa using h2

theorem Tri.of {P : Program} [TT P] {f : FuncId} {fn : Func} {c : Code} {n : Nat} {rs : List ResultVar} {args : List Value} {L : List Ent} {R : Value → List Ent → Prop} (hf : P.funcs[f]? = some fn) (hn : (fn.name == "runtime.NumGoroutine") = false)
    (hb : fn.body = some c) (hsz : fn.ntmps = n) (hrs : fn.results = rs.toArray) (hle : Nat.ble args.length n = true) (h : WC P n c (retQ P rs R) (argE 0 args) L) : Tri P f args L R := by
  refine ⟨enters_of hf (by simp [hb]) hn, fun g w hs => calls_of_wp hf hb ?_⟩
  have hle' : args.length ≤ n := Nat.le_of_ble_eq_true hle
  have hA : Agree n (argE 0 args) { tmps := args.toArray ++ Array.replicate (fn.ntmps - args.toArray.size) undef, defers := [] } := by
    refine ⟨by simp [hsz]; omega, rfl, fun t v ht => ?_⟩
    obtain ⟨_, h2⟩ := argE_get args 0 t v ht
    simp only [Nat.sub_zero] at h2
    have hlt := (List.getElem?_eq_some_iff.1 h2).1
    simp only [Array.getElem?_append, List.size_toArray, if_pos hlt, List.getElem?_toArray]
    exact h2
  refine wp_mono (h g _ w hA hs) fun e a' w' ⟨env', L', ha', hs', hq⟩ => ?_
  cases e with
  | normal =>
    obtain ⟨vs, M, h1, hl, h2⟩ := hq
    exact ⟨ha'.defers, _, res_run ha' hs'.Has hrs h1, _, M, rfl, hl g w' hs', h2⟩
  | ret =>
    obtain ⟨vs, M, h1, hl, h2⟩ := hq
    exact ⟨ha'.defers, _, res_run ha' hs'.Has hrs h1, _, M, rfl, hl g w' hs', h2⟩
  | _ => exact hq.elim
end Go.Proofs.YtoledfhjmdpihaaGreat.VE
/- Small laws for the walks. Generic over the program. -/
set_option linter.unusedVariables false
set_option linter.unusedSimpArgs false
namespace Go.Proofs.YtoledfhjmdpihaaGreat.VE
open Go

section
variable {P : Program} {n id i : Nat} {c : Code} {Q : Exit → Env → List Ent → Prop} {env : Env} {L : List Ent} {Inv : Nat → Env → List Ent → Prop} {m : Nat}
theorem seqQ_normal (h : WC P n c Q env L) : seqQ P n c Q .normal env L := h
theorem seqQ_ret (h : Q .ret env L) : seqQ P n c Q .ret env L := h
theorem seqQ_exit (h : Q (.exit i) env L) : seqQ P n c Q (.exit i) env L := h
theorem blockQ_normal (h : Q .normal env L) : blockQ id Q .normal env L := h
theorem blockQ_ret (h : Q .ret env L) : blockQ id Q .ret env L := h
theorem blockQ_same (h : Q .normal env L) : blockQ id Q (.exit id) env L := by simp only [blockQ, if_true]; exact h
theorem blockQ_other (hne : ¬ i = id) (h : Q (.exit i) env L) : blockQ id Q (.exit i) env L := by simp only [blockQ, if_neg hne]; exact h
theorem loopQ_ret (h : Q .ret env L) : loopQ Inv m Q .ret env L := h
theorem loopQ_exit (h : Q (.exit i) env L) : loopQ Inv m Q (.exit i) env L := h
end

section
variable {P : Program} {n d : Nat} {c : Code} {ops : Array Oper} {l : List Oper} {r : Run} {M : List Ent} {Q : Exit → Env → List Ent → Prop} {Q' : Env → List Ent → Prop} {env : Env} {L : List Ent} {o : Oper} {K : Env → List Ent → Prop} {v : Value} {op : Op} {t : TypeId} {pos : String} {after : Array Edge} {gd : Option (Nat × Bool)}
theorem WC_id (h : WC P n c Q env L) : WC P n c Q env L := h
theorem WO_id (h : WO P n ops l Q' env L) : WO P n ops l Q' env L := h
theorem WR_id (h : WR P n ops M r Q' env L) : WR P n ops M r Q' env L := h
theorem WA_id (h : WA P n ops M r Q' env L) : WA P n ops M r Q' env L := h
theorem op_call_id {f : FuncId} {xs : Array Operand} {ts : Array TypeId} (h : Op1 P n ⟨some d, .call { callee := .value (.func f), args := xs, argTypes := ts }, t, pos, after, gd⟩ env L K) :
  Op1 P n ⟨some d, .call { callee := .value (.func f), args := xs, argTypes := ts }, t, pos, after, gd⟩ env L K := h
theorem op_val (hd : Nat.blt d n = true) (hv : Val P n env L ⟨some d, op, t, pos, after, gd⟩ v) (h : K ((d, v) :: env) L) : Op1 P n ⟨some d, op, t, pos, after, gd⟩ env L K := Op1.of_val hv hd h
theorem op_load_id {s : TypeId} {x : Operand} (h : Op1 P n ⟨some d, .load s x, t, pos, after, gd⟩ env L K) : Op1 P n ⟨some d, .load s x, t, pos, after, gd⟩ env L K := h
theorem op_store_id {s : TypeId} {x y : Operand} (h : Op1 P n ⟨none, .store s x y, t, pos, after, gd⟩ env L K) : Op1 P n ⟨none, .store s x y, t, pos, after, gd⟩ env L K := h
theorem keep_intro (h1 : ∀ e ∈ M, e ∈ L) (h2 : WR P n ops M r Q' env L) : (∀ e ∈ M, e ∈ L) ∧ WR P n ops M r Q' env L := ⟨h1, h2⟩
end

theorem takeC_get {l cs : List Value} {o n k : Nat} {v : Value} (h : takeC l o n = some cs) (hk : cs[k]? = some v) : l[o + k]? = some v := by
  unfold takeC at h
  split at h
  · obtain rfl := Option.some.inj h
    have hlt : k < n := by have := (List.getElem?_eq_some_iff.1 hk).1; simp at this; omega
    rw [List.getElem?_take_of_lt hlt, List.getElem?_drop] at hk
    exact hk
  · cases h

theorem tyinfo_of {P : Program} {t : TypeId} {i : TyI} (h : (P.info? t).map (fun x => (x.size, x.bytes, x.zero.map Value.cells)) = some (i.size, i.bytes, some i.zero.toArray)) : ∃ x, P.info? t = some x ∧ x.size = i.size ∧ x.bytes = i.bytes ∧ ∃ z, x.zero = some z ∧ z.cells = i.zero.toArray := by
  obtain ⟨x, hx, he⟩ := Option.map_eq_some_iff.1 h
  simp only [Prod.mk.injEq] at he
  obtain ⟨z, hz, hc⟩ := Option.map_eq_some_iff.1 he.2.2
  exact ⟨x, hx, he.1, he.2.1, z, hz, hc⟩
def AllTy (P : Program) : List (Nat × TyI) → Prop
  | [] => True
  | e :: r => TyOk P e.1 e.2 ∧ AllTy P r
theorem all_ok {P : Program} : ∀ {l : List (Nat × TyI)}, AllTy P l → ∀ t i, tlk l t = some i → TyOk P t i
  | [], _, t, i, h => by cases h
  | (k, v) :: r, ⟨h1, h2⟩, t, i, h => by
    simp only [tlk] at h
    cases hb : Nat.beq k t with
    | true =>
      rw [hb] at h
      obtain rfl := Nat.eq_of_beq_eq_true hb
      obtain rfl := Option.some.inj h
      exact h1
    | false => rw [hb] at h; exact all_ok h2 t i h

theorem fldok_of {P : Program} {s k off : Nat} {fs : Array Field} (hu : P.underlying s = some (.struct fs)) (h : ((fs[k]?).bind fun f => (P.info? f.type).map fun x => (f.offset, x.size == 0)) = some (off, false)) : FldOk P s k off := by
  obtain ⟨f, hf, h1⟩ := Option.bind_eq_some_iff.1 h
  obtain ⟨x, hx, h2⟩ := Option.map_eq_some_iff.1 h1
  simp only [Prod.mk.injEq, beq_eq_false_iff_ne] at h2
  exact ⟨fs, f, hu, hf, h2.1, x, hx, h2.2⟩
def AllF (P : Program) (s : Nat) : Nat → List Nat → Prop
  | _, [] => True
  | k, o :: r => FldOk P s k o ∧ AllF P s (k + 1) r
theorem allF {P : Program} {s : Nat} : ∀ {os : List Nat} {k0 : Nat}, AllF P s k0 os → ∀ k o, flk os k = some o → FldOk P s (k0 + k) o
  | [], _, _, k, o, h => by cases k <;> cases h
  | o' :: r, k0, ⟨h1, h2⟩, 0, o, h => by simp only [flk, Option.some.injEq] at h; subst h; exact h1
  | o' :: r, k0, ⟨h1, h2⟩, k + 1, o, h => by
    have := allF h2 k o h
    rwa [show k0 + 1 + k = k0 + (k + 1) by omega] at this
def AllS (P : Program) : List (Nat × List Nat) → Prop
  | [] => True
  | e :: r => AllF P e.1 0 e.2 ∧ AllS P r
theorem allS {P : Program} : ∀ {l : List (Nat × List Nat)}, AllS P l → ∀ s k o, slk l s k = some o → FldOk P s k o
  | [], _, s, k, o, h => by cases h
  | (t, os) :: r, ⟨h1, h2⟩, s, k, o, h => by
    simp only [slk] at h
    cases hb : Nat.beq t s with
    | true =>
      rw [hb] at h
      obtain rfl := Nat.eq_of_beq_eq_true hb
      have := allF h1 k o h
      rwa [Nat.zero_add] at this
    | false => rw [hb] at h; exact allS h2 s k o h

/-! ### Reading slices -/
/-- How a struct lies in cells. -/
structure Enc (X : Type) where
  sz : Nat
  cells : X → List Value
  len : ∀ x, (cells x).length = sz
  one : ∀ x, oneC (cells x) = true

def Enc.row {X : Type} (E : Enc X) (xs : List X) : List Value := xs.flatMap E.cells
theorem Enc.row_length {X : Type} (E : Enc X) (xs : List X) : (E.row xs).length = xs.length * E.sz := by
  induction xs with
  | nil => simp [Enc.row]
  | cons x xs ih => simp only [Enc.row, List.flatMap_cons, List.length_append, E.len] at *; rw [ih, List.length_cons, Nat.add_mul, Nat.one_mul, Nat.add_comm]
theorem Enc.row_append {X : Type} (E : Enc X) (xs ys : List X) : E.row (xs ++ ys) = E.row xs ++ E.row ys := by simp [Enc.row]
theorem Enc.row_one {X : Type} (E : Enc X) (x : X) : E.row [x] = E.cells x := by simp [Enc.row]
theorem Enc.row_oneC {X : Type} (E : Enc X) (xs : List X) : oneC (E.row xs) = true := by
  induction xs with
  | nil => rfl
  | cons x xs ih => simp only [Enc.row, List.flatMap_cons, oneC, List.all_append, Bool.and_eq_true] at *; exact ⟨E.one x, ih⟩

/-- The row's elements lie in c from o on. -/
def RowC {X : Type} (E : Enc X) (c : List Value) (o : Nat) (xs : List X) : Prop := ∀ k x, xs[k]? = some x → takeC c (o + k * E.sz) E.sz = some (E.cells x)
theorem RowC.of_row {X : Type} (E : Enc X) (xs : List X) (rest : List Value) : RowC E (E.row xs ++ rest) 0 xs := by
  intro k x hk
  have hlt := (List.getElem?_eq_some_iff.1 hk).1
  have hle : (k + 1) * E.sz ≤ xs.length * E.sz := Nat.mul_le_mul_right _ hlt
  rw [Nat.add_mul, Nat.one_mul] at hle
  unfold takeC
  rw [if_pos (by rw [List.length_append, E.row_length]; omega)]
  congr 1
  have hsplit : xs = xs.take k ++ x :: xs.drop (k + 1) := by
    have := (List.getElem?_eq_some_iff.1 hk).2
    rw [← this, List.getElem_cons_drop, List.take_append_drop]
  have hrow : E.row xs = E.row (xs.take k) ++ (E.cells x ++ E.row (xs.drop (k + 1))) := by
    conv => lhs; rw [hsplit]
    simp [Enc.row]
  have hl : (E.row (xs.take k)).length = k * E.sz := by rw [E.row_length, List.length_take]; congr 1; omega
  rw [hrow, Nat.zero_add, List.append_assoc, ← hl, List.drop_left, List.append_assoc, ← E.len x, List.take_left]

/-- The slice reads as xs out of the blocks L. -/
def SliceAt {X : Type} (L : List Ent) (E : Enc X) (s : Sl) (xs : List X) : Prop :=
  s.n = xs.length ∧ xs.length ≤ s.c ∧ xs.length ≤ big ∧ (0 < xs.length → ∃ b o c T fr, s.a = some ⟨b, o, none⟩ ∧ (b, .cells c.toArray T fr) ∈ L ∧ RowC E c o xs)
theorem SliceAt.mono {X : Type} {L M : List Ent} {E : Enc X} {s : Sl} {xs : List X} (h : SliceAt L E s xs) (hs : ∀ e ∈ L, e ∈ M) : SliceAt M E s xs :=
  ⟨h.1, h.2.1, h.2.2.1, fun hp => let ⟨b, o, c, T, fr, h1, h2, h3⟩ := h.2.2.2 hp; ⟨b, o, c, T, fr, h1, hs _ h2, h3⟩⟩
theorem SliceAt.nil {X : Type} {L : List Ent} {E : Enc X} {A : Option Addr} {c : Nat} : SliceAt L E ⟨A, 0, c⟩ [] := ⟨rfl, Nat.zero_le _, Nat.zero_le _, fun h => absurd h (by simp)⟩
theorem SliceAt.take {X : Type} {L : List Ent} {E : Enc X} {a : Option Addr} {n c : Nat} {xs : List X} (h : SliceAt L E ⟨a, n, c⟩ xs) {k : Nat} (hk : k ≤ xs.length) : SliceAt L E ⟨a, k, c⟩ (xs.take k) := by
  have hl : (xs.take k).length = k := by rw [List.length_take]; omega
  have hc : xs.length ≤ c := h.2.1
  refine ⟨hl.symm, by rw [hl]; exact Nat.le_trans hk hc, by rw [hl]; exact Nat.le_trans hk h.2.2.1, fun hp => ?_⟩
  obtain ⟨b, o, c', T, fr, h1, h2, h3⟩ := h.2.2.2 (by omega)
  refine ⟨b, o, c', T, fr, h1, h2, fun j x hj => ?_⟩
  have hlt := (List.getElem?_eq_some_iff.1 hj).1
  exact h3 j x (by rwa [List.getElem?_take_of_lt (by omega)] at hj)
theorem Own.slice {X : Type} {T : TypeId} {E : Enc X} {s : Sl} {xs : List X} {es : List Ent} (h : Own T E.sz s xs.length (E.row xs) es) (hb : xs.length ≤ big) : SliceAt es E s xs := by
  rcases h with ⟨h1, h2, h3, h4, rfl⟩ | ⟨g, cap, rest, rfl, rfl, hl, hc, _, _⟩
  · exact ⟨by omega, by omega, hb, fun hp => by omega⟩
  · exact ⟨rfl, hc, hb, fun _ => ⟨g, 0, _, T, (0, 0), rfl, List.mem_cons_self, RowC.of_row E xs rest⟩⟩
end Go.Proofs.YtoledfhjmdpihaaGreat.VE
/- Loads, stores and literals in a form that computes at once; one gate for each kind of operation. Generic over the program. -/
set_option linter.unusedVariables false
set_option linter.unusedSimpArgs false
namespace Go.Proofs.YtoledfhjmdpihaaGreat.VE
open Go

def getF : List Value → Nat → Option Value
  | [], _ => none
  | v :: _, 0 => some v
  | _ :: c, k + 1 => getF c k
theorem getF_eq : ∀ {c : List Value} {k : Nat} {v : Value}, getF c k = some v → c[k]? = some v
  | [], _, _, h => by cases h
  | _ :: _, 0, _, h => by simpa [getF] using h
  | _ :: c, k + 1, v, h => by simpa using getF_eq (c := c) (k := k) h
def headF : Nat → List Value → Option (List Value)
  | 0, _ => some []
  | n + 1, v :: c => match headF n c with
    | some r => some (v :: r)
    | none => none
  | _ + 1, [] => none
def takeF : List Value → Nat → Nat → Option (List Value)
  | c, 0, n => headF n c
  | _ :: c, o + 1, n => takeF c o n
  | [], _ + 1, _ => none
theorem headF_eq : ∀ {n : Nat} {c cs : List Value}, headF n c = some cs → n ≤ c.length ∧ c.take n = cs
  | 0, c, cs, h => by simp only [headF, Option.some.injEq] at h; subst h; simp
  | n + 1, [], cs, h => by simp [headF] at h
  | n + 1, v :: c, cs, h => by
    simp only [headF] at h
    split at h
    · rename_i r hr
      obtain rfl := Option.some.inj h
      obtain ⟨h1, h2⟩ := headF_eq hr
      simp [h1, h2]
    · cases h
theorem takeF_eq : ∀ {c : List Value} {o n : Nat} {cs : List Value}, takeF c o n = some cs → takeC c o n = some cs
  | c, 0, n, cs, h => by
    have h' : headF n c = some cs := by cases c <;> exact h
    obtain ⟨h1, h2⟩ := headF_eq h'
    simp [takeC, h1, h2]
  | [], o + 1, n, cs, h => by cases h
  | v :: c, o + 1, n, cs, h => by
    have := takeF_eq (c := c) (o := o) (n := n) h
    unfold takeC at this ⊢
    split at this
    · rw [if_pos (by simp; omega)]; simpa using this
    · cases this
def overF : List Value → List Value → Option (List Value)
  | [], c => some c
  | v :: vs, _ :: c => match overF vs c with
    | some r => some (v :: r)
    | none => none
  | _ :: _, [] => none
def putF : List Value → Nat → List Value → Option (List Value)
  | c, 0, vs => overF vs c
  | u :: c, o + 1, vs => match putF c o vs with
    | some r => some (u :: r)
    | none => none
  | [], _ + 1, _ => none
theorem overF_eq : ∀ {vs c c' : List Value}, overF vs c = some c' → vs.length ≤ c.length ∧ putC c 0 vs = c'
  | [], c, c', h => by simp only [overF, Option.some.injEq] at h; subst h; cases c <;> simp [putC]
  | v :: vs, [], c', h => by cases h
  | v :: vs, u :: c, c', h => by
    simp only [overF] at h
    split at h
    · rename_i r hr
      obtain rfl := Option.some.inj h
      obtain ⟨h1, h2⟩ := overF_eq hr
      exact ⟨by simpa using h1, by simp [putC, h2]⟩
    · cases h
theorem putF_eq : ∀ {c : List Value} {o : Nat} {vs c' : List Value}, putF c o vs = some c' → o + vs.length ≤ c.length ∧ putC c o vs = c'
  | c, 0, vs, c', h => by
    have h' : overF vs c = some c' := by cases c <;> exact h
    simpa using overF_eq h'
  | [], o + 1, vs, c', h => by cases h
  | u :: c, o + 1, vs, c', h => by
    simp only [putF] at h
    split at h
    · rename_i r hr
      obtain rfl := Option.some.inj h
      obtain ⟨h1, h2⟩ := putF_eq hr
      refine ⟨by simp; omega, ?_⟩
      cases vs <;> simp [putC, h2]
    · cases h
def forceL : List Value → Option (List Value)
  | [] => some []
  | v :: c => match forceL c with
    | some r => some (v :: r)
    | none => none
theorem forceL_eq : ∀ {c c' : List Value}, forceL c = some c' → c = c'
  | [], c', h => by simpa [forceL] using h
  | v :: c, c', h => by
    simp only [forceL] at h
    split at h
    · rename_i r hr
      obtain rfl := Option.some.inj h
      rw [forceL_eq hr]
    · cases h
def fillF (place : Nat → Option (Nat × Nat)) : List Value → List (Nat × Value) → Option (List Value)
  | c, [] => some c
  | c, (i, v) :: r => match place i with
    | none => none
    | some (off, size) => match Nat.beq v.cells.toList.length size with
      | true => match putF c off v.cells.toList with
        | some c1 => fillF place c1 r
        | none => none
      | false => none
theorem fillF_eq {place : Nat → Option (Nat × Nat)} : ∀ {ps : List (Nat × Value)} {c c' : List Value}, fillF place c ps = some c' → fillL place c ps = some c'
  | [], c, c', h => h
  | (i, v) :: r, c, c', h => by
    simp only [fillF] at h
    simp only [fillL]
    cases hp : place i with
    | none => rw [hp] at h; cases h
    | some os =>
      obtain ⟨off, size⟩ := os
      rw [hp] at h
      simp only at h ⊢
      cases hb : Nat.beq v.cells.toList.length size with
      | false => rw [hb] at h; cases h
      | true =>
        rw [hb] at h
        simp only at h
        split at h
        · rename_i c1 h1
          obtain ⟨h2, h3⟩ := putF_eq h1
          rw [Nat.ble_eq_true_of_le h2, h3]
          exact fillF_eq h
        · cases h

section
variable {P : Program} [TT P] {n : Nat} {env : Env} {L M : List Ent} {dst : Option Nat} {d : Nat} {t : TypeId} {pos : String} {after : Array Edge} {g : Option (Nat × Bool)} {K : Env → List Ent → Prop}
theorem val_load1F {s : TypeId} {x : Operand} {u : TypeDesc} {sz bt : Nat} {z : List Value} {b o : Nat} {c : List Value} {T : TypeId} {fr : Nat × Nat} {v : Value} (hx : ev env x = some (.pointer (some ⟨b, o, none⟩))) (ht : ty P s = some ⟨u, sz, z, bt⟩) (ha : aggB u = false)
    (hm : (b, .cells c.toArray T fr) ∈ L) (hc : getF c o = some v) : Val P n env L ⟨dst, .load s x, t, pos, after, g⟩ v := val_load1 hx ht ha hm (getF_eq hc)
theorem val_load1R {s : TypeId} {x : Operand} {u : TypeDesc} {sz bt : Nat} {z : List Value} {b o m k : Nat} {c cs : List Value} {T : TypeId} {fr : Nat × Nat} {v : Value} (hx : ev env x = some (.pointer (some ⟨b, o + k, none⟩))) (ht : ty P s = some ⟨u, sz, z, bt⟩) (ha : aggB u = false)
    (hm : (b, .cells c.toArray T fr) ∈ L) (hr : takeC c o m = some cs) (hc : getF cs k = some v) : Val P n env L ⟨dst, .load s x, t, pos, after, g⟩ v := val_load1 hx ht ha hm (takeC_get hr (getF_eq hc))
theorem val_load1R0 {s : TypeId} {x : Operand} {u : TypeDesc} {sz bt : Nat} {z : List Value} {b o m : Nat} {c cs : List Value} {T : TypeId} {fr : Nat × Nat} {v : Value} (hx : ev env x = some (.pointer (some ⟨b, o, none⟩))) (ht : ty P s = some ⟨u, sz, z, bt⟩) (ha : aggB u = false)
    (hm : (b, .cells c.toArray T fr) ∈ L) (hr : takeC c o m = some cs) (hc : getF cs 0 = some v) : Val P n env L ⟨dst, .load s x, t, pos, after, g⟩ v := val_load1 hx ht ha hm (takeC_get (k := 0) hr (getF_eq hc))
theorem val_loadNF {s : TypeId} {x : Operand} {u : TypeDesc} {sz bt : Nat} {z : List Value} {b o : Nat} {c : List Value} {T : TypeId} {fr : Nat × Nat} {cs : List Value} (hx : ev env x = some (.pointer (some ⟨b, o, none⟩))) (ht : ty P s = some ⟨u, sz, z, bt⟩) (ha : aggB u = true)
    (hm : (b, .cells c.toArray T fr) ∈ L) (hc : takeF c o sz = some cs) : Val P n env L ⟨dst, .load s x, t, pos, after, g⟩ (.agg cs.toArray) := val_loadN hx ht ha hm (takeF_eq hc)
theorem op_store1F {s : TypeId} {x y : Operand} {u : TypeDesc} {sz bt : Nat} {z : List Value} {b o : Nat} {c : List Value} {T : TypeId} {v : Value} {L0 : List Ent} (hx : ev env x = some (.pointer (some ⟨b, o, none⟩))) (hy : ev env y = some v) (ht : ty P s = some ⟨u, sz, z, bt⟩) (hsz : sz = 1) (hv : v.oneCell' = true)
    (hp : L.Perm ((b, cellsO c T) :: L0)) {c' : List Value} (hc' : putF c o [v] = some c') (h : K env ((b, cellsO c' T) :: L0)) : Op1 P n ⟨none, .store s x y, t, pos, after, g⟩ env L K := by
  obtain ⟨h1, h2⟩ := putF_eq hc'
  have h1' : o < c.length := h1
  refine op_store1 hx hy ht hsz hv hp (by simpa [Nat.blt_eq] using h1') ?_ h
  rw [← h2, putC_eq _ _ _ h1, List.set_eq_take_append_cons_drop]
  simp [h1']
theorem op_storeNF {s : TypeId} {x y : Operand} {u : TypeDesc} {sz bt : Nat} {z : List Value} {b o : Nat} {c vs : List Value} {T : TypeId} {L0 : List Ent} (hx : ev env x = some (.pointer (some ⟨b, o, none⟩))) (hy : ev env y = some (.agg vs.toArray)) (ht : ty P s = some ⟨u, sz, z, bt⟩) (hsz : vs.length = sz) (hv : oneC vs = true)
    (hp : L.Perm ((b, cellsO c T) :: L0)) {c' : List Value} (hc' : putF c o vs = some c') (h : K env ((b, cellsO c' T) :: L0)) : Op1 P n ⟨none, .store s x y, t, pos, after, g⟩ env L K :=
  op_storeN hx hy ht hsz hv hp (Nat.ble_eq_true_of_le (putF_eq hc').1) (putF_eq hc').2 h
theorem val_buildF {s : TypeId} {sz bt : Nat} {zl : List Value} {fs : List Field} {ps : List (Nat × Nat)} {xs : List (Nat × Operand)} {vs : List (Nat × Value)} {cs : List Value} (ht : ty P s = some ⟨.struct fs.toArray, sz, zl, bt⟩) (hp : placesOf P fs = some ps) (hx : evp env xs = some vs)
    (hc : fillF (fun k => ps[k]?) zl vs = some cs) : Val P n env L ⟨dst, .build s xs.toArray, t, pos, after, g⟩ (.agg cs.toArray) := val_build ht hp hx (fillF_eq hc)
theorem op_buildSliceF {s e : TypeId} {u : TypeDesc} {si bi sz bt : Nat} {zi zl zs : List Value} {len : Nat} {xs : List (Nat × Operand)} {vs : List (Nat × Value)} {cs : List Value} (ht : ty P s = some ⟨.slice e, si, zi, bi⟩) (hj : ty P e = some ⟨u, sz, zl, bt⟩) (hz : zl.length = sz) (h0 : Nat.blt 0 sz = true) (hl : Nat.ble (len * sz) 16777216 = true) (hx : evp env xs = some vs)
    (hzs : forceL (zerosOf zl len) = some zs) (hc : fillF (stepsOf sz) zs vs = some cs) (hd : Nat.blt d n = true)
    (h : ∀ b, K ((d, .slice (some ⟨b, 0, none⟩) len len) :: env) ((b, cellsO cs e) :: L)) : Op1 P n ⟨some d, .buildSlice s len xs.toArray, t, pos, after, g⟩ env L K :=
  op_buildSlice ht hj hz h0 hl hx (by rw [forceL_eq hzs]; exact fillF_eq hc) hd h
theorem cutA_zero {A : Option Addr} {mx sz : Nat} : cutA A 0 mx sz = A := by
  unfold cutA
  split
  · rfl
  · cases A with
    | none => rfl
    | some a => simp [Addr.add]
theorem val_sliceTo {s e : TypeId} {u : TypeDesc} {si bi sz bt : Nat} {zi zl : List Value} {x y : Operand} {A : Option Addr} {m c : Nat} {h : Int} (ht : ty P s = some ⟨.slice e, si, zi, bi⟩) (hj : ty P e = some ⟨u, sz, zl, bt⟩) (hx : ev env x = some (.slice A m c))
    (hh : ev env y = some (I h)) (h1 : 0 ≤ h) (h2 : h ≤ (c : Int)) : Val P n env L ⟨dst, .slice s x none (some y) none, t, pos, after, g⟩ (.slice A h.toNat c) := by
  have := val_slice (P := P) (n := n) (env := env) (L := L) (dst := dst) (t := t) (pos := pos) (after := after) (g := g) (lo := none) (hi := some y) (mx := none) (l := 0) (h := h) (q := c) ht hj hx rfl (by simp [cutB, hh]) rfl (by simp) (by omega) h1 h2 (by omega) (by simp)
  simpa [cutA_zero] using this
theorem val_clip {s e : TypeId} {u : TypeDesc} {si bi sz bt : Nat} {zi zl : List Value} {x y z : Operand} {A : Option Addr} {m c : Nat} {h q : Int} (ht : ty P s = some ⟨.slice e, si, zi, bi⟩) (hj : ty P e = some ⟨u, sz, zl, bt⟩) (hx : ev env x = some (.slice A m c))
    (hh : ev env y = some (I h)) (hq : ev env z = some (I q)) (h1 : 0 ≤ h) (h2 : h ≤ q) (h3 : q ≤ (c : Int)) : Val P n env L ⟨dst, .slice s x none (some y) (some z), t, pos, after, g⟩ (.slice A h.toNat q.toNat) := by
  have := val_slice (P := P) (n := n) (env := env) (L := L) (dst := dst) (t := t) (pos := pos) (after := after) (g := g) (lo := none) (hi := some y) (mx := some z) (l := 0) (h := h) (q := q) ht hj hx rfl (by simp [cutB, hh]) (by simp [cutB, hq]) (by simp) (by omega) h1 h2 h3 (by simp)
  simpa [cutA_zero] using this
theorem val_sliceMid {s e : TypeId} {u : TypeDesc} {si bi sz bt : Nat} {zi zl : List Value} {x y z : Operand} {A : Option Addr} {m c : Nat} {l h : Int} (ht : ty P s = some ⟨.slice e, si, zi, bi⟩) (hj : ty P e = some ⟨u, sz, zl, bt⟩) (hx : ev env x = some (.slice A m c))
    (hl : ev env y = some (I l)) (hh : ev env z = some (I h)) (h0 : 0 ≤ l) (h1 : l ≤ h) (h2 : h ≤ (c : Int)) : Val P n env L ⟨dst, .slice s x (some y) (some z) none, t, pos, after, g⟩ (.slice (cutA A l.toNat c sz) (h.toNat - l.toNat) (c - l.toNat)) := by
  have := val_slice (P := P) (n := n) (env := env) (L := L) (dst := dst) (t := t) (pos := pos) (after := after) (g := g) (lo := some y) (hi := some z) (mx := none) (l := l) (h := h) (q := c) ht hj hx (by simp [cutB, hl]) (by simp [cutB, hh]) rfl (by simp) h0 h1 (by omega) (by omega) (by simp)
  simpa using this
theorem val_slice3 {s e : TypeId} {u : TypeDesc} {si bi sz bt : Nat} {zi zl : List Value} {x y z r : Operand} {A : Option Addr} {m c : Nat} {l h q : Int} (ht : ty P s = some ⟨.slice e, si, zi, bi⟩) (hj : ty P e = some ⟨u, sz, zl, bt⟩) (hx : ev env x = some (.slice A m c))
    (hl : ev env y = some (I l)) (hh : ev env z = some (I h)) (hq : ev env r = some (I q)) (h0 : 0 ≤ l) (h1 : l ≤ h) (h2 : h ≤ q) (h3 : q ≤ (c : Int)) : Val P n env L ⟨dst, .slice s x (some y) (some z) (some r), t, pos, after, g⟩ (.slice (cutA A l.toNat q.toNat sz) (h.toNat - l.toNat) (q.toNat - l.toNat)) :=
  val_slice ht hj hx (by simp [cutB, hl]) (by simp [cutB, hh]) (by simp [cutB, hq]) (by simp) h0 h1 h2 h3 (by simp)
theorem val_sliceFrom {s e : TypeId} {u : TypeDesc} {si bi sz bt : Nat} {zi zl : List Value} {x y : Operand} {A : Option Addr} {m c : Nat} {l : Int} (ht : ty P s = some ⟨.slice e, si, zi, bi⟩) (hj : ty P e = some ⟨u, sz, zl, bt⟩) (hx : ev env x = some (.slice A m c))
    (hl : ev env y = some (I l)) (h1 : 0 ≤ l) (h2 : l ≤ (m : Int)) (h3 : m ≤ c) : Val P n env L ⟨dst, .slice s x (some y) none none, t, pos, after, g⟩ (.slice (cutA A l.toNat c sz) (m - l.toNat) (c - l.toNat)) := by
  have := val_slice (P := P) (n := n) (env := env) (L := L) (dst := dst) (t := t) (pos := pos) (after := after) (g := g) (lo := some y) (hi := none) (mx := none) (l := l) (h := m) (q := c) ht hj hx (by simp [cutB, hl]) rfl rfl (by simp) h1 h2 (by omega) (by omega) (by intro _; omega)
  simpa using this
theorem res_cell1F {a t b o : Nat} {c : List Value} {T : TypeId} {fr : Nat × Nat} {u : TypeDesc} {sz bt : Nat} {z : List Value} {v : Value} {r : List ResultVar} {vs : List Value} (h : lk env a = some (.pointer (some ⟨b, o, none⟩))) (ht : ty P t = some ⟨u, sz, z, bt⟩) (ha : aggB u = false) (hm : (b, .cells c.toArray T fr) ∈ L) (hc : getF c o = some v) (hr : Res P env L r vs) : Res P env L (.cell a t :: r) (v :: vs) := res_cell1 h ht ha hm (getF_eq hc) hr
theorem res_cellNF {a t b o : Nat} {c cs : List Value} {T : TypeId} {fr : Nat × Nat} {u : TypeDesc} {sz bt : Nat} {z : List Value} {r : List ResultVar} {vs : List Value} (h : lk env a = some (.pointer (some ⟨b, o, none⟩))) (ht : ty P t = some ⟨u, sz, z, bt⟩) (ha : aggB u = true) (hm : (b, .cells c.toArray T fr) ∈ L) (hc : takeF c o sz = some cs) (hr : Res P env L r vs) : Res P env L (.cell a t :: r) (.agg cs.toArray :: vs) := res_cellN h ht ha hm (takeF_eq hc) hr
end

/-! ### Structs that are one -/
theorem eqFields_int {P : Program} {w : World} {d : Nat} {xs ys : Array Value} {fs : List Field} {f : Field} {a b : Int} {r : Bool} (hf : f.name ≠ "_") (hT : P.underlying f.type = some (.int .i64)) (hx : xs[f.offset]? = some (I a)) (hy : ys[f.offset]? = some (I b))
    (h : (Op.eqFields (d + 1) xs ys fs).run P w = .ok r w) : (Op.eqFields (d + 1) xs ys (f :: fs)).run P w = .ok (a == b && r) w := by
  have hagg : (isAgg f.type).run P w = .ok false w := by
    unfold isAgg; simp [Sem.run_bind, run_underlying hT]
  have he := run_equalIn_int (P := P) w d f.type .i64 .i64 a b hT
  rw [Op.eqFields, if_pos hf]
  simp only [part, Sem.run_bind, hagg, Result.andThen_ok, Bool.false_eq_true, if_false, hx, hy, Sem.run_pure, he]
  cases hab : (a == b) <;> simp [h]
theorem eqFields_sub {P : Program} [TT P] {w : World} {d : Nat} {xs ys : Array Value} {fs : List Field} {f : Field} {i : TyI} {p q : Array Value} {e r : Bool} (hf : f.name ≠ "_") (hT : ty P f.type = some i) (ha : aggB i.u = true) (hx : xs.extract f.offset (f.offset + i.size) = p) (hy : ys.extract f.offset (f.offset + i.size) = q)
    (he : (Op.equalIn d f.type (.agg p) (.agg q)).run P w = .ok e w)
    (h : (Op.eqFields d xs ys fs).run P w = .ok r w) : (Op.eqFields d xs ys (f :: fs)).run P w = .ok (e && r) w := by
  have hagg := run_isAgg (P := P) (w := w) (TT.ok _ _ hT)
  have hs := run_sizeOf (P := P) (w := w) (TT.ok _ _ hT)
  rw [Op.eqFields, if_pos hf]
  simp only [part, Sem.run_bind, hagg, ha, hs, Result.andThen_ok, if_true, hx, hy, Sem.run_pure, he]
  cases e <;> simp [h]
theorem eqFields_nil {P : Program} {w : World} {d : Nat} {xs ys : Array Value} : (Op.eqFields d xs ys []).run P w = .ok true w := rfl
theorem equal_in {P : Program} {w : World} {t : TypeId} {a b : Value} : (Op.equal t a b).run P w = (Op.equalIn (9997 + 1 + 1 + 1) t a b).run P w := by simp [Op.equal, Op.maxDepth]

section
variable {P : Program} {n : Nat} {c : Operand} {x y : Code} {b : Bool} {Q : Exit → Env → List Ent → Prop} {env : Env} {L : List Ent} {Inv : Nat → Env → List Ent → Prop} {m : Nat}
theorem WC_condT (hc : ev env c = some (.bool b)) (hb : b = true) (h : WC P n x Q env L) : WC P n (.cond c x y) Q env L := WC_true (hb ▸ hc) h
theorem WC_condF (hc : ev env c = some (.bool b)) (hb : b = false) (h : WC P n y Q env L) : WC P n (.cond c x y) Q env L := WC_false (hb ▸ hc) h
theorem loopQ_next (h : LoopEnd Inv m env L) : loopQ Inv m Q .normal env L := h
end

/-! ### Gates -/
section
variable {P : Program} {n d : Nat} {env : Env} {L : List Ent} {K : Env → List Ent → Prop} {v : Value} {t : TypeId} {pos : String} {after : Array Edge} {gd : Option (Nat × Bool)} {dst : Option Nat}
theorem gv_bin {b : BinOp} {s s' : TypeId} {x y : Operand} (h : Val P n env L ⟨dst, .binOp b s x y s', t, pos, after, gd⟩ v) : Val P n env L ⟨dst, .binOp b s x y s', t, pos, after, gd⟩ v := h
theorem gv_load {s : TypeId} {x : Operand} (h : Val P n env L ⟨dst, .load s x, t, pos, after, gd⟩ v) : Val P n env L ⟨dst, .load s x, t, pos, after, gd⟩ v := h
theorem gv_field {s : TypeId} {x : Operand} {k : Nat} (h : Val P n env L ⟨dst, .fieldAddr s x k, t, pos, after, gd⟩ v) : Val P n env L ⟨dst, .fieldAddr s x k, t, pos, after, gd⟩ v := h
theorem gv_index {s : TypeId} {x y : Operand} (h : Val P n env L ⟨dst, .indexAddr s x y, t, pos, after, gd⟩ v) : Val P n env L ⟨dst, .indexAddr s x y, t, pos, after, gd⟩ v := h
theorem gv_pick {c x y : Operand} (h : Val P n env L ⟨dst, .pick c x y, t, pos, after, gd⟩ v) : Val P n env L ⟨dst, .pick c x y, t, pos, after, gd⟩ v := h
theorem gv_build {s : TypeId} {xs : Array (Nat × Operand)} (h : Val P n env L ⟨dst, .build s xs, t, pos, after, gd⟩ v) : Val P n env L ⟨dst, .build s xs, t, pos, after, gd⟩ v := h
theorem gv_nil {x : Operand} (h : Val P n env L ⟨dst, .nilCheck x, t, pos, after, gd⟩ v) : Val P n env L ⟨dst, .nilCheck x, t, pos, after, gd⟩ v := h
theorem gv_call {c : Go.Call} (h : Val P n env L ⟨dst, .call c, t, pos, after, gd⟩ v) : Val P n env L ⟨dst, .call c, t, pos, after, gd⟩ v := h
theorem gv_sliceTo {s : TypeId} {x y : Operand} (h : Val P n env L ⟨dst, .slice s x none (some y) none, t, pos, after, gd⟩ v) : Val P n env L ⟨dst, .slice s x none (some y) none, t, pos, after, gd⟩ v := h
theorem gv_sliceMid {s : TypeId} {x y z : Operand} (h : Val P n env L ⟨dst, .slice s x (some y) (some z) none, t, pos, after, gd⟩ v) : Val P n env L ⟨dst, .slice s x (some y) (some z) none, t, pos, after, gd⟩ v := h
theorem gv_slice3 {s : TypeId} {x y z r : Operand} (h : Val P n env L ⟨dst, .slice s x (some y) (some z) (some r), t, pos, after, gd⟩ v) : Val P n env L ⟨dst, .slice s x (some y) (some z) (some r), t, pos, after, gd⟩ v := h
theorem gv_clip {s : TypeId} {x y z : Operand} (h : Val P n env L ⟨dst, .slice s x none (some y) (some z), t, pos, after, gd⟩ v) : Val P n env L ⟨dst, .slice s x none (some y) (some z), t, pos, after, gd⟩ v := h
theorem gv_sliceFrom {s : TypeId} {x y : Operand} (h : Val P n env L ⟨dst, .slice s x (some y) none none, t, pos, after, gd⟩ v) : Val P n env L ⟨dst, .slice s x (some y) none none, t, pos, after, gd⟩ v := h
theorem go_box {s : TypeId} {x : Operand} (h : Op1 P n ⟨some d, .box s x, t, pos, after, gd⟩ env L K) : Op1 P n ⟨some d, .box s x, t, pos, after, gd⟩ env L K := h
theorem go_alloc {s : TypeId} (h : Op1 P n ⟨some d, .alloc s, t, pos, after, gd⟩ env L K) : Op1 P n ⟨some d, .alloc s, t, pos, after, gd⟩ env L K := h
theorem go_buildSlice {s : TypeId} {m : Nat} {xs : Array (Nat × Operand)} (h : Op1 P n ⟨some d, .buildSlice s m xs, t, pos, after, gd⟩ env L K) : Op1 P n ⟨some d, .buildSlice s m xs, t, pos, after, gd⟩ env L K := h
theorem go_clear {xs : Array Operand} {ts : Array TypeId} (h : Op1 P n ⟨none, .call { callee := .builtin .clear, args := xs, argTypes := ts }, t, pos, after, gd⟩ env L K) : Op1 P n ⟨none, .call { callee := .builtin .clear, args := xs, argTypes := ts }, t, pos, after, gd⟩ env L K := h
theorem go_append {xs : Array Operand} {ts : Array TypeId} (h : Op1 P n ⟨some d, .call { callee := .builtin .append, args := xs, argTypes := ts }, t, pos, after, gd⟩ env L K) : Op1 P n ⟨some d, .call { callee := .builtin .append, args := xs, argTypes := ts }, t, pos, after, gd⟩ env L K := h
end
end Go.Proofs.YtoledfhjmdpihaaGreat.VE
/- Rows that are one's own. Generic over the program. -/
set_option linter.unusedVariables false
set_option linter.unusedSimpArgs false
namespace Go.Proofs.YtoledfhjmdpihaaGreat.VE
open Go

/-! ### Part of the blocks -/
def SubP (L M : List Ent) : Prop := ∃ r, L.Perm (M ++ r)
theorem SubP.lsub {L M : List Ent} (h : SubP L M) : LSub L M := by
  obtain ⟨r, h⟩ := h
  exact (LSub.perm h).trans .left
theorem SubP.refl (L : List Ent) : SubP L L := ⟨[], by rw [List.append_nil]⟩
theorem SubP.nil {L : List Ent} : SubP L [] := ⟨L, .refl _⟩
theorem SubP.drop {e : Ent} {L M : List Ent} (h : SubP L M) : SubP (e :: L) M := by
  obtain ⟨r, h⟩ := h
  exact ⟨e :: r, (h.cons e).trans List.perm_middle.symm⟩
theorem SubP.dropA {es L M : List Ent} (h : SubP L M) : SubP (es ++ L) M := by
  obtain ⟨r, h⟩ := h
  exact ⟨es ++ r, front_app (h.trans (.refl _))⟩
theorem SubP.front {es L L1 M : List Ent} (hp : L.Perm (es ++ L1)) (h : SubP L1 M) : SubP L (es ++ M) := by
  obtain ⟨r, h⟩ := h
  exact ⟨r, hp.trans (by rw [List.append_assoc]; exact h.append_left es)⟩
theorem SubP.front1 {e : Ent} {L L1 M : List Ent} (hp : L.Perm (e :: L1)) (h : SubP L1 M) : SubP L (e :: M) := SubP.front (es := [e]) hp h
theorem SubP.trans {L M N : List Ent} (h : SubP L M) (k : SubP M N) : SubP L N := by
  obtain ⟨r, h⟩ := h
  obtain ⟨q, k⟩ := k
  exact ⟨q ++ r, h.trans (by rw [← List.append_assoc]; exact k.append_right r)⟩
theorem Perm.sub {L M : List Ent} (h : L.Perm M) : SubP L M := ⟨[], by rwa [List.append_nil]⟩

abbrev lim : Nat := 2000000
/-- A row that is one's own reads as xs. -/
def Row {X : Type} (E : Enc X) (T : TypeId) (s : Sl) (xs : List X) (es : List Ent) : Prop := Own T E.sz s xs.length (E.row xs) es ∧ xs.length ≤ lim
theorem Row.at {X : Type} {E : Enc X} {T : TypeId} {s : Sl} {xs : List X} {es : List Ent} (h : Row E T s xs es) : SliceAt es E s xs := h.1.slice (Nat.le_trans h.2 (by decide))
theorem Row.atL {X : Type} {E : Enc X} {T : TypeId} {s : Sl} {xs : List X} {es L : List Ent} (h : Row E T s xs es) (hs : ∀ e ∈ es, e ∈ L) : SliceAt L E s xs := h.at.mono hs
theorem Row.nil {X : Type} {E : Enc X} {T : TypeId} {A : Option Addr} : Row E T ⟨A, 0, 0⟩ [] [] := ⟨.inl ⟨rfl, rfl, rfl, rfl, rfl⟩, Nat.zero_le _⟩
theorem Row.n {X : Type} {E : Enc X} {T : TypeId} {s : Sl} {xs : List X} {es : List Ent} (h : Row E T s xs es) : s.n = xs.length := h.1.n_eq

theorem takeC_append {c p q : List Value} {o a b : Nat} (h1 : takeC c o a = some p) (h2 : takeC c (o + a) b = some q) : takeC c o (a + b) = some (p ++ q) := by
  unfold takeC at *
  split at h1
  · split at h2
    · obtain rfl := Option.some.inj h1
      obtain rfl := Option.some.inj h2
      rw [if_pos (by omega), List.take_add, List.drop_drop]
    · cases h2
  · cases h1
theorem RowC.tail {X : Type} {E : Enc X} {c : List Value} {o : Nat} {x : X} {xs : List X} (h : RowC E c o (x :: xs)) : RowC E c (o + E.sz) xs := fun k y hy => by
  have := h (k + 1) y (by simpa using hy)
  rwa [Nat.add_mul, Nat.one_mul, show o + (k * E.sz + E.sz) = o + E.sz + k * E.sz by omega] at this
theorem RowC.all {X : Type} {E : Enc X} : ∀ {xs : List X} {c : List Value} {o : Nat}, RowC E c o xs → o ≤ c.length → takeC c o (xs.length * E.sz) = some (E.row xs)
  | [], c, o, h, ho => by simp [takeC, ho, Enc.row]
  | x :: xs, c, o, h, ho => by
    have h0 := h 0 x rfl
    simp only [Nat.zero_mul, Nat.add_zero] at h0
    have hle : o + E.sz ≤ c.length := by
      unfold takeC at h0
      split at h0
      · assumption
      · cases h0
    have ht := RowC.all h.tail hle
    have := takeC_append h0 ht
    rw [List.length_cons, Nat.add_mul, Nat.one_mul, Nat.add_comm]
    simpa [Enc.row] using this
theorem RowC.le {X : Type} {E : Enc X} {c : List Value} {o : Nat} {x : X} {xs : List X} (h : RowC E c o (x :: xs)) : o ≤ c.length := by
  have h0 := h 0 x rfl
  unfold takeC at h0
  split at h0
  · omega
  · cases h0
theorem SliceAt.one {X : Type} {E : Enc X} {L : List Ent} {b : Nat} {cs : List Value} {T : TypeId} {fr : Nat × Nat} {x : X} (hm : (b, .cells cs.toArray T fr) ∈ L) (hc : cs = E.cells x) : SliceAt L E ⟨some ⟨b, 0, none⟩, 1, 1⟩ [x] := by
  refine ⟨rfl, Nat.le_refl _, by simp [big], fun _ => ⟨b, 0, cs, T, fr, rfl, hm, ?_⟩⟩
  have := RowC.of_row E [x] []
  rwa [List.append_nil, Enc.row_one, ← hc] at this
theorem Row.lit {X : Type} {E : Enc X} {b : Nat} {cs : List Value} {T : TypeId} {xs : List X} (hc : cs = E.row xs) (hl : xs.length ≤ lim) : Row E T ⟨some ⟨b, 0, none⟩, xs.length, xs.length⟩ xs [(b, cellsO cs T)] :=
  ⟨.inr ⟨b, xs.length, [], rfl, by rw [List.append_nil, hc], E.row_length xs, Nat.le_refl _, by simp, by simp only [maxLen]; exact Nat.le_trans hl (by decide)⟩, hl⟩
/-- With something in it, it lies at the begin of a block. -/
theorem Row.block {X : Type} {E : Enc X} {T : TypeId} {s : Sl} {xs : List X} {es : List Ent} (h : Row E T s xs es) (hp : 0 < xs.length) : ∃ g cap rest, s = ⟨some ⟨g, 0, none⟩, xs.length, cap⟩ ∧ es = [(g, cellsO (E.row xs ++ rest) T)] ∧ xs.length ≤ cap ∧ cap * E.sz ≤ xs.length * E.sz + rest.length ∧ cap ≤ maxLen := by
  rcases h.1 with ⟨_, _, h3, _⟩ | ⟨g, cap, rest, h1, h2, _, h4, h5, h6⟩
  · omega
  · exact ⟨g, cap, rest, h1, h2, h4, h5, h6⟩
theorem Row.mk {X : Type} {E : Enc X} {T : TypeId} {g cap : Nat} {rest : List Value} {xs : List X} (h1 : xs.length ≤ cap) (h2 : cap * E.sz ≤ xs.length * E.sz + rest.length) (h3 : cap ≤ maxLen) (h4 : xs.length ≤ lim) : Row E T ⟨some ⟨g, 0, none⟩, xs.length, cap⟩ xs [(g, cellsO (E.row xs ++ rest) T)] :=
  ⟨.inr ⟨g, cap, rest, rfl, rfl, E.row_length xs, h1, h2, h3⟩, h4⟩
/-- The first k of them, the row cut there. -/
theorem Row.take {X : Type} {E : Enc X} {T : TypeId} {a : Option Addr} {n c : Nat} {xs : List X} {es : List Ent} (h : Row E T ⟨a, n, c⟩ xs es) {k : Nat} (hk : k ≤ xs.length) (hp : 0 < xs.length) : Row E T ⟨a, k, c⟩ (xs.take k) es := by
  obtain ⟨g, cap, rest, h1, rfl, h3, h4, h5⟩ := h.block hp
  cases h1
  have hl : (xs.take k).length = k := by rw [List.length_take]; omega
  have hrow : E.row xs ++ rest = E.row (xs.take k) ++ (E.row (xs.drop k) ++ rest) := by
    rw [← List.append_assoc, ← E.row_append, List.take_append_drop]
  rw [hrow]
  have hm : k * E.sz ≤ xs.length * E.sz := Nat.mul_le_mul_right _ hk
  have := Row.mk (E := E) (T := T) (g := g) (cap := c) (rest := E.row (xs.drop k) ++ rest) (xs := xs.take k) (by omega) (by rw [hl, List.length_append, E.row_length, List.length_drop, Nat.sub_mul]; omega) h5 (by rw [hl]; exact Nat.le_trans hk h.2)
  rwa [hl] at this
/-- Cut to what is in it. -/
theorem Row.clip {X : Type} {E : Enc X} {T : TypeId} {a : Option Addr} {n c : Nat} {xs : List X} {es : List Ent} (h : Row E T ⟨a, n, c⟩ xs es) : ∃ es', (∀ L0, SubP (es ++ L0) (es' ++ L0)) ∧ Row E T ⟨a, n, n⟩ xs es' := by
  by_cases hp : 0 < xs.length
  · obtain ⟨g, cap, rest, h1, rfl, h3, h4, h5⟩ := h.block hp
    cases h1
    exact ⟨_, fun _ => SubP.refl _, Row.mk (Nat.le_refl _) (Nat.le_add_right _ _) (Nat.le_trans h3 h5) h.2⟩
  · have hx : xs = [] := List.eq_nil_of_length_eq_zero (by omega)
    subst hx
    have hn := h.n
    simp only [List.length_nil] at hn
    subst hn
    exact ⟨[], fun _ => SubP.dropA (SubP.refl _), Row.nil⟩

theorem row_set {X : Type} (E : Enc X) (xs : List X) (x : X) (rest : List Value) {i : Nat} (hi : i < xs.length) : putC (E.row xs ++ rest) (i * E.sz) (E.cells x) = E.row (xs.set i x) ++ rest := by
  have hle : (i + 1) * E.sz ≤ xs.length * E.sz := Nat.mul_le_mul_right _ hi
  rw [Nat.add_mul, Nat.one_mul] at hle
  rw [putC_eq _ _ _ (by rw [List.length_append, E.row_length, E.len]; omega), E.len]
  have hs : xs = xs.take i ++ xs[i] :: xs.drop (i + 1) := by rw [List.getElem_cons_drop, List.take_append_drop]
  have hl : (E.row (xs.take i)).length = i * E.sz := by rw [E.row_length, List.length_take]; congr 1; omega
  have hrow : E.row xs = E.row (xs.take i) ++ (E.cells xs[i] ++ E.row (xs.drop (i + 1))) := by
    conv => lhs; rw [hs]
    simp only [Enc.row, List.flatMap_append, List.flatMap_cons]
  have hset : E.row (xs.set i x) = E.row (xs.take i) ++ (E.cells x ++ E.row (xs.drop (i + 1))) := by
    rw [List.set_eq_take_append_cons_drop, if_pos hi]
    simp [Enc.row]
  have hd : ∀ (l : List Value), (E.row (xs.take i) ++ (E.cells xs[i] ++ l)).drop (i * E.sz + E.sz) = l := fun l => by
    rw [← hl, ← E.len xs[i], ← List.append_assoc, ← List.length_append, List.drop_left]
  rw [hset, hrow]
  simp only [List.append_assoc]
  rw [hd]
  conv => lhs; rw [← hl, List.take_left]

theorem SliceAt.drop {X : Type} {L : List Ent} {E : Enc X} {a : Option Addr} {n c : Nat} {xs : List X} (h : SliceAt L E ⟨a, n, c⟩ xs) {k : Nat} (hk : k ≤ xs.length) : SliceAt L E ⟨cutA a k c E.sz, n - k, c - k⟩ (xs.drop k) := by
  have hl : (xs.drop k).length = xs.length - k := List.length_drop
  have hn : n = xs.length := h.1
  have hc : xs.length ≤ c := h.2.1
  have hb := h.2.2.1
  refine ⟨by rw [hl, hn], by rw [hl]; exact Nat.sub_le_sub_right hc k, by rw [hl]; omega, fun hp => ?_⟩
  obtain ⟨b, o, c', T, fr, h1, h2, h3⟩ := h.2.2.2 (by omega)
  replace h1 : a = _ := h1
  subst h1
  refine ⟨b, o + k * E.sz, c', T, fr, ?_, h2, fun j x hj => ?_⟩
  · unfold cutA
    rw [if_neg (by omega)]
    simp [addr_add]
  · rw [List.getElem?_drop] at hj
    have := h3 (k + j) x hj
    rwa [Nat.add_mul, ← Nat.add_assoc] at this

section
variable {P : Program} [TT P]
theorem ret_ret {rs : List ResultVar} {R : Value → List Ent → Prop} {env : Env} {L : List Ent} {vs : List Value} (h : Res P env L rs vs) (hr : ∃ M, SubP L M ∧ R (packR vs) M) : retQ P rs R .ret env L := by
  obtain ⟨M, h1, h2⟩ := hr
  exact retQ_ret h h1.lsub h2
theorem ret_normal {rs : List ResultVar} {R : Value → List Ent → Prop} {env : Env} {L : List Ent} {vs : List Value} (h : Res P env L rs vs) (hr : ∃ M, SubP L M ∧ R (packR vs) M) : retQ P rs R .normal env L := by
  obtain ⟨M, h1, h2⟩ := hr
  exact retQ_normal h h1.lsub h2
end

theorem zerosOf_one {z : List Value} (h : oneC z = true) : ∀ k, oneC (zerosOf z k) = true
  | 0 => rfl
  | k + 1 => by
    simp only [zerosOf, oneC, List.all_append, Bool.and_eq_true]
    exact ⟨h, zerosOf_one h k⟩

section
variable {P : Program} [TT P] {n : Nat} {env : Env} {L L0 : List Ent} {d : Nat} {t : TypeId} {pos : String} {after : Array Edge} {g : Option (Nat × Bool)} {K : Env → List Ent → Prop} {X : Type}

theorem op_storeRow {E : Enc X} {s : TypeId} {x y : Operand} {u : TypeDesc} {sz bt : Nat} {z : List Value} {b i : Nat} {q : Int} {T : TypeId} {xs : List X} {rest : List Value} {v : X} (hx : ev env x = some (.pointer (some ⟨b, 0 + q.toNat * sz, none⟩))) (hy : ev env y = some (.agg (E.cells v).toArray)) (ht : ty P s = some ⟨u, sz, z, bt⟩) (hE : E.sz = sz)
    (hp : L.Perm ((b, cellsO (E.row xs ++ rest) T) :: L0)) (hq : q.toNat = i) (hi : i < xs.length) (h : K env ((b, cellsO (E.row (xs.set i v) ++ rest) T) :: L0)) : Op1 P n ⟨none, .store s x y, t, pos, after, g⟩ env L K := by
  subst hq
  have hle : (q.toNat + 1) * E.sz ≤ xs.length * E.sz := Nat.mul_le_mul_right _ hi
  rw [Nat.add_mul, Nat.one_mul] at hle
  refine op_storeN hx hy ht (by rw [E.len, hE]) (E.one v) hp (Nat.ble_eq_true_of_le ?_) ?_ h
  · rw [List.length_append, E.row_length, E.len, ← hE]; omega
  · rw [← hE, Nat.zero_add]; exact row_set E xs v rest hi

theorem op_appendRow {E : Enc X} {s x : Operand} {T e : TypeId} {u : TypeDesc} {si bi sz bt : Nat} {zi zl : List Value} {sl sx : Sl} {xs ys : List X} {es : List Ent}
    (hs : ev env s = some sl.v) (hx : ev env x = some sx.v) (ht : ty P T = some ⟨.slice e, si, zi, bi⟩) (hj : ty P e = some ⟨u, sz, zl, bt⟩) (hE : E.sz = sz) (hzl : zl.length = sz) (hsz : Nat.blt 0 sz = true) (hbt : Nat.ble bt 1000 = true) (hd : Nat.blt d n = true)
    (hown : Row E e sl xs es) (hp : L.Perm (es ++ L0)) (hat : SliceAt L E sx ys) (hlen : xs.length + ys.length ≤ lim)
    (h : ∀ sl' es', Row E e sl' (xs ++ ys) es' → (xs.length + ys.length ≤ sl.c → sl'.a = sl.a ∧ sl'.c = sl.c) → K ((d, sl'.v) :: env) (es' ++ L0)) : Op1 P n ⟨some d, .call { callee := .builtin .append, args := [s, x].toArray, argTypes := [T, T].toArray }, t, pos, after, g⟩ env L K := by
  subst hE
  have hbt' := Nat.le_of_ble_eq_true hbt
  by_cases hy : 0 < ys.length
  · obtain ⟨b, o, cx, Tx, fr, ha, hm, hr⟩ := hat.2.2.2 hy
    obtain ⟨A, m, c0⟩ := sx
    have hm' : m = ys.length := hat.1
    subst hm'
    replace ha : A = _ := ha
    subst ha
    obtain ⟨y0, ys', rfl⟩ : ∃ y0 ys', ys = y0 :: ys' := by
      cases ys with
      | nil => simp at hy
      | cons a r => exact ⟨a, r, rfl⟩
    refine op_append hs hx ht hj hzl hsz hown.1 hp hm (hr.all hr.le) (E.row_oneC _) ?_ ?_ hd fun sl' es' ho hst => h sl' es' ⟨?_, ?_⟩ hst
    · exact Nat.le_trans (Nat.mul_le_mul hlen hbt') (by decide)
    · exact Nat.le_trans hlen (by decide)
    · rw [List.length_append, E.row_append]; exact ho
    · rw [List.length_append]; exact hlen
  · have hys : ys = [] := List.eq_nil_of_length_eq_zero (by omega)
    subst hys
    rw [List.append_nil] at h
    intro g' a w next Q hA hS hk
    unfold Oper.wp
    obtain ⟨xi, hxi, hxs, hxb, z, hz, hzc⟩ := (TT.ok (P := P) _ _ hj).info
    have hT := (TT.ok (P := P) _ _ ht).u
    simp only at hT
    have hm0 : sx.n = 0 := hat.1
    obtain ⟨A, m, c0⟩ := sx
    simp only at hm0
    subst hm0
    have hr := run_append_empty (P := P) (w := w) T t e xi hT hxi sl.a sl.n sl.c c0 A hown.1.le_cap
    have hred : (execOp a.eval ⟨some d, .call { callee := .builtin .append, args := [s, x].toArray, argTypes := [T, T].toArray }, t, pos, after, g⟩).run P w = .ok (.value sl.v) w := by
      simp only [execOp, resolve, invoke, builtin, Sem.run_bind, Sem.run_pure, Result.andThen_ok, List.map_toArray, List.map_cons, List.map_nil, hA.ev hs, hA.ev hx, hr]
    rw [hred]
    exact hk _ _ _ _ (hA.put (d := some d) hd _) (LSub.perm hp g' w hS) (h sl es hown (fun _ => ⟨rfl, rfl⟩))

/-- clear(s[l:]): what stands behind the first k goes. -/
theorem op_clearRow {E : Enc X} {x : Operand} {T e : TypeId} {u : TypeDesc} {si bi sz bt : Nat} {zi zl : List Value} {a : Option Addr} {k cap l m c' : Nat} {xs : List X} {es : List Ent}
    (hx : ev env x = some (.slice (cutA a l cap sz) m c')) (ht : ty P T = some ⟨.slice e, si, zi, bi⟩) (hj : ty P e = some ⟨u, sz, zl, bt⟩) (hE : E.sz = sz) (hzl : zl.length = sz) (hzo : oneC zl = true)
    (hown : Row E e ⟨a, k, cap⟩ xs es) (hp : L.Perm (es ++ L0)) (hk : k ≤ l) (hm : l + m ≤ cap)
    (h : ∀ es', Row E e ⟨a, k, cap⟩ xs es' → K env (es' ++ L0)) : Op1 P n ⟨none, .call { callee := .builtin .clear, args := [x].toArray, argTypes := [T].toArray }, t, pos, after, g⟩ env L K := by
  subst hE
  intro g' a' w next Q hA hS hk'
  unfold Oper.wp
  have hT := (TT.ok (P := P) _ _ ht).u
  simp only at hT
  have hS' := LSub.perm hp g' w hS
  have hred : ∀ v' w', (Builtin.clear_ #[T] t #[.slice (cutA a l cap E.sz) m c']).run P w = .ok v' w' →
      (execOp a'.eval ⟨none, .call { callee := .builtin .clear, args := [x].toArray, argTypes := [T].toArray }, t, pos, after, g⟩).run P w = .ok (.value v') w' := fun v' w' hr => by
    simp only [execOp, resolve, invoke, builtin, Sem.run_bind, Sem.run_pure, Result.andThen_ok, List.map_toArray, List.map_cons, List.map_nil, hA.ev hx, hr]
  by_cases hm0 : m = 0
  · subst hm0
    have hr : (Builtin.clear_ #[T] t #[.slice (cutA a l cap E.sz) 0 c']).run P w = .ok (.tuple #[]) w := by
      cases hc : cutA a l cap E.sz <;> simp [Builtin.clear_, run_underlying hT]
    rw [hred _ _ hr]
    exact hk' _ _ _ _ hA hS' (h es hown)
  · rcases hown.1 with ⟨_, h2, _⟩ | ⟨gb, cap', rest, h1, rfl, h3, h4, h5, h6⟩
    · simp only at h2; omega
    · cases h1
      obtain ⟨xi, hxi, hxs, hxb, z, hz, hzc⟩ := (TT.ok (P := P) _ _ hj).info
      replace hzc : z.cells = zl.toArray := hzc
      obtain ⟨m', rfl⟩ : ∃ m', m = m' + 1 := ⟨m - 1, by omega⟩
      have hcut : cutA (some ⟨gb, 0, none⟩) l cap E.sz = some ⟨gb, l * E.sz, none⟩ := by
        unfold cutA
        rw [if_neg (by omega)]
        simp [addr_add]
      have hh : w.heap[gb]? = some (cellsO (E.row xs ++ rest) e) := hS'.has (gb, cellsO (E.row xs ++ rest) e) List.mem_cons_self
      have hv : (zeroValue e).run P w = .ok z w := by simp [zeroValue, typeInfo, hxi, hz]
      generalize hzs : (Builtin.zeroCells z.cells (m' + 1)).toList = zs
      have hzsl : zs.length = (m' + 1) * E.sz := by rw [← hzs, Array.length_toList, size_zeroCells', hzc]; simp [hzl]
      have hzso : ∀ v ∈ zs, v.oneCell' = true := by
        intro v hv
        have hpos : 0 < zl.length := by
          rcases Nat.eq_zero_or_pos zl.length with h0 | h0
          · exfalso
            have h9 : zs = [] := List.eq_nil_of_length_eq_zero (by rw [hzsl, ← hzl, h0]; simp)
            rw [h9] at hv
            cases hv
          · exact h0
        have : zs = zerosOf zl (m' + 1) := by
          rw [← hzs, hzc]
          have h8 := range_zeros zl hpos (m' + 1)
          simp only [Builtin.zeroCells, List.size_toArray] at h8 ⊢
          rw [h8]
        rw [this] at hv
        exact oneC_spec (zerosOf_one hzo _) v hv
      have hfit : l * E.sz + zs.length ≤ (E.row xs ++ rest).toArray.size := by
        have h7 : (l + (m' + 1)) * E.sz ≤ cap * E.sz := Nat.mul_le_mul_right _ hm
        rw [Nat.add_mul] at h7
        simp only [List.size_toArray, List.length_append, E.row_length, hzsl]
        omega
      have hst := run_storeCells_at P gb (l * E.sz) e zs 0 _ w hh (by simpa using hfit) hzso
      simp only [Nat.add_zero] at hst
      have hr : (Builtin.clear_ #[T] t #[.slice (cutA (some ⟨gb, 0, none⟩) l cap E.sz) (m' + 1) c']).run P w = .ok (.tuple #[]) (w.setRow gb ((E.row xs ++ rest).toArray.toList.take (l * E.sz) ++ zs ++ (E.row xs ++ rest).toArray.toList.drop (l * E.sz + zs.length)).toArray) := by
        rw [hcut]
        simp only [Builtin.clear_, run_underlying hT, Sem.run_bind, Result.andThen_ok, hv, hzs, hst, Sem.run_pure, List.getElem?_toArray, List.getElem?_cons_zero]
      rw [hred _ _ hr]
      have hkl : xs.length * E.sz ≤ l * E.sz := Nat.mul_le_mul_right _ hk
      have hlist : (E.row xs ++ rest).take (l * E.sz) ++ zs ++ (E.row xs ++ rest).drop (l * E.sz + zs.length) = E.row xs ++ (rest.take (l * E.sz - xs.length * E.sz) ++ zs ++ rest.drop (l * E.sz + zs.length - xs.length * E.sz)) := by
        rw [List.take_append, List.drop_append, E.row_length, List.take_of_length_le (by rw [E.row_length]; exact hkl), List.drop_of_length_le (by rw [E.row_length]; omega)]
        simp
      have hset := hS'.set (o' := cellsO (E.row xs ++ (rest.take (l * E.sz - xs.length * E.sz) ++ zs ++ rest.drop (l * E.sz + zs.length - xs.length * E.sz))) e) (w' := w.setRow gb ((E.row xs ++ rest).toArray.toList.take (l * E.sz) ++ zs ++ (E.row xs ++ rest).toArray.toList.drop (l * E.sz + zs.length)).toArray) rfl rfl rfl (by simp [World.setRow]) (by rw [setRow_heap w gb _ _ e (0, 0) hh]; simp only [hlist]) (fun q hq => setRow_other w gb q _ hq)
      refine hk' _ _ _ _ hA hset (h _ ⟨.inr ⟨gb, cap, _, rfl, rfl, E.row_length xs, h4, ?_, h6⟩, hown.2⟩)
      simp only [List.length_append, List.length_take, List.length_drop, hzsl]
      simp only [List.size_toArray, List.length_append, E.row_length, hzsl] at hfit
      omega
end
end Go.Proofs.YtoledfhjmdpihaaGreat.VE
/- A struct within a row, reached by a pointer. Generic over the program. -/
set_option linter.unusedVariables false
set_option linter.unusedSimpArgs false
namespace Go.Proofs.YtoledfhjmdpihaaGreat.VE
open Go

theorem putC_twice : ∀ (c : List Value) (o : Nat) (p q : List Value), p.length = q.length → putC (putC c o p) o q = putC c o q
  | c, 0, [], q, h => by
    have : q = [] := List.eq_nil_of_length_eq_zero h.symm
    subst this
    cases c <;> rfl
  | [], 0, v :: p, q, h => by cases q <;> simp [putC]
  | x :: c, 0, v :: p, q, h => by
    cases q with
    | nil => simp at h
    | cons w q => simp only [putC]; rw [putC_twice c 0 p q (by simpa using h)]
  | [], o + 1, p, q, h => by cases p <;> cases q <;> rfl
  | x :: c, o + 1, p, q, h => by simp only [putC]; rw [putC_twice c o p q h]
theorem putC_in : ∀ (c : List Value) (o k : Nat) (cs p : List Value), o + cs.length ≤ c.length → k + p.length ≤ cs.length → putC (putC c o cs) (o + k) p = putC c o (putC cs k p)
  | c, 0, k, cs, p, h, hk => by
    rw [Nat.zero_add]
    rw [putC_eq c 0 cs (by omega), putC_eq c 0 (putC cs k p) (by rw [putC_length]; omega)]
    simp only [List.take_zero, List.nil_append, Nat.zero_add, putC_length]
    rw [putC_eq _ _ _ (by rw [List.length_append]; omega), putC_eq _ _ _ hk]
    rw [List.take_append_of_le_length (by omega), List.drop_append_of_le_length (by omega)]
    simp
  | [], o + 1, k, cs, p, h, hk => by simp at h
  | x :: c, o + 1, k, cs, p, h, hk => by
    have e1 : putC (x :: c) (o + 1) cs = x :: putC c o cs := by cases cs <;> rfl
    have e2 : putC (x :: c) (o + 1) (putC cs k p) = x :: putC c o (putC cs k p) := by cases putC cs k p <;> rfl
    rw [e1, e2, show o + 1 + k = (o + k) + 1 by omega]
    have e3 : putC (x :: putC c o cs) (o + k + 1) p = x :: putC (putC c o cs) (o + k) p := by cases p <;> rfl
    rw [e3, putC_in c o k cs p (by simp at h; omega) hk]
theorem takeC_putC {c cs : List Value} {o : Nat} (h : o + cs.length ≤ c.length) : takeC (putC c o cs) o cs.length = some cs := by
  unfold takeC
  rw [if_pos (by rw [putC_length]; exact h), putC_eq c o cs h]
  have hl : (c.take o).length = o := by rw [List.length_take]; omega
  conv => lhs; rw [List.append_assoc]; arg 1; arg 2; arg 1; rw [← hl]
  rw [List.drop_left, List.take_left]

section
variable {P : Program} [TT P] {n : Nat} {env : Env} {L L0 : List Ent} {dst : Option Nat} {t : TypeId} {pos : String} {after : Array Edge} {g : Option (Nat × Bool)} {K : Env → List Ent → Prop}
theorem val_load1P {s : TypeId} {x : Operand} {u : TypeDesc} {sz bt : Nat} {z : List Value} {b o k : Nat} {c cs : List Value} {T : TypeId} {fr : Nat × Nat} {v : Value} (hx : ev env x = some (.pointer (some ⟨b, o + k, none⟩))) (ht : ty P s = some ⟨u, sz, z, bt⟩) (ha : aggB u = false)
    (hm : (b, .cells (putC c o cs).toArray T fr) ∈ L) (ho : o + cs.length ≤ c.length) (hc : getF cs k = some v) : Val P n env L ⟨dst, .load s x, t, pos, after, g⟩ v :=
  val_load1 hx ht ha hm (takeC_get (takeC_putC ho) (getF_eq hc))
theorem op_store1P {s : TypeId} {x y : Operand} {u : TypeDesc} {sz bt : Nat} {z : List Value} {b o k : Nat} {c cs : List Value} {T : TypeId} {v : Value} (hx : ev env x = some (.pointer (some ⟨b, o + k, none⟩))) (hy : ev env y = some v) (ht : ty P s = some ⟨u, sz, z, bt⟩) (hsz : sz = 1) (hv : v.oneCell' = true)
    (hp : L.Perm ((b, cellsO (putC c o cs) T) :: L0)) (ho : o + cs.length ≤ c.length) {cs' : List Value} (hc' : putF cs k [v] = some cs') (h : K env ((b, cellsO (putC c o cs') T) :: L0)) : Op1 P n ⟨none, .store s x y, t, pos, after, g⟩ env L K := by
  obtain ⟨h1, h2⟩ := putF_eq hc'
  have h1' : k < cs.length := h1
  refine op_store1 hx hy ht hsz hv hp (by simp only [Nat.blt_eq, putC_length]; omega) ?_ h
  rw [← h2, ← putC_in c o k cs [v] ho h1, putC_eq (putC c o cs) (o + k) [v] (by rw [putC_length]; simp; omega), List.set_eq_take_append_cons_drop, if_pos (by rw [putC_length]; omega)]
  simp
end
end Go.Proofs.YtoledfhjmdpihaaGreat.VE
/- Comparisons whose outcome is known. Generic over the program. -/
set_option linter.unusedVariables false
set_option linter.unusedSimpArgs false
namespace Go.Proofs.YtoledfhjmdpihaaGreat.VE
open Go
section
variable {P : Program} {n : Nat} {env : Env} {L : List Ent} {dst : Option Nat} {t : TypeId} {pos : String} {after : Array Edge} {g : Option (Nat × Bool)} {s s' : TypeId} {x y : Operand} {k : IntKind} {p q : Int}
theorem val_neq_t (hx : ev env x = some (.int k p)) (hy : ev env y = some (.int k q)) (h : p ≠ q) : Val P n env L ⟨dst, .binOp .neq s x y s', t, pos, after, g⟩ (.bool true) := by
  have := val_neq (P := P) (n := n) (L := L) (dst := dst) (t := t) (pos := pos) (after := after) (g := g) (s := s) (s' := s') hx hy
  rwa [show (p != q) = true by simpa using h] at this
theorem val_neq_f (hx : ev env x = some (.int k p)) (hy : ev env y = some (.int k q)) (h : p = q) : Val P n env L ⟨dst, .binOp .neq s x y s', t, pos, after, g⟩ (.bool false) := by
  have := val_neq (P := P) (n := n) (L := L) (dst := dst) (t := t) (pos := pos) (after := after) (g := g) (s := s) (s' := s') hx hy
  rwa [show (p != q) = false by simpa using h] at this
theorem val_eql_t (hx : ev env x = some (.int k p)) (hy : ev env y = some (.int k q)) (h : p = q) : Val P n env L ⟨dst, .binOp .eql s x y s', t, pos, after, g⟩ (.bool true) := by
  have := val_eql (P := P) (n := n) (L := L) (dst := dst) (t := t) (pos := pos) (after := after) (g := g) (s := s) (s' := s') hx hy
  rwa [show (p == q) = true by simpa using h] at this
theorem val_eql_f (hx : ev env x = some (.int k p)) (hy : ev env y = some (.int k q)) (h : p ≠ q) : Val P n env L ⟨dst, .binOp .eql s x y s', t, pos, after, g⟩ (.bool false) := by
  have := val_eql (P := P) (n := n) (L := L) (dst := dst) (t := t) (pos := pos) (after := after) (g := g) (s := s) (s' := s') hx hy
  rwa [show (p == q) = false by simpa using h] at this
theorem val_gtr_t (hx : ev env x = some (.int k p)) (hy : ev env y = some (.int k q)) (h : q < p) : Val P n env L ⟨dst, .binOp .gtr s x y s', t, pos, after, g⟩ (.bool true) := by
  have := val_gtr (P := P) (n := n) (L := L) (dst := dst) (t := t) (pos := pos) (after := after) (g := g) (s := s) (s' := s') hx hy
  rwa [show decide (q < p) = true by simpa using h] at this
theorem val_gtr_f (hx : ev env x = some (.int k p)) (hy : ev env y = some (.int k q)) (h : p ≤ q) : Val P n env L ⟨dst, .binOp .gtr s x y s', t, pos, after, g⟩ (.bool false) := by
  have := val_gtr (P := P) (n := n) (L := L) (dst := dst) (t := t) (pos := pos) (after := after) (g := g) (s := s) (s' := s') hx hy
  rwa [show decide (q < p) = false by simpa using h] at this
theorem val_lss_t (hx : ev env x = some (.int k p)) (hy : ev env y = some (.int k q)) (h : p < q) : Val P n env L ⟨dst, .binOp .lss s x y s', t, pos, after, g⟩ (.bool true) := by
  have := val_lss (P := P) (n := n) (L := L) (dst := dst) (t := t) (pos := pos) (after := after) (g := g) (s := s) (s' := s') hx hy
  rwa [show decide (p < q) = true by simpa using h] at this
theorem val_lss_f (hx : ev env x = some (.int k p)) (hy : ev env y = some (.int k q)) (h : q ≤ p) : Val P n env L ⟨dst, .binOp .lss s x y s', t, pos, after, g⟩ (.bool false) := by
  have := val_lss (P := P) (n := n) (L := L) (dst := dst) (t := t) (pos := pos) (after := after) (g := g) (s := s) (s' := s') hx hy
  rwa [show decide (p < q) = false by simpa using h] at this
theorem val_leq_t (hx : ev env x = some (.int k p)) (hy : ev env y = some (.int k q)) (h : p ≤ q) : Val P n env L ⟨dst, .binOp .leq s x y s', t, pos, after, g⟩ (.bool true) := by
  have := val_leq (P := P) (n := n) (L := L) (dst := dst) (t := t) (pos := pos) (after := after) (g := g) (s := s) (s' := s') hx hy
  rwa [show decide (p ≤ q) = true by simpa using h] at this
theorem val_leq_f (hx : ev env x = some (.int k p)) (hy : ev env y = some (.int k q)) (h : q < p) : Val P n env L ⟨dst, .binOp .leq s x y s', t, pos, after, g⟩ (.bool false) := by
  have := val_leq (P := P) (n := n) (L := L) (dst := dst) (t := t) (pos := pos) (after := after) (g := g) (s := s) (s' := s') hx hy
  rwa [show decide (p ≤ q) = false by simpa using h] at this
theorem val_geq_t (hx : ev env x = some (.int k p)) (hy : ev env y = some (.int k q)) (h : q ≤ p) : Val P n env L ⟨dst, .binOp .geq s x y s', t, pos, after, g⟩ (.bool true) := by
  have := val_geq (P := P) (n := n) (L := L) (dst := dst) (t := t) (pos := pos) (after := after) (g := g) (s := s) (s' := s') hx hy
  rwa [show decide (q ≤ p) = true by simpa using h] at this
theorem val_geq_f (hx : ev env x = some (.int k p)) (hy : ev env y = some (.int k q)) (h : p < q) : Val P n env L ⟨dst, .binOp .geq s x y s', t, pos, after, g⟩ (.bool false) := by
  have := val_geq (P := P) (n := n) (L := L) (dst := dst) (t := t) (pos := pos) (after := after) (g := g) (s := s) (s' := s') hx hy
  rwa [show decide (q ≤ p) = false by simpa using h] at this
end
theorem RO.eq {P : Program} {f : FuncId} {args : List Value} {L : List Ent} {v u : Value} (h : RO P f args L v) (e : v = u) : RO P f args L u := e ▸ h
end Go.Proofs.YtoledfhjmdpihaaGreat.VE
/- Rows that are made; structs that are stored whole inside a block. Generic over the program. -/
set_option linter.unusedVariables false
set_option linter.unusedSimpArgs false
namespace Go.Proofs.YtoledfhjmdpihaaGreat.VE
open Go
section
variable {P : Program} [TT P] {n : Nat} {env : Env} {L L0 : List Ent} {d : Nat} {t : TypeId} {pos : String} {after : Array Edge} {g : Option (Nat × Bool)} {K : Env → List Ent → Prop}
theorem op_makeSlice {s e : TypeId} {u : TypeDesc} {si bi sz bt : Nat} {zi zl : List Value} {x y : Operand} {l c : Nat} (ht : ty P s = some ⟨.slice e, si, zi, bi⟩) (hj : ty P e = some ⟨u, sz, zl, bt⟩) (hz : zl.length = sz) (h0 : Nat.blt 0 sz = true) (hx : ev env x = some (I (l : Int))) (hy : ev env y = some (I (c : Int)))
    (hlc : Nat.ble l c = true) (hb : Nat.ble (bt * c) 200000000000 = true) (hc : Nat.ble c 2000000000 = true) (hd : Nat.blt d n = true)
    (h : ∀ b, K ((d, .slice (some ⟨b, 0, none⟩) l c) :: env) ((b, cellsO (zerosOf zl c) e) :: L)) : Op1 P n ⟨some d, .makeSlice s x y, t, pos, after, g⟩ env L K := fun g' a w next Q ha hs hk => by
  unfold Oper.wp
  obtain ⟨i, hi, his, hib, z, hz', hzc⟩ := (TT.ok (P := P) _ _ hj).info
  have hT := (TT.ok (P := P) _ _ ht).u
  simp only at hT his hib hzc
  have h0' : 0 < sz := by simpa [Nat.blt_eq] using h0
  have hb' := Nat.le_of_ble_eq_true hb
  have hc' := Nat.le_of_ble_eq_true hc
  have hlc' := Nat.le_of_ble_eq_true hlc
  have hbb : (i.bytes : Int) * (c : Int) ≤ 281474976710656 := by
    rw [hib, ← Int.natCast_mul]; omega
  have hm := run_make (P := P) w s e i z hT hi hz' .i64 .i64 (l : Int) (c : Int) (by omega) (by omega) hbb (by omega)
  simp only [Int.toNat_natCast, madeCells] at hm
  have hrg := range_zeros zl (by omega) c
  rw [his, ← hz, hzc, hrg] at hm
  have hr : (execOp a.eval ⟨some d, .makeSlice s x y, t, pos, after, g⟩).run P w = .ok (.value (.slice (some ⟨w.heap.size, 0, none⟩) l c)) { w with heap := w.heap.push (cellsO (zerosOf zl c) e) } := by
    simp only [execOp, ha.ev hx, ha.ev hy, Sem.run_bind, hm, Result.andThen_ok, Sem.run_pure, World.alloc]
  rw [hr]
  exact hk _ _ _ _ (ha.put (d := some d) hd _) (hs.new _) (h _)
theorem val_buildArr0 {dst : Option Nat} {s e : TypeId} {u : TypeDesc} {m sz bt si bi : Nat} {zl zi : List Value} (ht : ty P s = some ⟨.array m e, sz, zl, bt⟩) (hj : ty P e = some ⟨u, si, zi, bi⟩) : Val P n env L ⟨dst, .build s [].toArray, t, pos, after, g⟩ (.agg zl.toArray) := fun a w hA hL => by
  obtain ⟨x, hxi, _, _, z, hz, hzc⟩ := (TT.ok (P := P) _ _ ht).info
  have hT := (TT.ok (P := P) _ _ ht).u
  simp only at hT
  have hs := run_sizeOf (P := P) (w := w) (TT.ok _ _ hj)
  have hb : (Instr.build s #[]).run P w = .ok (.agg zl.toArray) w := by
    simp only [Instr.build, zeroValue, typeInfo, Sem.run_bind, run_program, Result.andThen_ok, hxi, Sem.run_pure, hz, hzc, run_underlying hT, hs, Instr.fill]
  simp only [execOp, List.map_toArray, List.map_nil, Sem.run_bind, hb, Result.andThen_ok, Sem.run_pure]
theorem op_storePut {s : TypeId} {x y : Operand} {u : TypeDesc} {sz bt : Nat} {z : List Value} {b o : Nat} {c cs vs : List Value} {T : TypeId} (hx : ev env x = some (.pointer (some ⟨b, o, none⟩))) (hy : ev env y = some (.agg vs.toArray)) (ht : ty P s = some ⟨u, sz, z, bt⟩) (hsz : vs.length = sz) (hv : oneC vs = true) (hl : cs.length = vs.length)
    (hp : L.Perm ((b, cellsO (putC c o cs) T) :: L0)) (ho : o + cs.length ≤ c.length) (h : K env ((b, cellsO (putC c o vs) T) :: L0)) : Op1 P n ⟨none, .store s x y, t, pos, after, g⟩ env L K := by
  refine op_storeN hx hy ht hsz hv hp (Nat.ble_eq_true_of_le ?_) (putC_twice c o cs vs hl) h
  rw [putC_eq _ _ _ ho]
  simp only [List.length_append, List.length_take, List.length_drop]; omega
end
/-- Whatever way was gone, from here on just E and M are known. -/
theorem WC_cut {P : Program} {n : Nat} {c c2 : Code} {Q : Exit → Env → List Ent → Prop} {env : Env} {L : List Ent} {X : Type} (E : X → Env) (M : X → List Ent)
    (h1 : WC P n c (fun e env' L' => e = .normal ∧ ∃ x, SubE env' (E x) ∧ LSub L' (M x)) env L) (h2 : ∀ x, WC P n c2 Q (E x) (M x)) : WC P n c (seqQ P n c2 Q) env L := by
  intro g a w ha hs
  refine wp_mono (h1 g a w ha hs) ?_
  rintro e a' w' ⟨env', L', hA, hS, rfl, x, h3, h4⟩
  exact ⟨E x, M x, h3.agree hA, h4 g w' hS, h2 x⟩
theorem Row.made {X : Type} {E : Enc X} {T : TypeId} {b c : Nat} {zl : List Value} (hz : zl.length = E.sz) (hc : c ≤ 2000000000) : Row E T ⟨some ⟨b, 0, none⟩, 0, c⟩ [] [(b, cellsO (zerosOf zl c) T)] :=
  Row.mk (E := E) (rest := zerosOf zl c) (xs := []) (Nat.zero_le _) (by rw [zerosOf_length, hz]; simp) (by simp only [maxLen]; omega) (Nat.zero_le _)
end Go.Proofs.YtoledfhjmdpihaaGreat.VE
/- Where a walk halts. Generic over the program. -/
set_option linter.unusedVariables false
namespace Go.Proofs.YtoledfhjmdpihaaGreat.VE
open Go
theorem WC_regionN (ids : List Nat) {P : Program} {n id : Nat} {l : List Oper} {Q : Exit → Env → List Ent → Prop} {env : Env} {L : List Ent} (hne : ids.contains id = false) (h : WO P n l.toArray l (fun e M => Q .normal e M) env L) : WC P n (.region id l.toArray false) Q env L := WC_region h
end Go.Proofs.YtoledfhjmdpihaaGreat.VE
/- Products, quotients, rests, bits. Generic over the program. -/
set_option linter.unusedVariables false
set_option linter.unusedSimpArgs false
namespace Go.Proofs.YtoledfhjmdpihaaGreat.VE
open Go
def xorI (p q : Int) : Int := IntKind.i64.wrap ((BitVec.ofInt 64 p ^^^ BitVec.ofInt 64 q).toNat : Int)
theorem xorI_range {p q : Int} (hp : 0 ≤ p ∧ p < 1099511627776) (hq : 0 ≤ q ∧ q < 1099511627776) : 0 ≤ xorI p q ∧ xorI p q < 1099511627776 := by
  have e1 : (BitVec.ofInt 64 p).toNat = p.toNat := by
    rw [BitVec.toNat_ofInt]; congr 1; omega
  have e2 : (BitVec.ofInt 64 q).toNat = q.toNat := by
    rw [BitVec.toNat_ofInt]; congr 1; omega
  have h : p.toNat ^^^ q.toNat < 2 ^ 40 := Nat.xor_lt_two_pow (by omega) (by omega)
  unfold xorI
  rw [BitVec.toNat_xor, e1, e2, IntKind.wrap_i64]
  omega
section
variable {P : Program} [TT P] {n : Nat} {env : Env} {L : List Ent} {dst : Option Nat} {t : TypeId} {pos : String} {after : Array Edge} {g : Option (Nat × Bool)}
omit [TT P] in
theorem val_xor {s s' : TypeId} {x y : Operand} {p q : Int} (hx : ev env x = some (I p)) (hy : ev env y = some (I q)) : Val P n env L ⟨dst, .binOp .xor s x y s', t, pos, after, g⟩ (I (xorI p q)) := fun a w hA hL => by
  have := run_arith (P := P) (w := w) (op := .xor) (k := .i64) (x := x) (y := y) (p := p) (q := q) (s := s) (r := xorI p q) (by simp only [binOp]; rfl)
  simp only [execOp, hA.ev hx, hA.ev hy]
  rw [Sem.run_bind, this]; rfl
theorem val_byte {s s2 : TypeId} {x : Operand} {p : Int} {s1 b1 s3 b2 : Nat} {z1 z2 : List Value} (hs : ty P s = some ⟨.int .u8, s1, z1, b1⟩) (hd : ty P s2 = some ⟨.int .i64, s3, z2, b2⟩) (hx : ev env x = some (.int .u8 p)) (h0 : 0 ≤ p) (h1 : p ≤ 255) : Val P n env L ⟨dst, .convert s s2 x, t, pos, after, g⟩ (I p) := fun a w hA hL => by
  have u1 := (TT.ok (P := P) _ _ hs).u
  have u2 := (TT.ok (P := P) _ _ hd).u
  simp only at u1 u2
  have hw : IntKind.i64.wrap p = p := by rw [IntKind.wrap_i64]; omega
  have hr : (convert s s2 (.int .u8 p)).run P w = .ok (I p) w := by
    simp [convert, run_underlying u1, run_underlying u2, Conv.intToInt, hw]
  simp only [execOp, hA.ev hx, Sem.run_bind, hr, Result.andThen_ok, Sem.run_pure]
end
end Go.Proofs.YtoledfhjmdpihaaGreat.VE
/- Where a walk halts ahead of a block; one place of a row. Generic over the program. -/
set_option linter.unusedVariables false
namespace Go.Proofs.YtoledfhjmdpihaaGreat.VE
open Go
theorem WC_blockN (ids : List Nat) {P : Program} {n id : Nat} {c : Code} {Q : Exit → Env → List Ent → Prop} {env : Env} {L : List Ent} (hne : ids.contains id = false) (h : WC P n c (blockQ id Q) env L) : WC P n (.block id c) Q env L := WC_block h
/-- One place of a row that is one's own. -/
theorem Row.open {X : Type} {E : Enc X} {T : TypeId} {s : Sl} {xs : List X} {es : List Ent} (h : Row E T s xs es) {i : Nat} {y : X} (hy : xs[i]? = some y) :
    ∃ (g cap : Nat) (c : List Value), s = ⟨some ⟨g, 0, none⟩, xs.length, cap⟩ ∧ 0 + i * E.sz + E.sz ≤ c.length ∧ es = [(g, cellsO (putC c (0 + i * E.sz) (E.cells y)) T)] ∧ ∀ y', Row E T s (xs.set i y') [(g, cellsO (putC c (0 + i * E.sz) (E.cells y')) T)] := by
  have hlt := (List.getElem?_eq_some_iff.1 hy).1
  obtain ⟨g, cap, rest, rfl, rfl, hb1, hb2, hb3⟩ := h.block (by omega)
  have hle : (i + 1) * E.sz ≤ xs.length * E.sz := Nat.mul_le_mul_right _ (by omega)
  rw [Nat.succ_mul] at hle
  have hset0 : ∀ p' : X, putC (E.row xs ++ rest) (0 + i * E.sz) (E.cells p') = E.row (xs.set i p') ++ rest := fun p' => by
    rw [Nat.zero_add]; exact row_set E xs p' rest hlt
  have hsame : xs.set i y = xs := by
    obtain ⟨hl, he⟩ := List.getElem?_eq_some_iff.1 hy
    rw [← he, List.set_getElem_self]
  refine ⟨g, cap, E.row xs ++ rest, rfl, ?_, ?_, fun y' => ?_⟩
  · rw [List.length_append, E.row_length]; omega
  · have h9 := hset0 y
    rw [hsame] at h9
    exact congrArg (fun x => [(g, cellsO x T)]) h9.symm
  · have hk := Row.mk (E := E) (T := T) (g := g) (cap := cap) (rest := rest) (xs := xs.set i y') (by simpa using hb1) (by simpa using hb2) hb3 (by simpa using h.2)
    rw [← hset0 y', List.length_set] at hk
    exact hk
end Go.Proofs.YtoledfhjmdpihaaGreat.VE
/- A cut at the end of a block. Generic over the program. -/
set_option linter.unusedVariables false
namespace Go.Proofs.YtoledfhjmdpihaaGreat.VE
open Go
theorem WC_cutB {P : Program} {n id : Nat} {c c2 : Code} {Q : Exit → Env → List Ent → Prop} {env : Env} {L : List Ent} {X : Type} (E : X → Env) (M : X → List Ent)
    (h1 : WC P n c (fun e env' L' => e = .normal ∧ ∃ x, SubE env' (E x) ∧ LSub L' (M x)) env L) (h2 : ∀ x, WC P n c2 Q (E x) (M x)) : WC P n c (blockQ id (seqQ P n c2 Q)) env L := by
  intro g a w ha hs
  refine wp_mono (h1 g a w ha hs) ?_
  rintro e a' w' ⟨env', L', hA, hS, rfl, x, h3, h4⟩
  exact ⟨E x, M x, h3.agree hA, h4 g w' hS, blockQ_normal (seqQ_normal (h2 x))⟩
end Go.Proofs.YtoledfhjmdpihaaGreat.VE
/- Short names for what closes a goal, and for the next step of a walk. -/
set_option linter.unusedVariables false
set_option linter.unusedSectionVars false
namespace Go.Proofs.YtoledfhjmdpihaaGreat.VE
open Go Go.Proofs
attribute [local irreducible] Val Op1 WO WR WA WC seqQ blockQ loopQ retQ
theorem kM {p : Prop} (h : p := by ((repeat (first | apply List.mem_cons_self | with_reducible assumption | (apply List.mem_append_left; with_reducible assumption) | apply List.mem_cons_of_mem | apply List.mem_append_right)); done)) : p := h
theorem memc {e : Ent} {M L : List Ent} (h1 : e ∈ L) (h2 : ∀ x ∈ M, x ∈ L) : ∀ x ∈ e :: M, x ∈ L := List.forall_mem_cons.2 ⟨h1, h2⟩
theorem memn {L : List Ent} : ∀ x ∈ ([] : List Ent), x ∈ L := fun _ h => (List.not_mem_nil h).elim
theorem kS {p : Prop} (h : p := by first | exact fun _ h => h | ((repeat (refine memc ?_ ?_; exact kM)); apply memn) | (intro _ _; exact kM)) : p := h
theorem kF {p : Prop} (h : p := by ((repeat (first | apply frontO_here | apply frontO_cons | apply frontO_app)); done)) : p := h
theorem kE {p : Prop} (h : p := by ((repeat (first | exact List.Perm.refl _ | apply front_here | apply front_cons | apply front_app | apply front_end)); done)) : p := h
theorem kP {p : Prop} (h : p := by ((repeat (first | exact SubP.refl _ | apply SubP.nil | (refine SubP.front1 (by first | exact List.Perm.refl _ | (apply frontO_cons; exact kF) | (apply frontO_app; exact kF)) ?_) | (refine SubP.front (by exact kE) ?_) | refine SubP.drop ?_ | refine SubP.dropA ?_)); done)) : p := h
theorem kL {p : Prop} (h : p := by first | ((repeat (first | exact LSub.refl _ | refine LSub.trans LSub.drop ?_ | refine LSub.trans LSub.right ?_)); done) | exact SubP.lsub (by exact kP)) : p := h
theorem kQ {p : Prop} (h : p := by repeat (first | exact trivial | refine ⟨rfl, ?_⟩)) : p := h
theorem kO {p : Prop} (h : p := by first | omega | (dsimp only; omega)) : p := h
theorem kT {p : Prop} (h : p := by first | assumption | rfl | omega | (dsimp only; omega)) : p := h
theorem kN {p : Prop} (h : p := by first | omega | (simp only [List.length_append, List.length_cons, List.length_nil, lim] at *; omega) | simp_all) : p := h
theorem kD {p : Prop} (h : p := by first | (simp only [decide_eq_true_eq, decide_eq_false_iff_not, beq_iff_eq, beq_eq_false_iff_ne, bne_iff_ne, bne_eq_false_iff_eq, ne_eq, Bool.not_eq_true', Bool.not_eq_false']; omega) | (simp only [decide_eq_true_eq, decide_eq_false_iff_not]; assumption) | assumption) : p := h
theorem kZ {p : Prop} (h : p := by first | exact val_load1F rfl rfl rfl (by exact kM) rfl | exact val_loadNF rfl rfl rfl (by exact kM) rfl | exact val_loadN rfl rfl rfl (by exact kM) (by assumption) | exact val_load1R rfl rfl rfl (by exact kM) (by assumption) rfl | exact val_load1R0 rfl rfl rfl (by exact kM) (by assumption) rfl | exact val_load1P rfl rfl rfl (by exact kM) (by assumption) rfl) : p := h
theorem kV {p : Prop} (h : p := by first | (apply gv_bin; first | exact val_eql rfl rfl | exact val_lss rfl rfl | exact val_geq rfl rfl | exact val_leq rfl rfl | exact val_gtr rfl rfl | exact val_neq rfl rfl | (refine val_add rfl rfl ?_ ?_ <;> exact kO) | (refine val_sub rfl rfl ?_ ?_ <;> exact kO) | exact val_eq_nil rfl rfl | exact val_eq_ptr_nil rfl rfl | exact val_ne_ptr_nil rfl rfl) | (apply gv_field; first | exact val_fieldAddr0 rfl rfl | exact val_fieldAddr rfl rfl) | (apply gv_pick; first | exact val_pick_true rfl rfl | exact val_pick_false rfl rfl) | exact val_move rfl | exact val_assign rfl | (apply gv_index; first | (refine val_indexAddr rfl rfl rfl rfl ?_ ?_ <;> exact kO) | (refine val_indexAddr_arr rfl rfl rfl rfl ?_ ?_ <;> exact kO)) | (apply gv_call; first | exact val_len rfl rfl | exact val_max rfl rfl | exact val_min rfl rfl) | (apply gv_nil; first | exact val_nilCheck rfl | exact val_nilCheck_func rfl) | (apply gv_build; exact val_buildF rfl rfl rfl rfl) | (apply gv_sliceTo; exact val_sliceTo rfl rfl rfl rfl (by exact kO) (by exact kO)) | (apply gv_sliceMid; exact val_sliceMid rfl rfl rfl rfl rfl (by exact kO) (by exact kO) (by exact kO)) | (apply gv_slice3; exact val_slice3 rfl rfl rfl rfl rfl rfl (by exact kO) (by exact kO) (by exact kO) (by exact kO)) | (apply gv_clip; exact val_clip rfl rfl rfl rfl rfl (by exact kO) (by exact kO) (by exact kO)) | (apply gv_sliceFrom; exact val_sliceFrom rfl rfl rfl rfl (by exact kO) (by exact kO) (by exact kO)) | exact val_extract rfl rfl | exact val_not rfl | exact val_makeFunc rfl rfl) : p := h
theorem kI {p : Prop} (h : p := by first | (apply gv_bin; first | exact val_eql_t rfl rfl (by exact kT) | exact val_eql_f rfl rfl (by exact kT) | exact val_neq_t rfl rfl (by exact kT) | exact val_neq_f rfl rfl (by exact kT) | exact val_lss_t rfl rfl (by exact kT) | exact val_lss_f rfl rfl (by exact kT) | exact val_leq_t rfl rfl (by exact kT) | exact val_leq_f rfl rfl (by exact kT) | exact val_gtr_t rfl rfl (by exact kT) | exact val_gtr_f rfl rfl (by exact kT) | exact val_geq_t rfl rfl (by exact kT) | exact val_geq_f rfl rfl (by exact kT)) | exact kV) : p := h
def Im (Q P : Prop) : Prop := Q → P
theorem im {Q : Prop} : Im Q Q := fun q => q
section
variable {P : Program} {n d i : Nat} {c : Code} {ops : Array Oper} {o : Oper} {l : List Oper} {r r' : Run} {M : List Ent} {K : Exit → Env → List Ent → Prop} {K' : Env → List Ent → Prop} {env : Env} {L : List Ent} {op : Op} {t : TypeId} {pos : String} {after : Array Edge} {gd : Option (Nat × Bool)} {R : Prop}
theorem gC (h : Im R (WC P n c K env L)) : Im R (WC P n c K env L) := h
theorem gO (h : Im R (WO P n ops l K' env L)) : Im R (WO P n ops l K' env L) := h
theorem gR (h : Im R (WR P n ops M r K' env L)) : Im R (WR P n ops M r K' env L) := h
theorem gA (h : Im R (WA P n ops M r K' env L)) : Im R (WA P n ops M r K' env L) := h
theorem gR0 (h : Im R (WR P n ops M (.st i 0 r) K' env L)) : Im R (WR P n ops M (.st i 0 r) K' env L) := h
theorem gR1 (h : Im R (WR P n ops M (.st i 1 r) K' env L)) : Im R (WR P n ops M (.st i 1 r) K' env L) := h
theorem gA2 (h : Im R (WA P n ops M (.st i 2 r) K' env L)) : Im R (WA P n ops M (.st i 2 r) K' env L) := h
theorem gA3 (h : Im R (WA P n ops M (.st i 3 r) K' env L)) : Im R (WA P n ops M (.st i 3 r) K' env L) := h
theorem gB {id j : Nat} (h : Im R (blockQ id K (.exit j) env L)) : Im R (blockQ id K (.exit j) env L) := h
theorem gK (h : Im R ((∀ e ∈ M, e ∈ L) ∧ WR P n ops M r K' env L)) : Im R ((∀ e ∈ M, e ∈ L) ∧ WR P n ops M r K' env L) := h
theorem gS {s : TypeId} {x y : Operand} (h : Im R (Op1 P n ⟨none, .store s x y, t, pos, after, gd⟩ env L K')) : Im R (Op1 P n ⟨none, .store s x y, t, pos, after, gd⟩ env L K') := h
theorem gL {s : TypeId} {x : Operand} (h : Im R (Op1 P n ⟨some d, .load s x, t, pos, after, gd⟩ env L K')) : Im R (Op1 P n ⟨some d, .load s x, t, pos, after, gd⟩ env L K') := h
theorem gP {cc x y : Operand} (h : Im R (Op1 P n ⟨some d, .pick cc x y, t, pos, after, gd⟩ env L K')) : Im R (Op1 P n ⟨some d, .pick cc x y, t, pos, after, gd⟩ env L K') := h
theorem iO (hg : wantE ops env o.guard = some true) (h : Im R (Op1 P n o env L (WO P n ops l K'))) : Im R (WO P n ops (o :: l) K' env L) := fun r => WO_op hg (h r)
theorem iK (ho : ops[i]? = some o) (hg : wantE ops env o.guard = some true) (h : Im R (Op1 P n o env L (fun env' L' => (∀ e ∈ M, e ∈ L') ∧ WR P n ops M r K' env' L'))) : Im R (WA P n ops M (.st i 2 r) K' env L) := fun r => WA_keep ho hg (h r)
theorem iL (ho : ops[i]? = some o) (hg : wantE ops env o.guard = some true) (h : Im R (Op1 P n o env L (WR P n ops M r K'))) : Im R (WA P n ops M (.st i 3 r) K' env L) := fun r => WA_last ho hg (h r)
end
theorem kA {P Q : Prop} (h : Im Q P := by first | exact op_alloc rfl rfl | exact op_box rfl rfl rfl | exact op_buildSliceF rfl rfl rfl rfl rfl rfl rfl rfl rfl) : Im Q P := h
theorem kX {P Q : Prop} (h : Im Q P := by first | (apply gS; first | exact op_store1F rfl rfl rfl rfl rfl (by exact kF) rfl | exact op_storeNF rfl rfl rfl rfl rfl (by exact kF) rfl | exact op_store1P rfl rfl rfl rfl rfl (by exact kF) (by assumption) rfl) | (apply gL; exact op_val rfl (by exact kZ)) | exact op_val rfl (by exact kV)) : Im Q P := h
theorem kJ {P Q : Prop} (h : Im Q P := by first | (apply gS; first | exact op_store1F rfl rfl rfl rfl rfl (by exact kF) rfl | exact op_storeNF rfl rfl rfl rfl rfl (by exact kF) rfl | exact op_store1P rfl rfl rfl rfl rfl (by exact kF) (by assumption) rfl) | (apply gL; exact op_val rfl (by exact kZ)) | exact op_val rfl (by exact kI)) : Im Q P := h
theorem kC {P Q : Prop} (h : Im Q P := by first | (apply gC; first | apply WC_seq | apply WC_skip | apply WC_ret | apply WC_exit | exact WC_true rfl | exact WC_false rfl) | apply seqQ_normal | apply seqQ_ret | apply seqQ_exit | apply blockQ_normal | apply blockQ_ret | apply blockQ_same | (apply gB; exact blockQ_other (by decide)) | apply loopQ_ret | apply loopQ_exit | (apply gK; exact keep_intro (by exact kS))) : Im Q P := h
theorem nX {P Q : Prop} (q : Q) (h : Im Q P := by first | (apply gO; first | apply WO_nil | exact WO_left rfl rfl | (apply iO; exact rfl; exact kX)) | exact kC | (apply gR; first | apply WR_nil | (apply gR0; first | exact WR_left rfl rfl rfl | exact WR_pure rfl rfl rfl (by exact kV)) | (apply gR1; first | exact WR_left1 rfl rfl rfl (by exact kS) | exact WR_load rfl rfl rfl (by exact kZ) (by exact kS))) | (apply gA; first | (apply gA2; first | exact WA_keep_left rfl rfl rfl (by exact kS) | (apply iK; exact rfl; exact rfl; exact kX)) | (apply gA3; first | exact WA_last_left rfl rfl rfl | (apply iL; exact rfl; exact rfl; exact kX)))) : P := h q
theorem nI {P Q : Prop} (q : Q) (h : Im Q P := by first | (apply gO; first | apply WO_nil | exact WO_left rfl rfl | (apply iO; exact rfl; exact kJ)) | exact kC | (apply gR; first | apply WR_nil | (apply gR0; first | exact WR_left rfl rfl rfl | exact WR_pure rfl rfl rfl (by exact kI)) | (apply gR1; first | exact WR_left1 rfl rfl rfl (by exact kS) | exact WR_load rfl rfl rfl (by exact kZ) (by exact kS))) | (apply gA; first | (apply gA2; first | exact WA_keep_left rfl rfl rfl (by exact kS) | (apply iK; exact rfl; exact rfl; exact kJ)) | (apply gA3; first | exact WA_last_left rfl rfl rfl | (apply iL; exact rfl; exact rfl; exact kJ)))) : P := h q
theorem nW {P Q : Prop} (q : Q) (h : Im Q P := by first | (apply iO; exact rfl; apply im) | (apply iL; exact rfl; exact rfl; apply im) | (apply iK; exact rfl; exact rfl; apply im)) : P := h q
theorem nA {P Q : Prop} (q : Q) (h : Im Q P := by first | (apply iO; exact rfl; exact kA) | (apply iL; exact rfl; exact rfl; exact kA) | (apply iK; exact rfl; exact rfl; exact kA)) : P := h q
theorem nR {P Q : Prop} (q : Q) (h : Im Q P := by first | apply WC_region | apply WC_block) : P := h q
theorem nY {P Q : Prop} (q : Q) (h : Im Q P := by first | (apply iO; exact rfl; apply gP; exact op_val rfl (by exact val_pick rfl rfl rfl)) | (apply gR; first | (apply gR0; exact WR_pure rfl rfl rfl (by apply gv_pick; exact val_pick rfl rfl rfl)) | apply WR_keep | apply WR_last | apply WR_alt) | (apply gA; first | (apply iL; exact rfl; exact rfl; apply gP; exact op_val rfl (by exact val_pick rfl rfl rfl)) | (apply iK; exact rfl; exact rfl; apply gP; exact op_val rfl (by exact val_pick rfl rfl rfl)))) : P := h q
theorem kR0 {p : Prop} (h : p := by first | apply res_nil | exact res_tmp rfl res_nil | exact res_cell1F rfl rfl rfl (by exact kM) rfl res_nil | exact res_cellNF rfl rfl rfl (by exact kM) rfl res_nil) : p := h
theorem kR1 {p : Prop} (h : p := by first | exact res_tmp rfl (by exact kR0) | exact res_cell1F rfl rfl rfl (by exact kM) rfl (by exact kR0) | exact res_cellNF rfl rfl rfl (by exact kM) rfl (by exact kR0)) : p := h
theorem kR2 {p : Prop} (h : p := by first | exact res_tmp rfl (by exact kR1) | exact res_cell1F rfl rfl rfl (by exact kM) rfl (by exact kR1) | exact res_cellNF rfl rfl rfl (by exact kM) rfl (by exact kR1)) : p := h
theorem kR {p : Prop} (h : p := by first | exact kR0 | exact res_tmp rfl (res_tmp rfl res_nil) | exact res_tmp rfl (res_tmp rfl (res_tmp rfl res_nil)) | exact kR1 | exact kR2) : p := h
end Go.Proofs.YtoledfhjmdpihaaGreat.VE
/- Two truth values compared. Generic over the program. -/
set_option linter.unusedVariables false
namespace Go.Proofs.YtoledfhjmdpihaaGreat.VE
open Go
theorem eqInB {P : Program} {w : World} {s : TypeId} {p q : Bool} {d : Nat} (hT : P.underlying s = some .bool) : (Op.equalIn (d + 1) s (.bool p) (.bool q)).run P w = .ok (p == q) w := by
  simp only [Op.equalIn, Sem.run_bind, run_underlying hT, Result.andThen_ok, Sem.run_pure]
section
variable {P : Program} [TT P] {n : Nat} {env : Env} {L : List Ent} {dst : Option Nat} {t : TypeId} {pos : String} {after : Array Edge} {g : Option (Nat × Bool)}
theorem val_neqB {s s' : TypeId} {x y : Operand} {p q : Bool} {sz bt : Nat} {z : List Value} (hx : ev env x = some (.bool p)) (hy : ev env y = some (.bool q)) (ht : ty P s = some ⟨.bool, sz, z, bt⟩) : Val P n env L ⟨dst, .binOp .neq s x y s', t, pos, after, g⟩ (.bool (p != q)) := fun a w hA hL => by
  have hT := (TT.ok (P := P) _ _ ht).u
  simp only at hT
  have he : (Op.equal s (.bool p) (.bool q)).run P w = .ok (p == q) w := by
    rw [equal_in]; exact eqInB hT
  have h : (binOp .neq s (.bool p) (.bool q)).run P w = .ok (.bool (p != q)) w := by
    simp only [binOp, Sem.run_bind, he, Result.andThen_ok, Sem.run_pure]; rfl
  have hg : (eqGuard .neq s x y (.bool p) (.bool q)).run P w = .ok () w := rfl
  simp only [execOp, hA.ev hx, hA.ev hy, Sem.run_bind, hg, Result.andThen_ok, h, Sem.run_pure]
theorem val_eqlB {s s' : TypeId} {x y : Operand} {p q : Bool} {sz bt : Nat} {z : List Value} (hx : ev env x = some (.bool p)) (hy : ev env y = some (.bool q)) (ht : ty P s = some ⟨.bool, sz, z, bt⟩) : Val P n env L ⟨dst, .binOp .eql s x y s', t, pos, after, g⟩ (.bool (p == q)) := fun a w hA hL => by
  have hT := (TT.ok (P := P) _ _ ht).u
  simp only at hT
  have he : (Op.equal s (.bool p) (.bool q)).run P w = .ok (p == q) w := by
    rw [equal_in]; exact eqInB hT
  have h : (binOp .eql s (.bool p) (.bool q)).run P w = .ok (.bool (p == q)) w := by
    simp only [binOp, Sem.run_bind, he, Result.andThen_ok, Sem.run_pure]
  have hg : (eqGuard .eql s x y (.bool p) (.bool q)).run P w = .ok () w := rfl
  simp only [execOp, hA.ev hx, hA.ev hy, Sem.run_bind, hg, Result.andThen_ok, h, Sem.run_pure]
omit [TT P] in
theorem val_remE {s s' : TypeId} {x y : Operand} {p q r : Int} (hx : ev env x = some (I p)) (hy : ev env y = some (I q)) (h0 : 0 ≤ p) (h1 : 0 < q) (hr : p % q = r) : Val P n env L ⟨dst, .binOp .rem s x y s', t, pos, after, g⟩ (I r) := by
  subst hr; exact val_rem hx hy h0 h1
omit [TT P] in
theorem val_quoE {s s' : TypeId} {x y : Operand} {p q r : Int} (hx : ev env x = some (I p)) (hy : ev env y = some (I q)) (h0 : 0 ≤ p) (hp : p ≤ 9223372036854775807) (h1 : 0 < q) (hr : p / q = r) : Val P n env L ⟨dst, .binOp .quo s x y s', t, pos, after, g⟩ (I r) := by
  subst hr; exact val_quo hx hy h0 hp h1
theorem val_neqB_f {s s' : TypeId} {x y : Operand} {p : Bool} {sz bt : Nat} {z : List Value} (hx : ev env x = some (.bool p)) (hy : ev env y = some (.bool p)) (ht : ty P s = some ⟨.bool, sz, z, bt⟩) : Val P n env L ⟨dst, .binOp .neq s x y s', t, pos, after, g⟩ (.bool false) := by
  have := val_neqB (P := P) (n := n) (L := L) (dst := dst) (t := t) (pos := pos) (after := after) (g := g) (s' := s') hx hy ht
  rwa [show (p != p) = false by simp] at this
theorem val_eqlB_t {s s' : TypeId} {x y : Operand} {p : Bool} {sz bt : Nat} {z : List Value} (hx : ev env x = some (.bool p)) (hy : ev env y = some (.bool p)) (ht : ty P s = some ⟨.bool, sz, z, bt⟩) : Val P n env L ⟨dst, .binOp .eql s x y s', t, pos, after, g⟩ (.bool true) := by
  have := val_eqlB (P := P) (n := n) (L := L) (dst := dst) (t := t) (pos := pos) (after := after) (g := g) (s' := s') hx hy ht
  rwa [show (p == p) = true by simp] at this
end
end Go.Proofs.YtoledfhjmdpihaaGreat.VE
