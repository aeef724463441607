/- A test of an interface against nothing; a piece of a row of texts. Generic over the program. -/
import Derived.WideLaws
import Derived.Lib.AtoiAll
import Derived.Lib.AtoiErrMem
import Derived.Test.YtoledfhjmdpihaaGreatDoorA21
import Derived.Test.YtoledfhjmdpihaaGreatDoorA22
import Derived.Test.YtoledfhjmdpihaaGreatDoorX4
import Derived.Test.YtoledfhjmdpihaaGreatDoorA23
import Derived.Test.YtoledfhjmdpihaaGreatDoorA4
set_option linter.unusedVariables false
set_option linter.unusedSimpArgs false
namespace Go.Proofs.YtoledfhjmdpihaaGreatDoor.VE
open Go
section
variable {P : Program} {n : Nat} {env : Env} {L : List Ent} {dst : Option Nat} {t : TypeId} {pos : String} {after : Array Edge} {g : Option (Nat × Bool)} {s s' : TypeId} {x : Operand}
theorem val_neqI_nil (hx : ev env x = some .nilIface) (ht : P.underlying s = some (.interface (P.methodsAt s))) : Val P n env L ⟨dst, .binOp .neq s x (.const .nilIface) s', t, pos, after, g⟩ (.bool false) := fun a w hA hL => by
  have hg : (eqGuard .neq s x (.const .nilIface) .nilIface .nilIface).run P w = .ok () w := by rw [eqGuard_nil_constR]; rfl
  have hb : (binOp .neq s .nilIface .nilIface).run P w = .ok (.bool false) w := run_neq_nil_nil w s ht
  have hy : ev env (.const .nilIface) = some .nilIface := rfl
  simp only [execOp, hA.ev hx, hA.ev hy, Sem.run_bind, hg, Result.andThen_ok, hb, Sem.run_pure]
theorem val_neqI_held {d : TypeId} {z : Value} (hx : ev env x = some (.iface d z)) (ht : P.underlying s = some (.interface (P.methodsAt s))) : Val P n env L ⟨dst, .binOp .neq s x (.const .nilIface) s', t, pos, after, g⟩ (.bool true) := fun a w hA hL => by
  have hg : (eqGuard .neq s x (.const .nilIface) (.iface d z) .nilIface).run P w = .ok () w := by
    rw [show eqGuard .neq s x (.const .nilIface) (.iface d z) .nilIface = pure () from rfl]; rfl
  have hb : (binOp .neq s (.iface d z) .nilIface).run P w = .ok (.bool true) w := run_neq_held_nil w s d z ht
  have hy : ev env (.const .nilIface) = some .nilIface := rfl
  simp only [execOp, hA.ev hx, hA.ev hy, Sem.run_bind, hg, Result.andThen_ok, hb, Sem.run_pure]
end
end Go.Proofs.YtoledfhjmdpihaaGreatDoor.VE
/- Texts of seals and words read back, without memory. -/
set_option linter.unusedVariables false
set_option linter.unusedSimpArgs false
namespace Go.Proofs.YtoledfhjmdpihaaGreatDoor
open Go
/-! ### Numbers read back -/
def atoiV (w : Str) : Option Int := match Lib.atoiAll w with
  | .ok v => some v
  | _ => none
theorem dig_all : ((List.range 1000).all fun n => decide (atoiV (dec (n : Int)) = some (n : Int)) && decide (numOf (dec (n : Int)) = (n : Int)) && decide ((dec (n : Int)).length ≤ 3) && (dec (n : Int)).all (fun b => decide (b ≠ 32) && decide (b ≠ 10))) = true := by decide +kernel
structure Dig (n : Int) : Prop where
  atoi : atoiV (dec n) = some n
  num : numOf (dec n) = n
  len : (dec n).length ≤ 3
  no32 : (32 : UInt8) ∉ dec n
  no10 : (10 : UInt8) ∉ dec n
theorem dig {n : Int} (h0 : 0 ≤ n) (h1 : n ≤ 999) : Dig n := by
  obtain ⟨k, rfl⟩ : ∃ k : Nat, n = (k : Int) := ⟨n.toNat, by omega⟩
  have h := List.all_eq_true.1 dig_all k (List.mem_range.2 (by omega))
  simp only [Bool.and_eq_true, decide_eq_true_eq] at h
  obtain ⟨⟨⟨h2, h3⟩, h4⟩, h5⟩ := h
  have h6 := List.all_eq_true.1 h5
  refine ⟨h2, h3, h4, fun hm => ?_, fun hm => ?_⟩
  · have := h6 _ hm; simp at this
  · have := h6 _ hm; simp at this
theorem dec_inj {n m : Int} (h0 : 0 ≤ n) (h1 : n ≤ 999) (h2 : 0 ≤ m) (h3 : m ≤ 999) (h : dec n = dec m) : n = m := by
  rw [← (dig h0 h1).num, ← (dig h2 h3).num, h]
def readN (ws : List Str) (many : Nat) : Option (List Int) := if ws.length = many then ws.mapM atoiV else none
theorem mapM_dec : ∀ ns : List Int, (∀ n ∈ ns, 0 ≤ n ∧ n ≤ 999) → (ns.map dec).mapM atoiV = some ns
  | [], _ => rfl
  | n :: r, h => by
    have h1 := h n List.mem_cons_self
    rw [List.map_cons, List.mapM_cons, (dig h1.1 h1.2).atoi, mapM_dec r (fun m hm => h m (List.mem_cons_of_mem _ hm))]
    rfl
theorem readN_dec {ns : List Int} {k : Nat} (h : ∀ n ∈ ns, 0 ≤ n ∧ n ≤ 999) (hk : ns.length = k) : readN (ns.map dec) k = some ns := by
  unfold readN
  rw [if_pos (by rw [List.length_map]; exact hk), mapM_dec ns h]
theorem mapM_len : ∀ (ws : List Str) (ns : List Int), ws.mapM atoiV = some ns → ns.length = ws.length
  | [], ns, h => by simp at h; subst h; rfl
  | w :: r, ns, h => by
    rw [List.mapM_cons] at h
    cases hw : atoiV w with
    | none => rw [hw] at h; cases h
    | some n =>
      cases hr : r.mapM atoiV with
      | none => rw [hw, hr] at h; cases h
      | some ms =>
        rw [hw, hr] at h
        have : n :: ms = ns := by simpa using h
        subst this
        rw [List.length_cons, List.length_cons, mapM_len r ms hr]
theorem readN_len {ws : List Str} {k : Nat} {ns : List Int} (h : readN ws k = some ns) : ns.length = k := by
  unfold readN at h
  split at h
  · rename_i hk; rw [← hk]; exact mapM_len ws ns h
  · cases h
theorem mapM_take : ∀ (ws : List Str) (ns : List Int), ws.mapM atoiV = some ns → ∀ (k : Nat) (w : Str), ws[k]? = some w → ∃ n, ns[k]? = some n ∧ atoiV w = some n
  | [], _, _, k, w, h => by simp at h
  | x :: r, ns, h, k, w, hw => by
    rw [List.mapM_cons] at h
    cases hx : atoiV x with
    | none => rw [hx] at h; cases h
    | some n =>
      cases hr : r.mapM atoiV with
      | none => rw [hx, hr] at h; cases h
      | some ms =>
        rw [hx, hr] at h
        have : n :: ms = ns := by simpa using h
        subst this
        cases k with
        | zero => simp at hw; subst hw; exact ⟨n, rfl, hx⟩
        | succ k => simp at hw; simpa using mapM_take r ms hr k w hw
/-! ### Texts of seals -/
theorem sealOk_kind4 {s : Seal} (h : sealOk s = true) : s.kind = 1 ∨ s.kind = 2 ∨ s.kind = 3 ∨ s.kind = 4 := by
  unfold sealOk at h
  split at h
  · exact .inl ‹_›
  · split at h
    · exact .inr (.inl ‹_›)
    · split at h
      · exact .inr (.inr (.inl ‹_›))
      · split at h
        · exact .inr (.inr (.inr ‹_›))
        · cases h
theorem sealOk_dig {s : Seal} (h : sealOk s = true) : ∀ n ∈ [s.key, s.a, s.b, s.c, s.d, s.e], 0 ≤ n ∧ n ≤ 100 := by
  rcases sealOk_kind4 h with k | k | k | k <;> simp [sealOk, k, within] at h <;> (intro n hn; simp at hn; omega)
theorem kindName_no {k : Int} (h : k = 1 ∨ k = 2 ∨ k = 3 ∨ k = 4) : (32 : UInt8) ∉ kindName k ∧ (10 : UInt8) ∉ kindName k ∧ (kindName k).length ≤ 6 := by
  rcases h with rfl | rfl | rfl | rfl <;> decide
theorem kindName_inj {j k : Int} (hj : j = 1 ∨ j = 2 ∨ j = 3 ∨ j = 4) (hk : k = 1 ∨ k = 2 ∨ k = 3 ∨ k = 4) (h : kindName j = kindName k) : j = k := by
  rcases hj with rfl | rfl | rfl | rfl <;> rcases hk with rfl | rfl | rfl | rfl <;> first | rfl | (revert h; decide)
theorem decs_cut : ∀ ns : List Int, ns ≠ [] → (∀ n ∈ ns, 0 ≤ n ∧ n ≤ 999) → cutAt 32 (decs ns) = ns.map dec
  | [], h, _ => absurd rfl h
  | [n], _, h => by
    have h1 := h n List.mem_cons_self
    exact cutAt_none (dig h1.1 h1.2).no32
  | n :: m :: r, _, h => by
    have h1 := h n List.mem_cons_self
    rw [decs, cutAt_app _ (dig h1.1 h1.2).no32, decs_cut (m :: r) (by simp) (fun x hx => h x (List.mem_cons_of_mem _ hx))]
    rfl
theorem decs_no10 : ∀ ns : List Int, (∀ n ∈ ns, 0 ≤ n ∧ n ≤ 999) → (10 : UInt8) ∉ decs ns
  | [], _ => by simp [decs]
  | [n], h => by
    have h1 := h n List.mem_cons_self
    exact (dig h1.1 h1.2).no10
  | n :: m :: r, h => by
    have h1 := (dig (h n List.mem_cons_self).1 (h n List.mem_cons_self).2).no10
    have h2 := decs_no10 (m :: r) (fun x hx => h x (List.mem_cons_of_mem _ hx))
    rw [decs]
    simp only [List.mem_append, List.mem_cons, not_or]
    exact ⟨h1, by decide, h2⟩
theorem decs_len4 : ∀ ns : List Int, (∀ n ∈ ns, 0 ≤ n ∧ n ≤ 999) → (decs ns).length ≤ 4 * ns.length
  | [], _ => Nat.le_refl _
  | [n], h => by
    have h1 := (dig (h n List.mem_cons_self).1 (h n List.mem_cons_self).2).len
    simp only [decs, List.length_cons, List.length_nil]; omega
  | n :: m :: r, h => by
    have h1 := (dig (h n List.mem_cons_self).1 (h n List.mem_cons_self).2).len
    have h2 := decs_len4 (m :: r) (fun x hx => h x (List.mem_cons_of_mem _ hx))
    rw [decs]
    simp only [List.length_append, List.length_cons] at *; omega
theorem up999 {ns : List Int} (h : ∀ n ∈ ns, 0 ≤ n ∧ n ≤ 100) : ∀ n ∈ ns, 0 ≤ n ∧ n ≤ 999 := fun n hn => by have := h n hn; omega
abbrev sealNs (s : Seal) : List Int := [s.key, s.a, s.b, s.c, s.d, s.e]
theorem sealText_ok {s : Seal} (h : sealOk s = true) : sealText s = kindName s.kind ++ 32 :: decs (sealNs s) := by simp [sealText, h]
theorem sealText_cut {s : Seal} (h : sealOk s = true) : cutAt 32 (sealText s) = kindName s.kind :: (sealNs s).map dec := by
  rw [sealText_ok h, cutAt_app _ (kindName_no (sealOk_kind4 h)).1, decs_cut _ (by simp) (up999 (sealOk_dig h))]
theorem sealText_no10 {s : Seal} (h : sealOk s = true) : (10 : UInt8) ∉ sealText s := by
  rw [sealText_ok h]
  simp only [List.mem_append, List.mem_cons, not_or]
  exact ⟨(kindName_no (sealOk_kind4 h)).2.1, by decide, decs_no10 _ (up999 (sealOk_dig h))⟩
theorem sealText_len60 {s : Seal} (h : sealOk s = true) : (sealText s).length ≤ 31 := by
  have h1 := (kindName_no (sealOk_kind4 h)).2.2
  have h2 := decs_len4 (sealNs s) (up999 (sealOk_dig h))
  rw [sealText_ok h]
  simp only [List.length_append, List.length_cons, List.length_nil] at *; omega
theorem sealText_inj {s x : Seal} (hs : sealOk s = true) (hx : sealOk x = true) (h : sealText s = sealText x) : s = x := by
  have h1 := congrArg (cutAt 32) h
  rw [sealText_cut hs, sealText_cut hx] at h1
  have a := up999 (sealOk_dig hs)
  have b := up999 (sealOk_dig hx)
  simp only [sealNs, List.map_cons, List.map_nil, List.cons.injEq, and_true] at h1
  obtain ⟨h0, e1, e2, e3, e4, e5, e6⟩ := h1
  have k := kindName_inj (sealOk_kind4 hs) (sealOk_kind4 hx) h0
  have f1 := dec_inj (a s.key (by simp)).1 (a s.key (by simp)).2 (b x.key (by simp)).1 (b x.key (by simp)).2 e1
  have f2 := dec_inj (a s.a (by simp)).1 (a s.a (by simp)).2 (b x.a (by simp)).1 (b x.a (by simp)).2 e2
  have f3 := dec_inj (a s.b (by simp)).1 (a s.b (by simp)).2 (b x.b (by simp)).1 (b x.b (by simp)).2 e3
  have f4 := dec_inj (a s.c (by simp)).1 (a s.c (by simp)).2 (b x.c (by simp)).1 (b x.c (by simp)).2 e4
  have f5 := dec_inj (a s.d (by simp)).1 (a s.d (by simp)).2 (b x.d (by simp)).1 (b x.d (by simp)).2 e5
  have f6 := dec_inj (a s.e (by simp)).1 (a s.e (by simp)).2 (b x.e (by simp)).1 (b x.e (by simp)).2 e6
  obtain ⟨s1, s2, s3, s4, s5, s6, s7⟩ := s
  obtain ⟨x1, x2, x3, x4, x5, x6, x7⟩ := x
  dsimp only at *
  subst k f1 f2 f3 f4 f5 f6
  rfl
/-! ### Texts of words -/
abbrev msgNs (m : Msg) : List Int := [m.kind, m.client, m.serv, m.nonce]
theorem msgOk_parts {m : Msg} (h : msgOk m = true) : (∀ n ∈ msgNs m, 0 ≤ n ∧ n ≤ 100) ∧ m.seals.length ≤ 2 ∧ ∀ s ∈ m.seals, sealOk s = true := by
  have hs := msgOk_seals h
  have h1 := msgOk_shape h
  refine ⟨fun n hn => ?_, by omega, hs⟩
  simp at hn
  omega
theorem msgText_form {m : Msg} (h : msgOk m = true) : msgText m = decs (msgNs m) ++ 10 :: m.seals.flatMap (fun s => sealText s ++ [10]) := by simp [msgText, h]
theorem seals_cut : ∀ ss : List Seal, (∀ s ∈ ss, sealOk s = true) → cutAt 10 (ss.flatMap (fun s => sealText s ++ [10])) = ss.map sealText ++ [[]]
  | [], _ => rfl
  | s :: r, h => by
    have h1 := sealText_no10 (h s List.mem_cons_self)
    rw [List.flatMap_cons, List.append_assoc, List.singleton_append, cutAt_app _ h1, seals_cut r (fun x hx => h x (List.mem_cons_of_mem _ hx))]
    rfl
theorem msgText_cut {m : Msg} (h : msgOk m = true) : cutAt 10 (msgText m) = decs (msgNs m) :: (m.seals.map sealText ++ [[]]) := by
  obtain ⟨h1, h2, h3⟩ := msgOk_parts h
  rw [msgText_form h, cutAt_app _ (decs_no10 _ (up999 h1)), seals_cut _ h3]
theorem sealsText_len : ∀ ss : List Seal, (∀ s ∈ ss, sealOk s = true) → (ss.flatMap (fun s => sealText s ++ [10])).length ≤ 32 * ss.length
  | [], _ => Nat.le_refl _
  | s :: r, h => by
    have h1 := sealText_len60 (h s List.mem_cons_self)
    have h2 := sealsText_len r (fun x hx => h x (List.mem_cons_of_mem _ hx))
    rw [List.flatMap_cons]
    simp only [List.length_append, List.length_cons, List.length_nil] at *; omega
theorem msgText_len200 {m : Msg} (h : msgOk m = true) : (msgText m).length ≤ 100 := by
  obtain ⟨h1, h2, h3⟩ := msgOk_parts h
  have a := decs_len4 (msgNs m) (up999 h1)
  have b := sealsText_len m.seals h3
  rw [msgText_form h]
  simp only [List.length_append, List.length_cons, List.length_nil] at *; omega
theorem seals_inj : ∀ (ss xs : List Seal), (∀ s ∈ ss, sealOk s = true) → (∀ s ∈ xs, sealOk s = true) → ss.map sealText = xs.map sealText → ss = xs
  | [], [], _, _, _ => rfl
  | [], _ :: _, _, _, h => by cases h
  | _ :: _, [], _, _, h => by cases h
  | s :: ss, x :: xs, hs, hx, h => by
    rw [List.map_cons, List.map_cons, List.cons.injEq] at h
    rw [sealText_inj (hs s List.mem_cons_self) (hx x List.mem_cons_self) h.1, seals_inj ss xs (fun y hy => hs y (List.mem_cons_of_mem _ hy)) (fun y hy => hx y (List.mem_cons_of_mem _ hy)) h.2]
theorem msgText_inj {m x : Msg} (hm : msgOk m = true) (hx : msgOk x = true) (h : msgText m = msgText x) : m = x := by
  have h1 := congrArg (cutAt 10) h
  rw [msgText_cut hm, msgText_cut hx, List.cons.injEq] at h1
  obtain ⟨a1, _, a3⟩ := msgOk_parts hm
  obtain ⟨b1, _, b3⟩ := msgOk_parts hx
  have e := congrArg (cutAt 32) h1.1
  rw [decs_cut _ (by simp) (up999 a1), decs_cut _ (by simp) (up999 b1)] at e
  have hss := seals_inj m.seals x.seals a3 b3 (List.append_cancel_right h1.2)
  have a := up999 a1
  have b := up999 b1
  simp only [msgNs, List.map_cons, List.map_nil, List.cons.injEq, and_true] at e
  obtain ⟨e1, e2, e3, e4⟩ := e
  have f1 := dec_inj (a m.kind (by simp)).1 (a m.kind (by simp)).2 (b x.kind (by simp)).1 (b x.kind (by simp)).2 e1
  have f2 := dec_inj (a m.client (by simp)).1 (a m.client (by simp)).2 (b x.client (by simp)).1 (b x.client (by simp)).2 e2
  have f3 := dec_inj (a m.serv (by simp)).1 (a m.serv (by simp)).2 (b x.serv (by simp)).1 (b x.serv (by simp)).2 e3
  have f4 := dec_inj (a m.nonce (by simp)).1 (a m.nonce (by simp)).2 (b x.nonce (by simp)).1 (b x.nonce (by simp)).2 e4
  obtain ⟨m1, m2, m3, m4, m5⟩ := m
  obtain ⟨x1, x2, x3, x4, x5⟩ := x
  dsimp only at *
  subst f1 f2 f3 f4 hss
  rfl
end Go.Proofs.YtoledfhjmdpihaaGreatDoor
/- Numbers read out of texts by the library, as the walks want it. -/
set_option linter.unusedVariables false
set_option linter.unusedSectionVars false
set_option linter.unusedSimpArgs false
namespace Go.Proofs.YtoledfhjmdpihaaGreatDoor
open Go Go.Proofs Go.Proofs.YtoledfhjmdpihaaGreatDoor.VE
attribute [local irreducible] Val Op1 WO WR WA WC seqQ blockQ loopQ retQ
set_option maxHeartbeats 4000000
/-- What the walks are told besides: the library's two errors are something. -/
structure GlobM (L : List Ent) : Prop where
  g : Glob L
  syn : ∃ tp p, GlobQ (fun w => w.var? Tryz.prog "strconv.ErrSyntax" = some #[.iface tp p]) L
  ran : ∃ tp p, GlobQ (fun w => w.var? Tryz.prog "strconv.ErrRange" = some #[.iface tp p]) L
theorem GlobM.mono {L M : List Ent} (h : GlobM L) (hs : ∀ e ∈ L, e ∈ M) : GlobM M :=
  ⟨h.g.mono hs, let ⟨t, p, hm⟩ := h.syn; ⟨t, p, hm.mono hs⟩, let ⟨t, p, hm⟩ := h.ran; ⟨t, p, hm.mono hs⟩⟩
theorem errI : Tryz.prog.underlying 71 = some (.interface (Tryz.prog.methodsAt 71)) := by kernel_rfl
theorem c_atoiOk {L : List Ent} (s : Str) (n : Int) (h : atoiV s = some n) (hl : s.length ≤ 281474976710656) : RO Tryz.prog 49 [St s] L (.tuple [I n, .nilIface].toArray) :=
  RO.lib (enters_of Tryz.func49 rfl rfl) fun g w hs => by
    have h2 : Lib.atoiAll s = .ok n := by
      unfold atoiV at h
      split at h
      · rename_i v hv; rw [hv, Option.some.inj h]
      · cases h
    refine (Tryz.strconv_Atoi_ok ⟨s.toArray⟩ (by simp [ByteArray.size]; omega) n h2 w).mono ?_
    rintro e w' ⟨rfl, rfl | ⟨t, rfl⟩⟩
    · exact ⟨rfl, RowKit.Below.refl _ _⟩
    · exact ⟨rfl, Lib.bytesWorld_below w _ t⟩
theorem c_atoiNo {L : List Ent} (s : Str) (h : atoiV s = none) (hl : s.length ≤ 281474976710656) (hG : GlobM L) : Tri Tryz.prog 49 [St s] L (fun v L' => ∃ (x : Int) (N : Nat), v = .tuple [I x, .iface 152 (.pointer (some ⟨N, 0, none⟩))].toArray ∧ L' = L) :=
  ⟨enters_of Tryz.func49 rfl rfl, fun g w hs => by
    have hsz : (⟨s.toArray⟩ : ByteArray).size ≤ 281474976710656 := by simp [ByteArray.size]; omega
    have hcase : (∃ v, Lib.atoiAll s = .ok v) ∨ Lib.atoiAll s = Lib.atoiAll [] ∨ Lib.atoiAll s = .range := by
      generalize Lib.atoiAll s = q
      rcases q with v | _ | _
      · exact .inl ⟨v, rfl⟩
      · exact .inr (.inl rfl)
      · exact .inr (.inr rfl)
    rcases hcase with ⟨v, h2⟩ | h2 | h2
    · unfold atoiV at h; rw [h2] at h; cases h
    · obtain ⟨tp, p, hq⟩ := hG.syn
      refine (Tryz.strconv_Atoi_syntax_var ⟨s.toArray⟩ hsz h2 tp p w (hq.sat hs)).mono ?_
      rintro e w' ⟨N, rfl, _, _, hb⟩
      exact ⟨_, L, rfl, hs.below hb, _, N, rfl, rfl⟩
    · obtain ⟨tp, p, hq⟩ := hG.ran
      refine (Tryz.strconv_Atoi_range_var ⟨s.toArray⟩ hsz h2 tp p w (hq.sat hs)).mono ?_
      rintro e w' ⟨N, rfl, _, _, hb⟩
      exact ⟨_, L, rfl, hs.below hb, _, N, rfl, rfl⟩⟩
end Go.Proofs.YtoledfhjmdpihaaGreatDoor
/- Texts of seals and words read back. -/
set_option linter.unusedVariables false
set_option linter.unusedSectionVars false
set_option linter.unusedSimpArgs false
namespace Go.Proofs.YtoledfhjmdpihaaGreatDoor
open Go Go.Proofs Go.Proofs.YtoledfhjmdpihaaGreatDoor.VE
attribute [local irreducible] Val Op1 WO WR WA WC seqQ blockQ loopQ retQ
noncomputable def o21x8T11 : Array Oper := cops (cl (cr (cl (cl (cr (cr (cl (cl (cr (cl (cr (cr (cr (cr (codeOf Tryz.f21)))))))))))))))
noncomputable def r21x8T11 : Run := (.st 0 0 (.st 1 0 (.st 2 1 (.st 3 0 (.st 4 0 (.st 5 0 (.st 6 1 (.st 7 0 (.st 8 0 (.st 9 1 (.st 10 0 (.st 11 0 (.st 12 1 (.st 13 0 (.st 14 0 (.st 15 1 (.st 16 0 (.st 17 0 (.st 18 1 (.st 19 0 (.st 20 2 (.st 21 3 .done))))))))))))))))))))))
set_option maxHeartbeats 8000000
theorem mapM_snoc (w : Str) : ∀ xs : List Str, (xs ++ [w]).mapM atoiV = (xs.mapM atoiV).bind fun a => (atoiV w).map fun b => a ++ [b]
  | [] => by cases h : atoiV w <;> simp [h]
  | x :: xs => by
    have ih := mapM_snoc w xs
    rw [List.cons_append, List.mapM_cons, List.mapM_cons, ih]
    cases h1 : atoiV x <;> cases h2 : xs.mapM atoiV <;> cases h3 : atoiV w <;> simp
theorem mapM_next {ws : List Str} {k : Nat} {w : Str} {ms : List Int} {n : Int} (hw : ws[k]? = some w) (hm : (ws.take k).mapM atoiV = some ms) (hn : atoiV w = some n) : (ws.take (k + 1)).mapM atoiV = some (ms ++ [n]) := by
  rw [take_next hw, mapM_snoc, hm, hn]; rfl
/-- Where a word of a row lies. -/
theorem word_cell {L : List Ent} {s : Sl} {ws : List Str} (h : SliceAt L encTx s ws) {k : Nat} {w : Str} (hw : ws[k]? = some w) : ∃ (b o : Nat) (cs : List Value) (T : TypeId) (fr : Nat × Nat), s.a = some ⟨b, o, none⟩ ∧ (b, .cells cs.toArray T fr) ∈ L ∧ cs[o + ((k : Int)).toNat * 1]? = some (St w) := by
  obtain ⟨b, o, cs, T, fr, ha, hm, htk⟩ := h.cell hw
  have hget := takeC_get (k := 0) htk (v := St w) rfl
  refine ⟨b, o, cs, T, fr, ha, hm, ?_⟩
  have he : o + k * encTx.sz + 0 = o + ((k : Int)).toNat * 1 := by simp [encTx]
  rw [he] at hget
  exact hget
theorem c_readNumbersOk {L : List Ent} (s : Sl) (ws : List Str) (many : Nat) (ns : List Int) (h : SliceAt L encTx s ws) (hr : readN ws many = some ns) (hm : many ≤ 10) (hlen : ∀ w ∈ ws, w.length ≤ 281474976710656) :
    Tri Tryz.prog 20 [s.v, I (many : Int)] L (fun v L' => ∃ sl es, v = .tuple [Sl.v sl, B true].toArray ∧ Row encInt 3 sl ns es ∧ L' = es ++ L) := by
  have hnl := readN_len hr
  obtain ⟨hwl, hmm⟩ : ws.length = many ∧ ws.mapM atoiV = some ns := by
    unfold readN at hr
    split at hr
    · exact ⟨‹_›, hr⟩
    · cases hr
  obtain ⟨a, n, c⟩ := s
  have hn : n = ws.length := h.1
  subst hn
  refine Tri.of Tryz.func20 rfl rfl Tryz.ntmps20 rfl rfl ?_
  (repeat' (first | refine nI ?_ | (refine nA ?_; intro _) | (refine nW ?_; first | (refine op_makeSlice (l := 0) (c := many) (e := 3) rfl rfl rfl rfl rfl rfl (Nat.ble_eq_true_of_le (by omega)) (Nat.ble_eq_true_of_le (by omega)) (Nat.ble_eq_true_of_le (by omega)) rfl ?_; intro _) | refine op_val rfl (by exact kStr) ?_) | refine nY ?_ | refine nR ?_ | refine WC_cond rfl (fun hc => ?_) (fun hc => ?_)))
  rename_i b8
  refine WC_loop (fun mz Ez Mz => ∃ (k : Nat) (ms : List Int) (a2 : Option Addr) (n2 c2 : Nat) (eo : List Ent), k + mz = (ws).length ∧ Ez = [(6, .slice a2 n2 c2), (17, .slice a ws.length c), (18, I ws.length), (19, I k)] ∧ Mz = eo ++ L ∧ (Row encInt 3 ⟨a2, n2, c2⟩ ms eo ∧ (ws.take k).mapM atoiV = some ms ∧ ms.length = k)) (ws).length (by exact kQ) (by exact kL) ⟨0, [], some ⟨b8, 0, none⟩, 0, many, [(b8, cellsO (zerosOf [I 0] many) 3)], by omega, rfl, rfl, by exact ⟨Row.made (E := encInt) rfl (by omega), rfl, rfl⟩⟩ ?_
  rintro mz Ez Mz ⟨k, ms, a2, n2, c2, eo, hk, rfl, rfl, hin⟩
  rcases Nat.lt_or_ge k (ws).length with hlt | hge
  · obtain ⟨hrow0, hms, hml⟩ := hin
    obtain ⟨w, hw⟩ : ∃ w, ws[k]? = some w := ⟨ws[k], by simp [hlt]⟩
    obtain ⟨x, hx, hax⟩ := mapM_take ws ns hmm k w hw
    obtain ⟨b, o, cs, T, fr, ha, hmem, hget⟩ := word_cell h hw
    replace ha : a = _ := ha
    subst ha
    (repeat' (first | refine nI ?_ | (refine nA ?_; intro _) | (refine nW ?_; first | (refine op_call_id ?_; refine op_ro rfl rfl (by exact c_atoiOk w x hax (hlen w (List.mem_of_getElem? hw))) ?_) | (refine op_load_id ?_; refine op_val rfl (by exact val_load1 rfl rfl rfl (by exact kM) hget) ?_) | (refine go_append ?_; refine op_appendRow (sl := ⟨_, _, _⟩) (sx := ⟨_, _, _⟩) rfl rfl rfl rfl rfl rfl rfl rfl rfl (hrow0) (by exact kE) (SliceAt.one (E := encInt) (x := x) (by exact kM) rfl) (by (simp only [List.length_cons, List.length_nil, lim]; omega)) ?_; intro sl' es' hrow' hst') | refine op_val rfl (by first | exact val_neqI_nil rfl errI | exact kStr) ?_) | refine nY ?_ | refine nR ?_ | refine WC_cond rfl (fun hc => ?_) (fun hc => ?_)))
    obtain ⟨a9, n9, c9⟩ := sl'
    exact loopQ_next ⟨mz - 1, _, _, by omega, by exact kQ, by exact kL, k + 1, ms ++ [x], a9, n9, c9, es', by omega, rfl, rfl, by exact ⟨hrow', mapM_next hw hms hax, by rw [List.length_append]; simp [hml]⟩⟩
  · obtain ⟨hrow0, hms, hml⟩ := hin
    rw [take_all hge, hmm] at hms
    cases hms
    (repeat' (first | refine nI ?_ | (refine nA ?_; intro _) | (refine nW ?_; first | refine op_val rfl (by exact kStr) ?_) | refine nY ?_ | refine nR ?_ | refine WC_cond rfl (fun hc => ?_) (fun hc => ?_)))
    refine ret_ret (by exact kR) ?_; exact ⟨eo ++ L, by exact kP, ⟨a2, n2, c2⟩, eo, rfl, hrow0, rfl⟩
theorem c_readNumbersNo {L : List Ent} (s : Sl) (ws : List Str) (many : Nat) (h : SliceAt L encTx s ws) (hr : readN ws many = none) (hm : many ≤ 10) (hlen : ∀ w ∈ ws, w.length ≤ 281474976710656) (hG : GlobM L) :
    RO Tryz.prog 20 [s.v, I (many : Int)] L (.tuple [.slice none 0 0, B false].toArray) := by
  obtain ⟨a, n, c⟩ := s
  have hn : n = ws.length := h.1
  have hbig := h.2.2.1
  subst hn
  simp only [big] at hbig
  by_cases hwl : ws.length = many
  rotate_left
  · refine Tri.of Tryz.func20 rfl rfl Tryz.ntmps20 rfl rfl ?_
    (repeat' (first | refine nI ?_ | (refine nA ?_; intro _) | (refine nW ?_; first | refine op_val rfl (by exact kStr) ?_) | refine nY ?_ | refine nR ?_ | refine WC_cond rfl (fun hc => ?_) (fun hc => ?_)))
    refine ro_ret (by exact kR) (by exact kL) ?_; rfl
  have hmm : ws.mapM atoiV = none := by unfold readN at hr; rw [if_pos hwl] at hr; exact hr
  refine Tri.of Tryz.func20 rfl rfl Tryz.ntmps20 rfl rfl ?_
  (repeat' (first | refine nI ?_ | (refine nA ?_; intro _) | (refine nW ?_; first | (refine op_makeSlice (l := 0) (c := many) (e := 3) rfl rfl rfl rfl rfl rfl (Nat.ble_eq_true_of_le (by omega)) (Nat.ble_eq_true_of_le (by omega)) (Nat.ble_eq_true_of_le (by omega)) rfl ?_; intro _) | refine op_val rfl (by exact kStr) ?_) | refine nY ?_ | refine nR ?_ | refine WC_cond rfl (fun hc => ?_) (fun hc => ?_)))
  rename_i b8
  refine WC_loop (fun mz Ez Mz => ∃ (k : Nat) (ms : List Int) (a2 : Option Addr) (n2 c2 : Nat) (eo : List Ent), k + mz = (ws).length ∧ Ez = [(6, .slice a2 n2 c2), (17, .slice a ws.length c), (18, I ws.length), (19, I k)] ∧ Mz = eo ++ L ∧ (Row encInt 3 ⟨a2, n2, c2⟩ ms eo ∧ (ws.take k).mapM atoiV = some ms ∧ ms.length = k)) (ws).length (by exact kQ) (by exact kL) ⟨0, [], some ⟨b8, 0, none⟩, 0, many, [(b8, cellsO (zerosOf [I 0] many) 3)], by omega, rfl, rfl, by exact ⟨Row.made (E := encInt) rfl (by omega), rfl, rfl⟩⟩ ?_
  rintro mz Ez Mz ⟨k, ms, a2, n2, c2, eo, hk, rfl, rfl, hin⟩
  rcases Nat.lt_or_ge k (ws).length with hlt | hge
  · obtain ⟨hrow0, hms, hml⟩ := hin
    obtain ⟨w, hw⟩ : ∃ w, ws[k]? = some w := ⟨ws[k], by simp [hlt]⟩
    obtain ⟨b, o, cs, T, fr, ha, hmem, hget⟩ := word_cell h hw
    replace ha : a = _ := ha
    subst ha
    cases hax : atoiV w with
    | none =>
      (repeat' (first | refine nI ?_ | (refine nA ?_; intro _) | (refine nW ?_; first | (refine op_load_id ?_; refine op_val rfl (by exact val_load1 rfl rfl rfl (by exact kM) hget) ?_) | (refine op_call_id ?_; refine op_call rfl (c_atoiNo w hax (hlen w (List.mem_of_getElem? hw)) (hG.mono (by exact kS))) rfl ?_; rintro _ _ ⟨x, N, rfl, rfl⟩) | refine op_val rfl (by first | exact val_neqI_held rfl errI | exact kStr) ?_) | refine nY ?_ | refine nR ?_ | refine WC_cond rfl (fun hc => ?_) (fun hc => ?_)))
      refine ro_ret (by exact kR) (by exact kL) ?_; rfl
    | some x =>
      (repeat' (first | refine nI ?_ | (refine nA ?_; intro _) | (refine nW ?_; first | (refine op_call_id ?_; refine op_ro rfl rfl (by exact c_atoiOk w x hax (hlen w (List.mem_of_getElem? hw))) ?_) | (refine op_load_id ?_; refine op_val rfl (by exact val_load1 rfl rfl rfl (by exact kM) hget) ?_) | (refine go_append ?_; refine op_appendRow (sl := ⟨_, _, _⟩) (sx := ⟨_, _, _⟩) rfl rfl rfl rfl rfl rfl rfl rfl rfl (hrow0) (by exact kE) (SliceAt.one (E := encInt) (x := x) (by exact kM) rfl) (by (simp only [List.length_cons, List.length_nil, lim]; omega)) ?_; intro sl' es' hrow' hst') | refine op_val rfl (by first | exact val_neqI_nil rfl errI | exact kStr) ?_) | refine nY ?_ | refine nR ?_ | refine WC_cond rfl (fun hc => ?_) (fun hc => ?_)))
      obtain ⟨a9, n9, c9⟩ := sl'
      exact loopQ_next ⟨mz - 1, _, _, by omega, by exact kQ, by exact kL, k + 1, ms ++ [x], a9, n9, c9, es', by omega, rfl, rfl, by exact ⟨hrow', mapM_next hw hms hax, by rw [List.length_append]; simp [hml]⟩⟩
  · obtain ⟨hrow0, hms, hml⟩ := hin
    rw [take_all hge, hmm] at hms
    cases hms
theorem names5 : ∀ k : Nat, k < 5 → [St [], St [116, 105, 99, 107, 101, 116], St [112, 97, 114, 116], St [97, 117, 116, 104], St [98, 97, 99, 107]][((k : Int)).toNat]? = some (St (kindName (k : Int))) := by
  intro k hk
  have e : k = 0 ∨ k = 1 ∨ k = 2 ∨ k = 3 ∨ k = 4 := by omega
  rcases e with rfl | rfl | rfl | rfl | rfl <;> rfl
theorem kindName_ne {k : Nat} {j : Int} (hk : k < 5) (hj : j = 1 ∨ j = 2 ∨ j = 3 ∨ j = 4) (h : (k : Int) ≠ j) : kindName (k : Int) ≠ kindName j := by
  intro e
  by_cases h0 : k = 0
  · subst h0
    rcases hj with rfl | rfl | rfl | rfl <;> (revert e; decide)
  · exact h (kindName_inj (by omega) hj e)
theorem sealsOf6 {ns : List Int} (h : ns.length = 6) : ∃ n0 n1 n2 n3 n4 n5, ns = [n0, n1, n2, n3, n4, n5] := by
  match ns, h with
  | [n0, n1, n2, n3, n4, n5], _ => exact ⟨n0, n1, n2, n3, n4, n5, rfl⟩
section
variable {L : List Ent} (n0 n1 n2 n3 n4 n5 : Int) (rest : List Value)
theorem get6 : (encInt.row [n0, n1, n2, n3, n4, n5] ++ rest)[0 + (0 : Int).toNat * 1]? = some (I n0) ∧ (encInt.row [n0, n1, n2, n3, n4, n5] ++ rest)[0 + (1 : Int).toNat * 1]? = some (I n1) ∧ (encInt.row [n0, n1, n2, n3, n4, n5] ++ rest)[0 + (2 : Int).toNat * 1]? = some (I n2) ∧ (encInt.row [n0, n1, n2, n3, n4, n5] ++ rest)[0 + (3 : Int).toNat * 1]? = some (I n3) ∧ (encInt.row [n0, n1, n2, n3, n4, n5] ++ rest)[0 + (4 : Int).toNat * 1]? = some (I n4) ∧ (encInt.row [n0, n1, n2, n3, n4, n5] ++ rest)[0 + (5 : Int).toNat * 1]? = some (I n5) :=
  ⟨rfl, rfl, rfl, rfl, rfl, rfl⟩
end
theorem c_sealReadOk {L : List Ent} (x : Seal) (hx : sealOk x = true) (hG : GlobM L) : RO Tryz.prog 21 [St (sealText x)] L (.tuple [sealV x, B true].toArray) := by
  have hkd := sealOk_kind4 hx
  have hdig := sealOk_dig hx
  have htl := sealText_len60 hx
  obtain ⟨text, htext⟩ : ∃ t, sealText x = t := ⟨_, rfl⟩
  obtain ⟨ws, hws⟩ : ∃ ws, cutAt 32 text = ws := ⟨_, rfl⟩
  have hwe : ws = kindName x.kind :: (sealNs x).map dec := by rw [← hws, ← htext]; exact sealText_cut hx
  have hw7 : ws.length = 7 := by rw [hwe]; rfl
  have hbg : ws.length ≤ big := by rw [hw7]; decide
  have hw0 : ws[0]? = some (kindName x.kind) := by rw [hwe]; rfl
  have hread : readN (ws.drop 1) 6 = some (sealNs x) := by rw [hwe]; exact readN_dec (up999 hdig) rfl
  have hsplit : ∀ {L : List Ent}, Glob L → Tri Tryz.prog 19 [St text, St [32]] L (fun v L' => ∃ b, v = .slice (some ⟨b, 0, none⟩) ws.length ws.length ∧ L' = (b, cellsO (ws.map St) 9) :: L) := fun {L} hG => hws ▸ c_split 32 text (by rw [← htext]; omega) hG
  have hlen : ∀ w ∈ ws.drop 1, w.length ≤ 281474976710656 := fun w hw => by
    have := cutAt_pieces 32 text w (by rw [hws]; exact List.mem_of_mem_drop hw)
    rw [← htext] at this
    omega
  have hst : sealText x = text := htext
  rw [htext]
  clear hws hwe htext
  refine Tri.of Tryz.func21 rfl rfl Tryz.ntmps21 rfl rfl ?_
  (repeat' (first | refine nI ?_ | (refine nA ?_; intro _) | (refine nW ?_; first | (refine op_call_id ?_; refine op_call rfl (hsplit (hG.g.mono (by exact kS))) rfl ?_; rintro _ _ ⟨bz, rfl, rfl⟩) | refine op_val rfl (by exact kStr) ?_) | (refine WR_id ?_; refine WR_pure rfl rfl rfl (by exact kStr) ?_) | refine nY ?_ | refine WA_alt ?_ ?_ | refine WC_regionN [2] rfl ?_ | refine WC_block ?_ | refine WC_drawL (id := 8) (ops := o21x8T11) r21x8T11 (by kernel_rfl) rfl ?_ | refine WC_cond rfl (fun hc => ?_) (fun hc => ?_)))
  rename_i b2
  (repeat' (first | refine nI ?_ | (refine nA ?_; intro _) | (refine nW ?_; first | (refine op_call_id ?_; refine op_ro rfl rfl (by exact c_sealWords) ?_) | (refine op_call_id ?_; refine op_call rfl (c_readNumbersOk ⟨_, _, _⟩ (ws.drop 1) 6 (sealNs x) (SliceAt.drop (E := encTx) (k := 1) (strAt rfl (by exact kM) hbg) (by omega)) hread (by omega) hlen) rfl ?_; rintro _ _ ⟨⟨an, nn, cn⟩, en, rfl, hrn, rfl⟩) | refine op_val rfl (by exact kStr) ?_) | (refine WR_id ?_; refine WR_pure rfl rfl rfl (by exact kStr) ?_) | refine nY ?_ | refine WA_alt ?_ ?_ | refine nR ?_ | refine WC_drawL (id := 8) (ops := o21x8T11) r21x8T11 (by kernel_rfl) rfl ?_ | refine WC_cond rfl (fun hc => ?_) (fun hc => ?_)))
  obtain ⟨g, cap, rest, hsl, rfl, h3, h4, h5⟩ := hrn.block (by simp)
  cases hsl
  obtain ⟨g0, g1, g2, g3, g4, g5⟩ := get6 x.key x.a x.b x.c x.d x.e rest
  have hget0 : (ws.map St)[0 + (0 : Int).toNat * 1]? = some (St (kindName x.kind)) := by
    show (ws.map St)[0]? = _
    rw [List.getElem?_map, hw0]; rfl
  obtain ⟨xs, hxl⟩ : ∃ xs : List Nat, xs.length = 5 := ⟨List.range 5, List.length_range⟩
  refine WC_loop (fun mz Ez Mz => ∃ k : Nat, k + mz = (xs).length ∧ Ez = [(0, St text), (2, .pointer (some ⟨b2, 0, none⟩)), (4, .slice (some ⟨bz, 0, none⟩) ws.length ws.length), (5, .slice (some ⟨g, 0, none⟩) 6 cn), (21, .agg [St [], St [116, 105, 99, 107, 101, 116], St [112, 97, 114, 116], St [97, 117, 116, 104], St [98, 97, 99, 107]].toArray), (22, I k)] ∧ Mz = (b2, cellsO (sealC Seal.zero) 39) :: (g, cellsO (encInt.row (sealNs x) ++ rest) 3) :: (bz, cellsO (ws.map St) 9) :: L ∧ ((k : Int) ≤ x.kind)) (xs).length (by exact kQ) (by exact kL) ⟨0, by omega, rfl, rfl, by omega⟩ ?_
  rintro mz Ez Mz ⟨k, hk, rfl, rfl, hin⟩
  rcases Nat.lt_or_ge k (xs).length with hlt | hge
  · by_cases hk9 : (k : Int) = x.kind
    · obtain ⟨s, hs⟩ : ∃ s : Seal, s = ⟨x.key, (k : Int), x.a, x.b, x.c, x.d, x.e⟩ := ⟨_, rfl⟩
      have hsx : s = x := by rw [hs, hk9]
      have hok : sealOk ⟨x.key, (k : Int), x.a, x.b, x.c, x.d, x.e⟩ = true := by rw [← hs, hsx]; exact hx
      have htx : sealText ⟨x.key, (k : Int), x.a, x.b, x.c, x.d, x.e⟩ = text := by rw [← hs, hsx]; exact hst
      have heq : kindName (k : Int) = kindName x.kind := by rw [hk9]
      (repeat' (first | refine nI ?_ | (refine nA ?_; intro _) | (refine nW ?_; first | refine op_val rfl (by first | exact val_indexA rfl rfl rfl rfl rfl (by omega) (by omega) (names5 k (by omega)) | exact kStr) ?_) | (refine WR_id ?_; refine WR_pure rfl rfl rfl (by first | exact val_indexA rfl rfl rfl rfl rfl (by omega) (by omega) (names5 k (by omega)) | exact kStr) ?_) | refine nY ?_ | refine WA_alt ?_ ?_ | refine nR ?_ | refine WC_cond rfl (fun hc => ?_) (fun hc => ?_)))
      (repeat' (first | refine nI ?_ | (refine nA ?_; intro _) | (refine nW ?_; first | (refine op_call_id ?_; refine op_ro rfl rfl (by first | exact (c_sealOk ⟨x.key, (k : Int), x.a, x.b, x.c, x.d, x.e⟩).eq (congrArg B hok) | exact (c_sealText ⟨x.key, (k : Int), x.a, x.b, x.c, x.d, x.e⟩ (hG.g.mono (by exact kS))).eq (congrArg St htx)) ?_) | (refine op_load_id ?_; refine op_val rfl (by first | exact val_load1 rfl rfl rfl (by exact kM) g0 | exact val_load1 rfl rfl rfl (by exact kM) g1 | exact val_load1 rfl rfl rfl (by exact kM) g2 | exact val_load1 rfl rfl rfl (by exact kM) g3 | exact val_load1 rfl rfl rfl (by exact kM) g4 | exact val_load1 rfl rfl rfl (by exact kM) g5 | exact val_load1 rfl rfl rfl (by exact kM) hget0) ?_) | refine op_val rfl (by exact kStr) ?_) | (refine WR_id ?_; refine WR_pure rfl rfl rfl (by exact kStr) ?_) | (refine WR_id ?_; refine WR_load rfl rfl rfl (by first | exact val_load1 rfl rfl rfl (by exact kM) g0 | exact val_load1 rfl rfl rfl (by exact kM) g1 | exact val_load1 rfl rfl rfl (by exact kM) g2 | exact val_load1 rfl rfl rfl (by exact kM) g3 | exact val_load1 rfl rfl rfl (by exact kM) g4 | exact val_load1 rfl rfl rfl (by exact kM) g5 | exact val_load1 rfl rfl rfl (by exact kM) hget0) (by exact kS) ?_) | refine nY ?_ | refine WA_alt ?_ ?_ | refine nR ?_ | refine WC_draw (id := 8) (ops := o21x8T11) ([(g, cellsO (encInt.row (sealNs x) ++ rest) 3)]) r21x8T11 (by kernel_rfl) rfl ?_ | refine WC_cond rfl (fun hc => ?_) (fun hc => ?_)))
      refine ro_ret (by exact kR) (by exact kL) ?_; rw [hk9]; rfl
    · have hne : kindName (k : Int) ≠ kindName x.kind := kindName_ne (by omega) hkd hk9
      (repeat' (first | refine nI ?_ | (refine nA ?_; intro _) | (refine nW ?_; first | refine op_val rfl (by first | exact val_indexA rfl rfl rfl rfl rfl (by omega) (by omega) (names5 k (by omega)) | exact kStr) ?_) | (refine WR_id ?_; refine WR_pure rfl rfl rfl (by first | exact val_indexA rfl rfl rfl rfl rfl (by omega) (by omega) (names5 k (by omega)) | exact kStr) ?_) | refine nY ?_ | refine WA_alt ?_ ?_ | refine nR ?_ | refine WC_cond rfl (fun hc => ?_) (fun hc => ?_)))
      (repeat' (first | refine nI ?_ | (refine nA ?_; intro _) | (refine nW ?_; first | (refine op_load_id ?_; refine op_val rfl (by first | exact val_load1 rfl rfl rfl (by exact kM) g0 | exact val_load1 rfl rfl rfl (by exact kM) g1 | exact val_load1 rfl rfl rfl (by exact kM) g2 | exact val_load1 rfl rfl rfl (by exact kM) g3 | exact val_load1 rfl rfl rfl (by exact kM) g4 | exact val_load1 rfl rfl rfl (by exact kM) g5 | exact val_load1 rfl rfl rfl (by exact kM) hget0) ?_) | refine op_val rfl (by exact kStr) ?_) | (refine WR_id ?_; refine WR_pure rfl rfl rfl (by exact kStr) ?_) | (refine WR_id ?_; refine WR_load rfl rfl rfl (by first | exact val_load1 rfl rfl rfl (by exact kM) g0 | exact val_load1 rfl rfl rfl (by exact kM) g1 | exact val_load1 rfl rfl rfl (by exact kM) g2 | exact val_load1 rfl rfl rfl (by exact kM) g3 | exact val_load1 rfl rfl rfl (by exact kM) g4 | exact val_load1 rfl rfl rfl (by exact kM) g5 | exact val_load1 rfl rfl rfl (by exact kM) hget0) (by exact kS) ?_) | refine nY ?_ | refine WA_alt ?_ ?_ | refine nR ?_ | refine WC_draw (id := 8) (ops := o21x8T11) ([(g, cellsO (encInt.row (sealNs x) ++ rest) 3)]) r21x8T11 (by kernel_rfl) rfl ?_ | refine WC_cond rfl (fun hc => ?_) (fun hc => ?_)))
      exact loopQ_next ⟨mz - 1, _, _, by omega, by exact kQ, by exact kL, k + 1, by omega, rfl, rfl, by omega⟩
  · omega
theorem c_sealReadNo {L : List Ent} (text : Str) (hno : ∀ x, sealOk x = true → sealText x ≠ text) (hl : text.length ≤ 4000000000) (hG : GlobM L) : RO Tryz.prog 21 [St text] L (.tuple [sealV Seal.zero, B false].toArray) := by
  obtain ⟨ws, hws⟩ : ∃ ws, cutAt 32 text = ws := ⟨_, rfl⟩
  have hw1 : 0 < ws.length := by rw [← hws]; exact List.length_pos_iff.2 (cutAt_ne 32 text)
  have hwb : ws.length ≤ 4000000001 := by
    rw [← hws, cutAt_len]
    have := List.count_le_length (a := (32 : UInt8)) (l := text)
    omega
  obtain ⟨w0, hw0⟩ : ∃ w0, ws[0]? = some w0 := ⟨ws[0], by simp [hw1]⟩
  have hbg : ws.length ≤ big := by simp only [big]; omega
  have hsplit : ∀ {L : List Ent}, Glob L → Tri Tryz.prog 19 [St text, St [32]] L (fun v L' => ∃ b, v = .slice (some ⟨b, 0, none⟩) ws.length ws.length ∧ L' = (b, cellsO (ws.map St) 9) :: L) := fun {L} hG => hws ▸ c_split 32 text (by omega) hG
  have hlen : ∀ w ∈ ws.drop 1, w.length ≤ 281474976710656 := fun w hw => by
    have := cutAt_pieces 32 text w (by rw [hws]; exact List.mem_of_mem_drop hw)
    omega
  have hget0 : (ws.map St)[0 + (0 : Int).toNat * 1]? = some (St w0) := by
    show (ws.map St)[0]? = _
    rw [List.getElem?_map, hw0]; rfl
  clear hws
  cases hread : readN (ws.drop 1) 6 with
  | none =>
    refine Tri.of Tryz.func21 rfl rfl Tryz.ntmps21 rfl rfl ?_
    (repeat' (first | refine nI ?_ | (refine nA ?_; intro _) | (refine nW ?_; first | (refine op_call_id ?_; refine op_call rfl (hsplit (hG.g.mono (by exact kS))) rfl ?_; rintro _ _ ⟨bz, rfl, rfl⟩) | refine op_val rfl (by exact kStr) ?_) | (refine WR_id ?_; refine WR_pure rfl rfl rfl (by exact kStr) ?_) | refine nY ?_ | refine WA_alt ?_ ?_ | refine WC_regionN [2] rfl ?_ | refine WC_block ?_ | refine WC_drawL (id := 8) (ops := o21x8T11) r21x8T11 (by kernel_rfl) rfl ?_ | refine WC_cond rfl (fun hc => ?_) (fun hc => ?_)))
    (repeat' (first | refine nI ?_ | (refine nA ?_; intro _) | (refine nW ?_; first | (refine op_call_id ?_; refine op_ro rfl rfl (by exact c_readNumbersNo ⟨_, _, _⟩ (ws.drop 1) 6 (SliceAt.drop (E := encTx) (k := 1) (strAt rfl (by exact kM) hbg) (by omega)) hread (by omega) hlen (hG.mono (by exact kS))) ?_) | refine op_val rfl (by exact kStr) ?_) | (refine WR_id ?_; refine WR_pure rfl rfl rfl (by exact kStr) ?_) | refine nY ?_ | refine WA_alt ?_ ?_ | refine nR ?_ | refine WC_drawL (id := 8) (ops := o21x8T11) r21x8T11 (by kernel_rfl) rfl ?_ | refine WC_cond rfl (fun hc => ?_) (fun hc => ?_)))
    refine ro_ret (by exact kR) (by exact kL) ?_; rfl
  | some ns =>
    obtain ⟨n0, n1, n2, n3, n4, n5, rfl⟩ := sealsOf6 (readN_len hread)
    refine Tri.of Tryz.func21 rfl rfl Tryz.ntmps21 rfl rfl ?_
    (repeat' (first | refine nI ?_ | (refine nA ?_; intro _) | (refine nW ?_; first | (refine op_call_id ?_; refine op_call rfl (hsplit (hG.g.mono (by exact kS))) rfl ?_; rintro _ _ ⟨bz, rfl, rfl⟩) | refine op_val rfl (by exact kStr) ?_) | (refine WR_id ?_; refine WR_pure rfl rfl rfl (by exact kStr) ?_) | refine nY ?_ | refine WA_alt ?_ ?_ | refine WC_regionN [2] rfl ?_ | refine WC_block ?_ | refine WC_drawL (id := 8) (ops := o21x8T11) r21x8T11 (by kernel_rfl) rfl ?_ | refine WC_cond rfl (fun hc => ?_) (fun hc => ?_)))
    rename_i b2
    (repeat' (first | refine nI ?_ | (refine nA ?_; intro _) | (refine nW ?_; first | (refine op_call_id ?_; refine op_ro rfl rfl (by exact c_sealWords) ?_) | (refine op_call_id ?_; refine op_call rfl (c_readNumbersOk ⟨_, _, _⟩ (ws.drop 1) 6 [n0, n1, n2, n3, n4, n5] (SliceAt.drop (E := encTx) (k := 1) (strAt rfl (by exact kM) hbg) (by omega)) hread (by omega) hlen) rfl ?_; rintro _ _ ⟨⟨an, nn, cn⟩, en, rfl, hrn, rfl⟩) | refine op_val rfl (by exact kStr) ?_) | (refine WR_id ?_; refine WR_pure rfl rfl rfl (by exact kStr) ?_) | refine nY ?_ | refine WA_alt ?_ ?_ | refine nR ?_ | refine WC_drawL (id := 8) (ops := o21x8T11) r21x8T11 (by kernel_rfl) rfl ?_ | refine WC_cond rfl (fun hc => ?_) (fun hc => ?_)))
    obtain ⟨g, cap, rest, hsl, rfl, h3, h4, h5⟩ := hrn.block (by simp)
    cases hsl
    obtain ⟨g0, g1, g2, g3, g4, g5⟩ := get6 n0 n1 n2 n3 n4 n5 rest
    obtain ⟨xs, hxl⟩ : ∃ xs : List Nat, xs.length = 5 := ⟨List.range 5, List.length_range⟩
    refine WC_loop (fun mz Ez Mz => ∃ k : Nat, k + mz = (xs).length ∧ Ez = [(0, St text), (2, .pointer (some ⟨b2, 0, none⟩)), (4, .slice (some ⟨bz, 0, none⟩) ws.length ws.length), (5, .slice (some ⟨g, 0, none⟩) 6 cn), (21, .agg [St [], St [116, 105, 99, 107, 101, 116], St [112, 97, 114, 116], St [97, 117, 116, 104], St [98, 97, 99, 107]].toArray), (22, I k)] ∧ Mz = (b2, cellsO (sealC Seal.zero) 39) :: (g, cellsO (encInt.row [n0, n1, n2, n3, n4, n5] ++ rest) 3) :: (bz, cellsO (ws.map St) 9) :: L ∧ (True)) (xs).length (by exact kQ) (by exact kL) ⟨0, by omega, rfl, rfl, by trivial⟩ ?_
    rintro mz Ez Mz ⟨k, hk, rfl, rfl, hin⟩
    rcases Nat.lt_or_ge k (xs).length with hlt | hge
    · by_cases heq : kindName (k : Int) = w0
      · cases hok : sealOk ⟨n0, (k : Int), n1, n2, n3, n4, n5⟩ with
        | false =>
          (repeat' (first | refine nI ?_ | (refine nA ?_; intro _) | (refine nW ?_; first | refine op_val rfl (by first | exact val_indexA rfl rfl rfl rfl rfl (by omega) (by omega) (names5 k (by omega)) | exact kStr) ?_) | (refine WR_id ?_; refine WR_pure rfl rfl rfl (by first | exact val_indexA rfl rfl rfl rfl rfl (by omega) (by omega) (names5 k (by omega)) | exact kStr) ?_) | refine nY ?_ | refine WA_alt ?_ ?_ | refine nR ?_ | refine WC_cond rfl (fun hc => ?_) (fun hc => ?_)))
          (repeat' (first | refine nI ?_ | (refine nA ?_; intro _) | (refine nW ?_; first | (refine op_call_id ?_; refine op_ro rfl rfl (by exact (c_sealOk ⟨n0, (k : Int), n1, n2, n3, n4, n5⟩).eq (congrArg B hok)) ?_) | (refine op_load_id ?_; refine op_val rfl (by first | exact val_load1 rfl rfl rfl (by exact kM) g0 | exact val_load1 rfl rfl rfl (by exact kM) g1 | exact val_load1 rfl rfl rfl (by exact kM) g2 | exact val_load1 rfl rfl rfl (by exact kM) g3 | exact val_load1 rfl rfl rfl (by exact kM) g4 | exact val_load1 rfl rfl rfl (by exact kM) g5 | exact val_load1 rfl rfl rfl (by exact kM) hget0) ?_) | refine op_val rfl (by exact kStr) ?_) | (refine WR_id ?_; refine WR_pure rfl rfl rfl (by exact kStr) ?_) | (refine WR_id ?_; refine WR_load rfl rfl rfl (by first | exact val_load1 rfl rfl rfl (by exact kM) g0 | exact val_load1 rfl rfl rfl (by exact kM) g1 | exact val_load1 rfl rfl rfl (by exact kM) g2 | exact val_load1 rfl rfl rfl (by exact kM) g3 | exact val_load1 rfl rfl rfl (by exact kM) g4 | exact val_load1 rfl rfl rfl (by exact kM) g5 | exact val_load1 rfl rfl rfl (by exact kM) hget0) (by exact kS) ?_) | refine nY ?_ | refine WA_alt ?_ ?_ | refine nR ?_ | refine WC_draw (id := 8) (ops := o21x8T11) ([(g, cellsO (encInt.row [n0, n1, n2, n3, n4, n5] ++ rest) 3)]) r21x8T11 (by kernel_rfl) rfl ?_ | refine WC_cond rfl (fun hc => ?_) (fun hc => ?_)))
          exact loopQ_next ⟨mz - 1, _, _, by omega, by exact kQ, by exact kL, k + 1, by omega, rfl, rfl, by trivial⟩
        | true =>
          have htx := hno _ hok
          obtain ⟨st, hst⟩ : ∃ st, sealText ⟨n0, (k : Int), n1, n2, n3, n4, n5⟩ = st := ⟨_, rfl⟩
          rw [hst] at htx
          (repeat' (first | refine nI ?_ | (refine nA ?_; intro _) | (refine nW ?_; first | refine op_val rfl (by first | exact val_indexA rfl rfl rfl rfl rfl (by omega) (by omega) (names5 k (by omega)) | exact kStr) ?_) | (refine WR_id ?_; refine WR_pure rfl rfl rfl (by first | exact val_indexA rfl rfl rfl rfl rfl (by omega) (by omega) (names5 k (by omega)) | exact kStr) ?_) | refine nY ?_ | refine WA_alt ?_ ?_ | refine nR ?_ | refine WC_cond rfl (fun hc => ?_) (fun hc => ?_)))
          (repeat' (first | refine nI ?_ | (refine nA ?_; intro _) | (refine nW ?_; first | (refine op_call_id ?_; refine op_ro rfl rfl (by first | exact (c_sealOk ⟨n0, (k : Int), n1, n2, n3, n4, n5⟩).eq (congrArg B hok) | exact (c_sealText ⟨n0, (k : Int), n1, n2, n3, n4, n5⟩ (hG.g.mono (by exact kS))).eq (congrArg St hst)) ?_) | (refine op_load_id ?_; refine op_val rfl (by first | exact val_load1 rfl rfl rfl (by exact kM) g0 | exact val_load1 rfl rfl rfl (by exact kM) g1 | exact val_load1 rfl rfl rfl (by exact kM) g2 | exact val_load1 rfl rfl rfl (by exact kM) g3 | exact val_load1 rfl rfl rfl (by exact kM) g4 | exact val_load1 rfl rfl rfl (by exact kM) g5 | exact val_load1 rfl rfl rfl (by exact kM) hget0) ?_) | refine op_val rfl (by exact kStr) ?_) | (refine WR_id ?_; refine WR_pure rfl rfl rfl (by exact kStr) ?_) | (refine WR_id ?_; refine WR_load rfl rfl rfl (by first | exact val_load1 rfl rfl rfl (by exact kM) g0 | exact val_load1 rfl rfl rfl (by exact kM) g1 | exact val_load1 rfl rfl rfl (by exact kM) g2 | exact val_load1 rfl rfl rfl (by exact kM) g3 | exact val_load1 rfl rfl rfl (by exact kM) g4 | exact val_load1 rfl rfl rfl (by exact kM) g5 | exact val_load1 rfl rfl rfl (by exact kM) hget0) (by exact kS) ?_) | refine nY ?_ | refine WA_alt ?_ ?_ | refine nR ?_ | refine WC_draw (id := 8) (ops := o21x8T11) ([(g, cellsO (encInt.row [n0, n1, n2, n3, n4, n5] ++ rest) 3)]) r21x8T11 (by kernel_rfl) rfl ?_ | refine WC_cond rfl (fun hc => ?_) (fun hc => ?_)))
          exact loopQ_next ⟨mz - 1, _, _, by omega, by exact kQ, by exact kL, k + 1, by omega, rfl, rfl, by trivial⟩
      · (repeat' (first | refine nI ?_ | (refine nA ?_; intro _) | (refine nW ?_; first | refine op_val rfl (by first | exact val_indexA rfl rfl rfl rfl rfl (by omega) (by omega) (names5 k (by omega)) | exact kStr) ?_) | (refine WR_id ?_; refine WR_pure rfl rfl rfl (by first | exact val_indexA rfl rfl rfl rfl rfl (by omega) (by omega) (names5 k (by omega)) | exact kStr) ?_) | refine nY ?_ | refine WA_alt ?_ ?_ | refine nR ?_ | refine WC_cond rfl (fun hc => ?_) (fun hc => ?_)))
        (repeat' (first | refine nI ?_ | (refine nA ?_; intro _) | (refine nW ?_; first | (refine op_load_id ?_; refine op_val rfl (by first | exact val_load1 rfl rfl rfl (by exact kM) g0 | exact val_load1 rfl rfl rfl (by exact kM) g1 | exact val_load1 rfl rfl rfl (by exact kM) g2 | exact val_load1 rfl rfl rfl (by exact kM) g3 | exact val_load1 rfl rfl rfl (by exact kM) g4 | exact val_load1 rfl rfl rfl (by exact kM) g5 | exact val_load1 rfl rfl rfl (by exact kM) hget0) ?_) | refine op_val rfl (by exact kStr) ?_) | (refine WR_id ?_; refine WR_pure rfl rfl rfl (by exact kStr) ?_) | (refine WR_id ?_; refine WR_load rfl rfl rfl (by first | exact val_load1 rfl rfl rfl (by exact kM) g0 | exact val_load1 rfl rfl rfl (by exact kM) g1 | exact val_load1 rfl rfl rfl (by exact kM) g2 | exact val_load1 rfl rfl rfl (by exact kM) g3 | exact val_load1 rfl rfl rfl (by exact kM) g4 | exact val_load1 rfl rfl rfl (by exact kM) g5 | exact val_load1 rfl rfl rfl (by exact kM) hget0) (by exact kS) ?_) | refine nY ?_ | refine WA_alt ?_ ?_ | refine nR ?_ | refine WC_draw (id := 8) (ops := o21x8T11) ([(g, cellsO (encInt.row [n0, n1, n2, n3, n4, n5] ++ rest) 3)]) r21x8T11 (by kernel_rfl) rfl ?_ | refine WC_cond rfl (fun hc => ?_) (fun hc => ?_)))
        exact loopQ_next ⟨mz - 1, _, _, by omega, by exact kQ, by exact kL, k + 1, by omega, rfl, rfl, by trivial⟩
    · (repeat' (first | refine nI ?_ | (refine nA ?_; intro _) | (refine nW ?_; first | refine op_val rfl (by exact kStr) ?_) | (refine WR_id ?_; refine WR_pure rfl rfl rfl (by exact kStr) ?_) | refine nY ?_ | refine WA_alt ?_ ?_ | refine nR ?_ | refine WC_drawL (id := 8) (ops := o21x8T11) r21x8T11 (by kernel_rfl) rfl ?_ | refine WC_cond rfl (fun hc => ?_) (fun hc => ?_)))
      refine ro_ret (by exact kR) (by exact kL) ?_; rfl
end Go.Proofs.YtoledfhjmdpihaaGreatDoor
