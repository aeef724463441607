/- Strings: added, compared, cut, read, turned into bytes and back; a string's bytes put behind a row of bytes. Generic over the program. -/
import Derived.Laws.Strings2
import Derived.Laws.Slices
import Derived.Laws.Concat
import Derived.Laws.IdiomStrings
import Derived.Lib.ConvBytes
import Derived.Lib.AppendStr
import Derived.Below
import Derived.RowKit
import Derived.Lib.UnsafeStr
import Derived.Test.YtoledfhjmdpihaaGreatDoorA1
set_option linter.unusedVariables false
set_option linter.unusedSimpArgs false
namespace Go.Proofs.YtoledfhjmdpihaaGreatDoor.VE
open Go
abbrev St (s : List UInt8) : Value := .string ⟨s.toArray⟩
abbrev u8 (c : UInt8) : Value := .int .u8 (c.toNat : Int)
section
variable {P : Program} {n : Nat} {env : Env} {L : List Ent} {dst : Option Nat} {t : TypeId} {pos : String} {after : Array Edge} {g : Option (Nat × Bool)} {s s' : TypeId} {x y : Operand} {p q : List UInt8}
theorem val_addS (hx : ev env x = some (St p)) (hy : ev env y = some (St q)) (h : p.length + q.length ≤ 9223372036854775807) : Val P n env L ⟨dst, .binOp .add s x y s', t, pos, after, g⟩ (St (p ++ q)) := fun a w hA hL => by
  have hg : (eqGuard .add s x y (St p) (St q)).run P w = .ok () w := rfl
  have hb : (binOp .add s (St p) (St q)).run P w = .ok (St (p ++ q)) w := by
    rw [binOp_string_add, run_string_add_sum w _ _ (by simpa [ByteArray.size] using h), ByteArray.mk_append_mk]
  simp only [execOp, hA.ev hx, hA.ev hy, Sem.run_bind, hg, Result.andThen_ok, hb, Sem.run_pure]
theorem val_eqlS (hx : ev env x = some (St p)) (hy : ev env y = some (St q)) : Val P n env L ⟨dst, .binOp .eql s x y s', t, pos, after, g⟩ (.bool (decide (p = q))) := fun a w hA hL => by
  have hg : (eqGuard .eql s x y (St p) (St q)).run P w = .ok () w := rfl
  have hb : (binOp .eql s (St p) (St q)).run P w = .ok (.bool (decide (p = q))) w := by
    rw [binOp_string_eql, ByteArray.toList_mk, ByteArray.toList_mk, Sem.run_pure]
    by_cases h : p = q
    · simp [h]
    · simp [h]
  simp only [execOp, hA.ev hx, hA.ev hy, Sem.run_bind, hg, Result.andThen_ok, hb, Sem.run_pure]
theorem val_neqS (hx : ev env x = some (St p)) (hy : ev env y = some (St q)) : Val P n env L ⟨dst, .binOp .neq s x y s', t, pos, after, g⟩ (.bool (!decide (p = q))) := fun a w hA hL => by
  have hg : (eqGuard .neq s x y (St p) (St q)).run P w = .ok () w := rfl
  have hb : (binOp .neq s (St p) (St q)).run P w = .ok (.bool (!decide (p = q))) w := by
    have : binOp .neq s (St p) (St q) = (Sem.pure (.bool !((⟨p.toArray⟩ : ByteArray).toList == (⟨q.toArray⟩ : ByteArray).toList)) : Sem Value) := by
      simp only [binOp, Op.stringOp]; rfl
    rw [this, ByteArray.toList_mk, ByteArray.toList_mk]
    by_cases h : p = q
    · subst h
      rw [show (p == p) = true by simp, show decide (p = p) = true by simp]; rfl
    · rw [show (p == q) = false by simpa using h, show decide (p = q) = false by simpa using h]; rfl
  simp only [execOp, hA.ev hx, hA.ev hy, Sem.run_bind, hg, Result.andThen_ok, hb, Sem.run_pure]
theorem val_eqlS_t (hx : ev env x = some (St p)) (hy : ev env y = some (St q)) (h : p = q) : Val P n env L ⟨dst, .binOp .eql s x y s', t, pos, after, g⟩ (.bool true) := by
  have := val_eqlS (P := P) (n := n) (L := L) (dst := dst) (t := t) (pos := pos) (after := after) (g := g) (s := s) (s' := s') hx hy
  rwa [show decide (p = q) = true by simpa using h] at this
theorem val_eqlS_f (hx : ev env x = some (St p)) (hy : ev env y = some (St q)) (h : p ≠ q) : Val P n env L ⟨dst, .binOp .eql s x y s', t, pos, after, g⟩ (.bool false) := by
  have := val_eqlS (P := P) (n := n) (L := L) (dst := dst) (t := t) (pos := pos) (after := after) (g := g) (s := s) (s' := s') hx hy
  rwa [show decide (p = q) = false by simpa using h] at this
theorem val_neqS_t (hx : ev env x = some (St p)) (hy : ev env y = some (St q)) (h : p ≠ q) : Val P n env L ⟨dst, .binOp .neq s x y s', t, pos, after, g⟩ (.bool true) := by
  have := val_neqS (P := P) (n := n) (L := L) (dst := dst) (t := t) (pos := pos) (after := after) (g := g) (s := s) (s' := s') hx hy
  rwa [show (!decide (p = q)) = true by simpa using h] at this
theorem val_neqS_f (hx : ev env x = some (St p)) (hy : ev env y = some (St q)) (h : p = q) : Val P n env L ⟨dst, .binOp .neq s x y s', t, pos, after, g⟩ (.bool false) := by
  have := val_neqS (P := P) (n := n) (L := L) (dst := dst) (t := t) (pos := pos) (after := after) (g := g) (s := s) (s' := s') hx hy
  rwa [show (!decide (p = q)) = false by simpa using h] at this
end

section
variable {P : Program} [TT P] {n : Nat} {env : Env} {L : List Ent} {dst : Option Nat} {t : TypeId} {pos : String} {after : Array Edge} {g : Option (Nat × Bool)} {s s' : TypeId} {x y : Operand} {p q : List UInt8}
theorem val_lenS {T : TypeId} {sz bt : Nat} {z : List Value} (hx : ev env x = some (St p)) (ht : ty P T = some ⟨.string, sz, z, bt⟩) :
    Val P n env L ⟨dst, .call { callee := .builtin .len, args := [x].toArray, argTypes := [T].toArray }, t, pos, after, g⟩ (I p.length) := fun a w hA hL => by
  have h := (TT.ok _ _ ht).u
  simp only at h
  simp [execOp, resolve, hA.ev hx, invoke, builtin, run_len_string w T t _ h, goInt, ByteArray.size]
theorem val_indexS {sz bt : Nat} {z : List Value} {k : IntKind} {i : Int} {c : UInt8} (hx : ev env x = some (St p)) (hy : ev env y = some (.int k i)) (ht : ty P s = some ⟨.string, sz, z, bt⟩) (h0 : 0 ≤ i) (hc : p[i.toNat]? = some c) :
    Val P n env L ⟨dst, .index s x y, t, pos, after, g⟩ (u8 c) := fun a w hA hL => by
  have h := (TT.ok _ _ ht).u
  simp only at h
  obtain ⟨hlt, he⟩ := List.getElem?_eq_some_iff.1 hc
  have hr := run_index_string w s ⟨p.toArray⟩ k i h
  rw [dif_pos ⟨h0, by simp only [ByteArray.size, List.size_toArray]; omega⟩] at hr
  have he2 : ((⟨p.toArray⟩ : ByteArray)[i.toNat]'(by simp only [ByteArray.size, List.size_toArray]; exact hlt)) = c := by rw [← he]; rfl
  rw [he2] at hr
  simp only [execOp, hA.ev hx, hA.ev hy, Sem.run_bind, hr, Result.andThen_ok, Sem.run_pure]
theorem run_cutS {w : World} {p : List UInt8} {i j : Nat} (h1 : i ≤ j) (h2 : j ≤ p.length) : Value.string ((⟨p.toArray⟩ : ByteArray).extract i j) = St ((p.take j).drop i) := by
  rw [ByteArray.extract_mk, List.drop_take]
theorem val_sliceS {sz bt : Nat} {z : List Value} {lo hi : Option Operand} {l h : Int} (hx : ev env x = some (St p)) (ht : ty P s = some ⟨.string, sz, z, bt⟩) (hl : cutB env 0 lo = some l) (hh : cutB env p.length hi = some h) (h0 : 0 ≤ l) (h1 : l ≤ h) (h2 : h ≤ p.length) :
    Val P n env L ⟨dst, .slice s x lo hi none, t, pos, after, g⟩ (St ((p.take h.toNat).drop l.toNat)) := fun a w hA hL => by
  have hT := (TT.ok (P := P) _ _ ht).u
  simp only at hT
  have hsz : (⟨p.toArray⟩ : ByteArray).size = p.length := by simp [ByteArray.size]
  have hr : (Instr.slice s (St p) (lo.map a.eval) (hi.map a.eval) none).run P w = .ok (St ((p.take h.toNat).drop l.toNat)) w := by
    cases hi with
    | none =>
      simp only [cutB, Option.some.injEq] at hh; subst hh
      cases lo with
      | none =>
        simp only [cutB, Option.some.injEq] at hl; subst hl
        have := run_slice_string_all w s ⟨p.toArray⟩ hT
        rw [hsz, run_cutS (w := w) (Nat.zero_le _) (Nat.le_refl _)] at this
        simpa using this
      | some lo =>
        have e3 := cutB_some hA hl
        have := run_slice_string_l w s ⟨p.toArray⟩ hT .i64 l h0 (by rw [hsz]; exact h1)
        rw [hsz, run_cutS (w := w) (by omega) (Nat.le_refl _)] at this
        simpa [e3] using this
    | some hi =>
      have e2 := cutB_some hA hh
      cases lo with
      | none =>
        simp only [cutB, Option.some.injEq] at hl; subst hl
        have := run_slice_string_h w s ⟨p.toArray⟩ hT .i64 h (by omega) (by rw [hsz]; exact h2)
        rw [run_cutS (w := w) (Nat.zero_le _) (by omega)] at this
        simpa [e2] using this
      | some lo =>
        have e3 := cutB_some hA hl
        have := run_slice_string w s ⟨p.toArray⟩ .i64 .i64 l h hT h0 h1 (by rw [hsz]; exact h2)
        rw [run_cutS (w := w) (by omega) (by omega)] at this
        simpa [e2, e3] using this
  have hr2 : (Instr.sliceAt s (St p) (lo.map a.eval) (hi.map a.eval) none).run P w = .ok (St ((p.take h.toNat).drop l.toNat)) w := by
    rw [run_sliceAt_string w s _ _ _ _ hT]; exact hr
  simp only [execOp, hA.ev hx, Option.map_none, Sem.run_bind, hr2, Result.andThen_ok, Sem.run_pure]
/-- string(b): what the bytes are. -/
theorem val_bytesStr {e : TypeId} {si bi sz bt sd bd : Nat} {zi zl zd : List Value} {A : Option Addr} {m c : Nat} {l : List UInt8} (hx : ev env x = some (.slice A m c)) (ht : ty P s = some ⟨.slice e, si, zi, bi⟩) (he : ty P e = some ⟨.int .u8, sz, zl, bt⟩) (hd : ty P s' = some ⟨.string, sd, zd, bd⟩)
    (hm : m = l.length) (hc : 0 < m → ∃ b o cx T fr, A = some ⟨b, o, none⟩ ∧ (b, .cells cx.toArray T fr) ∈ L ∧ takeC cx o m = some (l.map u8)) :
    Val P n env L ⟨dst, .convert s s' x, t, pos, after, g⟩ (St l) := fun a w hA hL => by
  have hT := (TT.ok (P := P) _ _ ht).u
  have hE := (TT.ok (P := P) _ _ he).u
  have hD := (TT.ok (P := P) _ _ hd).u
  simp only at hT hE hD
  subst hm
  have hr : (convert s s' (.slice A l.length c)).run P w = .ok (St l) w := by
    by_cases hp : 0 < l.length
    · obtain ⟨b, o, cx, T, fr, rfl, hm, hk⟩ := hc hp
      refine run_convert_bytes_back w s s' e _ c l hT hE hD fun j hj => ?_
      rw [addr_add, hL.cell hm]
      have := takeC_get (k := j) hk (v := u8 l[j]) (by simp [List.getElem?_eq_getElem hj])
      simpa using this
    · have h0 : l = [] := List.eq_nil_of_length_eq_zero (by omega)
      subst h0
      rw [run_convert_bytes_string w s s' e _ _ c hT hE hD]
      cases A with
      | none => rfl
      | some A => simp [Conv.bytesToString, loadCells, loadCellsFrom]; rfl
  simp only [execOp, hA.ev hx, Sem.run_bind, hr, Result.andThen_ok, Sem.run_pure]
end

section
variable {P : Program} [TT P] {n d : Nat} {env : Env} {L L0 : List Ent} {t : TypeId} {pos : String} {after : Array Edge} {g : Option (Nat × Bool)} {s s' : TypeId} {x y : Operand} {p q : List UInt8} {K : Env → List Ent → Prop}
/-- []byte(s): a new row of its bytes, with more room behind it. -/
theorem op_strBytes {e : TypeId} {si bi sz bt sd bd : Nat} {zi zl zd : List Value} (hx : ev env x = some (St p)) (ht : ty P s = some ⟨.string, sd, zd, bd⟩) (he : ty P e = some ⟨.int .u8, sz, zl, bt⟩) (hd' : ty P s' = some ⟨.slice e, si, zi, bi⟩) (hd : Nat.blt d n = true)
    (h : ∀ b c rest fr, p.length ≤ c → K ((d, .slice (some ⟨b, 0, none⟩) p.length c) :: env) ((b, .cells (p.map u8 ++ rest).toArray e fr) :: L)) : Op1 P n ⟨some d, .convert s s' x, t, pos, after, g⟩ env L K := fun g' a w next Q ha hs hk => by
  have hT := (TT.ok (P := P) _ _ ht).u
  have hE := (TT.ok (P := P) _ _ he).u
  have hD := (TT.ok (P := P) _ _ hd').u
  simp only at hT hE hD
  unfold Oper.wp
  have hsz : (⟨p.toArray⟩ : ByteArray).size = p.length := by simp [ByteArray.size]
  have hr := run_bytes_of_string w s s' e ⟨p.toArray⟩ hT hD hE
  have hrow : ∀ c, bytesRow ⟨p.toArray⟩ c = (p.map u8 ++ List.replicate (c - p.length) (Value.int .u8 0)).toArray := fun c => by
    unfold bytesRow
    rw [hsz]
    apply Array.ext'
    simp
  rw [hrow, hsz] at hr
  have key : ∀ V W', (convert s s' (St p)).run P w = .ok V W' → (execOp a.eval ⟨some d, .convert s s' x, t, pos, after, g⟩).run P w = .ok (.value V) W' := fun V W' hr => by
    simp only [execOp, ha.ev hx, Sem.run_bind, hr, Result.andThen_ok, Sem.run_pure]
  rw [key _ _ hr]
  exact hk _ _ _ _ (ha.put (d := some d) hd _) ((hs.drew (w.drawn + 1)).new _) (h _ _ _ _ (grownCap_ge w _ 0 e))
end
end Go.Proofs.YtoledfhjmdpihaaGreatDoor.VE
/- Between the walks and the library's contracts; strings in rows; a builder's bytes. Generic over the program. -/
set_option linter.unusedVariables false
set_option linter.unusedSimpArgs false
namespace Go.Proofs.YtoledfhjmdpihaaGreatDoor.VE
open Go
theorem Sat.lt {g : World} {L : List Ent} {w : World} (h : Sat g L w) {e : Ent} (he : e ∈ L) : e.1 < w.heap.size := (Array.getElem?_eq_some_iff.1 (h.has e he)).1
theorem Sat.below {g : World} {L : List Ent} {w w' : World} (h : Sat g L w) (hb : RowKit.Below w.heap.size w w') : Sat g L w' :=
  ⟨hb.os.trans h.os, hb.tape.trans h.tape, hb.output.trans h.output, Nat.le_trans h.size hb.size, h.nodup, fun e he => (hb.block _ (h.lt he)).trans (h.has e he)⟩
/-- A block of the program's own variables, and what it tells. -/
def GlobP (g : Nat) (Q : World → Prop) (L : List Ent) : Prop := ∃ o, (g, o) ∈ L ∧ ∀ w : World, w.heap[g]? = some o → Q w
theorem GlobP.sat {g : Nat} {Q : World → Prop} {L : List Ent} {g0 w : World} (h : GlobP g Q L) (hs : Sat g0 L w) : Q w :=
  let ⟨o, h1, h2⟩ := h; h2 w (hs.has _ h1)
theorem GlobP.mono {g : Nat} {Q : World → Prop} {L M : List Ent} (h : GlobP g Q L) (hs : ∀ e ∈ L, e ∈ M) : GlobP g Q M :=
  let ⟨o, h1, h2⟩ := h; ⟨o, hs _ h1, h2⟩
/-- Some block that is told of, and what it tells. -/
def GlobQ (Q : World → Prop) (L : List Ent) : Prop := ∃ e, e ∈ L ∧ ∀ w : World, w.heap[e.1]? = some e.2 → Q w
theorem GlobQ.sat {Q : World → Prop} {L : List Ent} {g0 w : World} (h : GlobQ Q L) (hs : Sat g0 L w) : Q w :=
  let ⟨e, h1, h2⟩ := h; h2 w (hs.has _ h1)
theorem GlobQ.mono {Q : World → Prop} {L M : List Ent} (h : GlobQ Q L) (hs : ∀ e ∈ L, e ∈ M) : GlobQ Q M :=
  let ⟨e, h1, h2⟩ := h; ⟨e, hs _ h1, h2⟩
/-- A function of the library that hands back v and turns nothing of what was there. -/
theorem RO.lib {P : Program} {f : FuncId} {args : List Value} {L : List Ent} {v : Value} (he : Enters P f) (h : ∀ g w, Sat g L w → Calls P f args.toArray w fun e w' => e = .returned v ∧ RowKit.Below w.heap.size w w') : RO P f args L v :=
  ⟨he, fun g w hs => (h g w hs).mono fun e w' ⟨h1, h2⟩ => ⟨v, L, h1, hs.below h2, rfl, rfl⟩⟩
def encTx : Enc (List UInt8) := ⟨1, fun s => [St s], fun _ => rfl, fun _ => rfl⟩
theorem encTx_row (ws : List (List UInt8)) : encTx.row ws = ws.map St := by
  induction ws with
  | nil => rfl
  | cons w ws ih => simp only [Enc.row, List.flatMap_cons, List.map_cons] at *; rw [ih]; rfl
theorem strAt {L : List Ent} {b : Nat} {T : TypeId} {fr : Nat × Nat} {ws : List (List UInt8)} {k : Nat} (hk : k = ws.length) (hm : (b, .cells (ws.map St).toArray T fr) ∈ L) (hb : ws.length ≤ big) : SliceAt L encTx ⟨some ⟨b, 0, none⟩, k, k⟩ ws := by
  refine ⟨hk, by simp only; omega, hb, fun _ => ⟨b, 0, _, T, fr, rfl, hm, ?_⟩⟩
  have := RowC.of_row encTx ws []
  rwa [List.append_nil, encTx_row] at this
/-- Where a string of a row lies. -/
theorem SliceAt.cell {X : Type} {L : List Ent} {E : Enc X} {s : Sl} {xs : List X} (h : SliceAt L E s xs) {k : Nat} {x : X} (hk : xs[k]? = some x) : ∃ b o c T fr, s.a = some ⟨b, o, none⟩ ∧ (b, .cells c.toArray T fr) ∈ L ∧ takeC c (o + k * E.sz) E.sz = some (E.cells x) := by
  have hlt := (List.getElem?_eq_some_iff.1 hk).1
  obtain ⟨b, o, c, T, fr, h1, h2, h3⟩ := h.2.2.2 (by omega)
  exact ⟨b, o, c, T, fr, h1, h2, h3 k x hk⟩
section
variable {P : Program} [TT P] {n d : Nat} {env : Env} {L L0 : List Ent} {t : TypeId} {pos : String} {after : Array Edge} {g : Option (Nat × Bool)} {K : Env → List Ent → Prop}
omit [TT P] in
theorem run_append_nothing {w : World} (t u ty e : TypeId) (i : TypeInfo) (ht : P.underlying t = some (.slice e)) (hu : P.underlying u = some .string) (hi : P.info? e = some i) (A : Option Addr) (m c : Nat) (hm : m ≤ c) :
    (Builtin.append_ #[t, u] ty #[.slice A m c, St []]).run P w = .ok (.slice A m c) w := by
  cases A <;> simp [Builtin.append_, run_underlying ht, run_underlying hu, sizeOf, typeInfo, hi, Builtin.lenOf, hm, Builtin.firstCells, storeCells, ByteArray.size]
/-- append(s, x...) where x is a string and s a row of bytes of one's own. -/
theorem op_appendStr {s x : Operand} {T U e : TypeId} {si bi su bu bt : Nat} {zi zu : List Value} {sl : Sl} {k : Nat} {cs : List Value} {es : List Ent} {q : List UInt8}
    (hs : ev env s = some sl.v) (hx : ev env x = some (St q)) (ht : ty P T = some ⟨.slice e, si, zi, bi⟩) (hu : ty P U = some ⟨.string, su, zu, bu⟩) (hj : ty P e = some ⟨.int .u8, 1, [.int .u8 0], bt⟩) (hbt : Nat.ble bt 1 = true)
    (hown : Own e 1 sl k cs es) (hp : L.Perm (es ++ L0)) (hmax : k + q.length ≤ big) (hd : Nat.blt d n = true)
    (h : ∀ sl' es', Own e 1 sl' (k + q.length) (cs ++ q.map u8) es' → K ((d, sl'.v) :: env) (es' ++ L0)) : Op1 P n ⟨some d, .call { callee := .builtin .append, args := [s, x].toArray, argTypes := [T, U].toArray }, t, pos, after, g⟩ env L K := fun g' a w next Q ha hS hk => by
  unfold Oper.wp
  have hbt' := Nat.le_of_ble_eq_true hbt
  obtain ⟨xi, hxi, hxs, hxb, z, hz, hzc⟩ := (TT.ok (P := P) _ _ hj).info
  replace hxs : xi.size = 1 := hxs
  replace hxb : xi.bytes = bt := hxb
  replace hzc : z.cells = #[.int .u8 0] := hzc
  have hT := (TT.ok (P := P) _ _ ht).u
  have hU := (TT.ok (P := P) _ _ hu).u
  simp only at hT hU
  have hS' := LSub.perm hp g' w hS
  have hsz : (⟨q.toArray⟩ : ByteArray).size = q.length := by simp [ByteArray.size]
  have hcl : Lib.strCells ⟨q.toArray⟩ = q.map u8 := rfl
  have hred : ∀ v' w', (Builtin.append_ #[T, U] t #[sl.v, St q]).run P w = .ok v' w' →
      (execOp a.eval ⟨some d, .call { callee := .builtin .append, args := [s, x].toArray, argTypes := [T, U].toArray }, t, pos, after, g⟩).run P w = .ok (.value v') w' := fun v' w' hr => by
    simp only [execOp, resolve, invoke, builtin, Sem.run_bind, Sem.run_pure, Result.andThen_ok, List.map_toArray, List.map_cons, List.map_nil, ha.ev hs, ha.ev hx, hr]
  have hmx : k + q.length ≤ 140737488355328 := hmax
  have hnew : ∀ c, k + q.length ≤ c → c ≤ maxLen →
      Own e 1 ⟨some ⟨w.heap.size, 0, none⟩, k + q.length, c⟩ (k + q.length) (cs ++ q.map u8) [(w.heap.size, .cells (cs.toArray ++ (q.map u8).toArray ++ Builtin.zeroCells z.cells (c - (k + q.length))) e (0, 0))] := fun c hc hc' => by
    refine .inr ⟨w.heap.size, c, (Builtin.zeroCells z.cells (c - (k + q.length))).toList, rfl, by simp [cellsO], ?_, hc, ?_, hc'⟩
    · rw [List.length_append, hown.len, List.length_map]; omega
    · simp only [Array.length_toList, size_zeroCells', hzc, List.size_toArray, List.length_cons, List.length_nil]; omega
  by_cases hq0 : q = []
  · subst hq0
    rw [hred _ _ (run_append_nothing T U t e xi hT hU hxi sl.a sl.n sl.c hown.le_cap)]
    refine hk _ _ _ _ (ha.put (d := some d) hd _) hS' (h sl es ?_)
    simpa using hown
  have hq1 : 0 < q.length := List.length_pos_iff.2 hq0
  rcases hown with ⟨h1, h2, rfl, rfl, rfl⟩ | ⟨gb, cap, rest, rfl, rfl, hl, hc1, hc2, hc3⟩
  · obtain ⟨A, n', c'⟩ := sl
    simp only at h1 h2
    subst h1; subst h2
    have hge := grownCap_ge w q.length 0 e
    have hle := grownCap_le_maxLen w q.length 0 e (by simp only [maxLen]; omega)
    have ho := hnew (grownCap w q.length 0 e) (by omega) hle
    simp only [Nat.zero_add, List.nil_append] at ho h
    have hr : (Builtin.append_ #[T, U] t #[.slice A 0 0, St q]).run P w = .ok (.slice (some ⟨w.heap.size, 0, none⟩) q.length (grownCap w q.length 0 e)) (w.drew.alloc (.cells ((([] : List Value).toArray ++ (q.map u8).toArray ++ Builtin.zeroCells z.cells (grownCap w q.length 0 e - q.length))) e)) := by
      cases A with
      | none =>
        have := run_append_nil_string (P := P) w T U t e xi z hT hU hxi hz ⟨q.toArray⟩ (by rw [hsz]; exact hq1) (by rw [hsz]; omega) (by rw [hsz, hxb]; exact Nat.le_trans (Nat.mul_le_mul_left _ hbt') (by omega))
        rw [hsz] at this
        rw [this]
        congr 3
        simp
      | some b =>
        have := Lib.run_append_grow_string (P := P) w T U t e xi z hT hU hxi hz b 0 0 [] (by simp) (by simp) ⟨q.toArray⟩ (by rw [hsz]; omega) (by rw [hsz]; omega) (by rw [hsz, Nat.zero_add, nextslicecap_zero hq1, hxb]; exact Nat.le_trans (Nat.mul_le_mul_left _ hbt') (by omega))
        rw [hsz, hcl, Nat.zero_add] at this
        exact this
    rw [hred _ _ hr]
    exact hk _ _ _ _ (ha.put (d := some d) hd _) ((hS'.drew _).new _) (h _ _ ho)
  · have hh : w.heap[gb]? = some (cellsO (cs ++ rest) e) := hS'.has (gb, cellsO (cs ++ rest) e) List.mem_cons_self
    by_cases hroom : k + q.length ≤ cap
    · have hr := Lib.run_append_room_string (P := P) w T U t e xi hT hU hxi hxs gb k cap _ hh ⟨q.toArray⟩ (by rw [hsz]; exact hroom) (by rw [hsz]; simp only [List.size_toArray, List.length_append, hl]; omega)
      rw [hsz, hcl] at hr
      rw [hred _ _ hr]
      have hlist : (cs ++ rest).toArray.toList.take k ++ q.map u8 ++ (cs ++ rest).toArray.toList.drop (k + q.length) = (cs ++ q.map u8) ++ rest.drop q.length := by
        have hl' : k = cs.length := by omega
        subst hl'
        simp
      rw [hlist]
      refine hk _ _ _ _ (ha.put (d := some d) hd _) (hS'.set rfl rfl rfl (by simp [World.setRow]) (setRow_heap w gb _ _ e (0, 0) hh) (fun q hq => setRow_other w gb q _ hq)) ?_
      refine h ⟨some ⟨gb, 0, none⟩, k + q.length, cap⟩ [_] (.inr ⟨gb, cap, rest.drop q.length, rfl, rfl, ?_, hroom, ?_, hc3⟩)
      · rw [List.length_append, hl, List.length_map]; omega
      · rw [List.length_drop]; omega
    · have holds : ∀ j v, cs[j]? = some v → w.cell? ((⟨gb, 0, none⟩ : Addr).add j) = some v := fun j v hj => by
        rw [addr_add, Nat.zero_add]
        have hlt := (List.getElem?_eq_some_iff.1 hj).1
        simp [World.cell?, hh, List.getElem?_append_left hlt, hj]
      have hr := Lib.run_append_grow_string (P := P) w T U t e xi z hT hU hxi hz ⟨gb, 0, none⟩ k cap cs (by rw [hl, hxs]) holds ⟨q.toArray⟩ (by rw [hsz]; omega) (by rw [hsz]; omega) (by rw [hsz]; exact growslice_fits (by omega) (by rw [hxb]; exact Nat.le_trans (Nat.mul_le_mul_left _ hbt') (by omega)))
      rw [hsz, hcl] at hr
      rw [hred _ _ hr]
      have hge := grownCap_ge w (k + q.length) cap e
      have hle := grownCap_le_maxLen w (k + q.length) cap e (by simp only [maxLen]; omega)
      exact hk _ _ _ _ (ha.put (d := some d) hd _) (((LSub.right (L := [(gb, _)]) g' w hS').drew _).new _) (h _ _ (hnew _ hge hle))
omit [TT P] in
/-- unsafe.SliceData of a row that has room. -/
theorem val_sliceData {dst : Option Nat} {x : Operand} {Ts : Array TypeId} {A : Addr} {m c : Nat} (hx : ev env x = some (.slice (some A) m c)) (hc : c ≠ 0) :
    Val P n env L ⟨dst, .call { callee := .builtin .unsafeSliceData, args := [x].toArray, argTypes := Ts }, t, pos, after, g⟩ (.pointer (some A)) := fun a w hA hL => by
  have hr := Lib.run_unsafeSliceData_row (P := P) w Ts t A m c hc
  simp only [execOp, resolve, invoke, builtin, Sem.run_bind, Sem.run_pure, Result.andThen_ok, List.map_toArray, List.map_cons, List.map_nil, hA.ev hx, hr]
/-- unsafe.String: the bytes; the row is let go. -/
theorem op_unsafeString {x y : Operand} {pt it e : TypeId} {sp bp bt : Nat} {zp : List Value} {gb : Nat} {c : List Value} {q : List UInt8} (hx : ev env x = some (.pointer (some ⟨gb, 0, none⟩))) (hy : ev env y = some (I q.length)) (ht : ty P pt = some ⟨.pointer e, sp, zp, bp⟩) (hj : ty P e = some ⟨.int .u8, 1, [.int .u8 0], bt⟩)
    (hp : L.Perm ((gb, cellsO (q.map u8 ++ c) e) :: L0)) (hq : q ≠ []) (hmax : q.length ≤ big) (hd : Nat.blt d n = true) (h : K ((d, St q) :: env) L0) : Op1 P n ⟨some d, .call { callee := .builtin .unsafeString, args := [x, y].toArray, argTypes := [pt, it].toArray }, t, pos, after, g⟩ env L K := fun g' a w next Q ha hS hk => by
  unfold Oper.wp
  have hT := (TT.ok (P := P) _ _ ht).u
  simp only at hT
  obtain ⟨xi, hxi, hxs, hxb, z, hz, hzc⟩ := (TT.ok (P := P) _ _ hj).info
  replace hxs : xi.size = 1 := hxs
  have hS' := LSub.perm hp g' w hS
  have hh : w.heap[gb]? = some (cellsO (q.map u8 ++ c) e) := hS'.has (gb, cellsO (q.map u8 ++ c) e) List.mem_cons_self
  have hmx : q.length ≤ 140737488355328 := hmax
  have hr := Lib.run_unsafeString_row (P := P) w pt it t e hT (by simp [Program.cellsOf, hxi, hxs]) gb (q.map u8 ++ c).length (by simp [World.shape?, hh]) q hq (by simp) (by omega) (fun j b hj => by
    rw [addr_add, Nat.zero_add]
    have hlt := (List.getElem?_eq_some_iff.1 hj).1
    simp [World.cell?, hh, hj, List.getElem?_append_left (show j < (q.map u8).length by simpa using hlt)])
  have key : ∀ V W', (Builtin.unsafeString_ #[pt, it] t #[.pointer (some ⟨gb, 0, none⟩), .int .i64 q.length]).run P w = .ok V W' → (execOp a.eval ⟨some d, .call { callee := .builtin .unsafeString, args := [x, y].toArray, argTypes := [pt, it].toArray }, t, pos, after, g⟩).run P w = .ok (.value V) W' := fun V W' hr => by
    simp only [execOp, resolve, invoke, builtin, Sem.run_bind, Sem.run_pure, Result.andThen_ok, List.map_toArray, List.map_cons, List.map_nil, ha.ev hx, ha.ev hy, hr]
  rw [key _ _ hr]
  have hL0 := LSub.drop g' w hS'
  have hne : gb ∉ L0.map Prod.fst := by
    have := hS'.nodup
    simp only [List.map_cons, List.nodup_cons] at this
    exact this.1
  refine hk _ _ L0 _ (ha.put (d := some d) hd _) ?_ h
  have hfz : ∀ k, k ≠ gb → (w.freeze ⟨gb, 0, none⟩ q.length).heap[k]? = w.heap[k]? := fun k hk => by
    unfold World.freeze
    split
    · rfl
    · simp [Array.getElem?_modify, Ne.symm hk]
  have hfs : (w.freeze ⟨gb, 0, none⟩ q.length).heap.size = w.heap.size := by unfold World.freeze; split <;> simp
  have hfo : (w.freeze ⟨gb, 0, none⟩ q.length).os = w.os ∧ (w.freeze ⟨gb, 0, none⟩ q.length).tape = w.tape ∧ (w.freeze ⟨gb, 0, none⟩ q.length).output = w.output := by unfold World.freeze; split <;> exact ⟨rfl, rfl, rfl⟩
  exact ⟨hfo.1.trans hL0.os, hfo.2.1.trans hL0.tape, hfo.2.2.trans hL0.output, by rw [hfs]; exact hL0.size, hL0.nodup, fun e he => by
    rw [hfz _ (fun e1 => hne (e1 ▸ List.mem_map_of_mem he))]; exact hL0.has e he⟩
end
end Go.Proofs.YtoledfhjmdpihaaGreatDoor.VE
/- Short names for what closes a step on texts. Generic over the program. -/
set_option linter.unusedVariables false
set_option linter.unusedSectionVars false
namespace Go.Proofs.YtoledfhjmdpihaaGreatDoor.VE
open Go
section
variable {P : Program} [TT P] {n : Nat} {env : Env} {L : List Ent} {dst : Option Nat} {t : TypeId} {pos : String} {after : Array Edge} {g : Option (Nat × Bool)} {s : TypeId} {x y : Operand}
/-- An element of an array of one cell each. -/
theorem val_indexA {e : TypeId} {u : TypeDesc} {m si bi bt : Nat} {zi zl vs : List Value} {i : Int} {v : Value} (hx : ev env x = some (.agg vs.toArray)) (hy : ev env y = some (I i)) (ht : ty P s = some ⟨.array m e, si, zi, bi⟩) (hj : ty P e = some ⟨u, 1, zl, bt⟩) (ha : aggB u = false) (h0 : 0 ≤ i) (h1 : i < m) (hv : vs[i.toNat]? = some v) :
    Val P n env L ⟨dst, .index s x y, t, pos, after, g⟩ v := fun a w hA hL => by
  have hT := (TT.ok (P := P) _ _ ht).u
  simp only at hT
  have hsz := run_sizeOf (P := P) (w := w) (TT.ok _ _ hj)
  have hag := run_isAgg (P := P) (w := w) (TT.ok _ _ hj)
  simp only [ha] at hag
  have hr : (Instr.index s (.agg vs.toArray) (I i)).run P w = .ok v w := by
    simp only [Instr.index, asIntOf, Sem.run_bind, Sem.run_pure, Result.andThen_ok, run_underlying hT]
    rw [if_pos ⟨h0, h1⟩]
    simp only [Sem.run_bind, hsz, Result.andThen_ok, part, hag, Bool.false_eq_true, if_false, Nat.mul_one, Sem.run_pure, List.getElem?_toArray, hv]
  simp only [execOp, hA.ev hx, hA.ev hy, Sem.run_bind, hr, Result.andThen_ok, Sem.run_pure]
/-- An array's literal. -/
theorem val_buildA {e : TypeId} {u : TypeDesc} {m sz bt si bi : Nat} {zl zi : List Value} {xs : List (Nat × Operand)} {vs : List (Nat × Value)} {cs : List Value} (ht : ty P s = some ⟨.array m e, si, zl, bt⟩) (hj : ty P e = some ⟨u, sz, zi, bi⟩) (hx : evp env xs = some vs)
    (hc : fillF (stepsOf sz) zl vs = some cs) : Val P n env L ⟨dst, .build s xs.toArray, t, pos, after, g⟩ (.agg cs.toArray) := fun a w hA hL => by
  obtain ⟨x, hxi, _, _, z, hz, hzc⟩ := (TT.ok (P := P) _ _ ht).info
  have hT := (TT.ok (P := P) _ _ ht).u
  simp only at hT
  have hs := run_sizeOf (P := P) (w := w) (TT.ok _ _ hj)
  have hfill := fill_eq (stepsOf sz) vs zl cs (fillF_eq hc)
  have hparts : (xs.toArray.map fun (k, x) => (k, a.eval x)) = vs.toArray := by
    have := hA.evp hx
    simp [this]
  have hb : (Instr.build s vs.toArray).run P w = .ok (.agg cs.toArray) w := by
    simp only [Instr.build, zeroValue, typeInfo, Sem.run_bind, run_program, Result.andThen_ok, hxi, Sem.run_pure, hz, hzc, run_underlying hT, hs]
    have : Instr.fill (fun i => some (i * sz, sz)) zl.toArray vs = some cs.toArray := hfill
    simp only [this, Sem.run_pure]
  simp only [execOp, hparts, Sem.run_bind, hb, Result.andThen_ok, Sem.run_pure]
end
section
variable {P : Program} [TT P] {n : Nat} {env : Env} {L : List Ent} {dst : Option Nat} {t : TypeId} {pos : String} {after : Array Edge} {g : Option (Nat × Bool)} {s s2 : TypeId} {x y : Operand}
/-- byte(n). -/
theorem val_toByte {p q : Int} {s1 b1 s3 b2 : Nat} {z1 z2 : List Value} (hs : ty P s = some ⟨.int .i64, s1, z1, b1⟩) (hd : ty P s2 = some ⟨.int .u8, s3, z2, b2⟩) (hx : ev env x = some (I p)) (hq : IntKind.u8.wrap p = q) :
    Val P n env L ⟨dst, .convert s s2 x, t, pos, after, g⟩ (.int .u8 q) := fun a w hA hL => by
  have u1 := (TT.ok (P := P) _ _ hs).u
  have u2 := (TT.ok (P := P) _ _ hd).u
  simp only at u1 u2
  have hr : (convert s s2 (I p)).run P w = .ok (.int .u8 q) w := by
    simp [convert, run_underlying u1, run_underlying u2, Conv.intToInt, hq]
  simp only [execOp, hA.ev hx, Sem.run_bind, hr, Result.andThen_ok, Sem.run_pure]
omit [TT P] in
/-- a - b of bytes. -/
theorem val_subB {s' : TypeId} {p q r : Int} (hx : ev env x = some (.int .u8 p)) (hy : ev env y = some (.int .u8 q)) (hr : p - q = r) (h0 : 0 ≤ r) (h1 : r ≤ 255) : Val P n env L ⟨dst, .binOp .sub s x y s', t, pos, after, g⟩ (.int .u8 r) := fun a w hA hL => by
  have hw : IntKind.u8.wrap (p - q) = r := by rw [IntKind.wrap_u8]; omega
  have := run_arith (P := P) (w := w) (op := .sub) (k := .u8) (x := x) (y := y) (p := p) (q := q) (s := s) (r := r) (by simp [binOp, Op.intArith, hw])
  simp only [execOp, hA.ev hx, hA.ev hy]
  rw [Sem.run_bind, this]; rfl
/-- string(b), b a literal. -/
theorem val_bytesLit (l : List UInt8) {e : TypeId} {si bi sz bt sd bd b c : Nat} {zi zl zd : List Value} {T : TypeId} {fr : Nat × Nat} (hx : ev env x = some (.slice (some ⟨b, 0, none⟩) l.length c)) (ht : ty P s = some ⟨.slice e, si, zi, bi⟩) (he : ty P e = some ⟨.int .u8, sz, zl, bt⟩) (hd : ty P s2 = some ⟨.string, sd, zd, bd⟩)
    (hm : (b, .cells (l.map u8).toArray T fr) ∈ L) : Val P n env L ⟨dst, .convert s s2 x, t, pos, after, g⟩ (St l) :=
  val_bytesStr hx ht he hd rfl fun _ => ⟨b, 0, _, T, fr, rfl, hm, by
    unfold takeC
    rw [if_pos (by simp), List.drop_zero, List.take_of_length_le (by simp)]⟩
end
theorem encTx_set (xs : List (List UInt8)) (i : Nat) (v : List UInt8) (rest : List Value) (hi : i < xs.length) : (encTx.row xs ++ rest).set i (St v) = encTx.row (xs.set i v) ++ rest := by
  rw [encTx_row, encTx_row, List.set_append_left _ _ (by simpa using hi), List.map_set]
section
variable {P : Program} [TT P] {n : Nat} {env : Env} {L L0 : List Ent} {t : TypeId} {pos : String} {after : Array Edge} {g : Option (Nat × Bool)} {s : TypeId} {x y : Operand} {K : Env → List Ent → Prop}
/-- xs[i] = v in a row of strings. -/
theorem op_storeStr {sz bt : Nat} {z : List Value} {b i o : Nat} {T : TypeId} {xs : List (List UInt8)} {rest : List Value} {v : List UInt8} (hx : ev env x = some (.pointer (some ⟨b, o, none⟩))) (ho : o = i) (hy : ev env y = some (St v)) (ht : ty P s = some ⟨.string, sz, z, bt⟩) (hsz : sz = 1)
    (hp : L.Perm ((b, cellsO (encTx.row xs ++ rest) T) :: L0)) (hi : i < xs.length) (h : K env ((b, cellsO (encTx.row (xs.set i v) ++ rest) T) :: L0)) : Op1 P n ⟨none, .store s x y, t, pos, after, g⟩ env L K := by
  subst ho
  refine op_store1 hx hy ht hsz rfl hp ?_ (encTx_set xs o v rest hi) h
  rw [List.length_append, encTx_row, List.length_map, Nat.blt_eq]; omega
end
theorem SliceAt.lit {X : Type} {L : List Ent} {E : Enc X} {b : Nat} {cs : List Value} {T : TypeId} {fr : Nat × Nat} (xs : List X) (hm : (b, .cells cs.toArray T fr) ∈ L) (hc : cs = E.row xs) (hl : xs.length ≤ big) : SliceAt L E ⟨some ⟨b, 0, none⟩, xs.length, xs.length⟩ xs := by
  refine ⟨rfl, Nat.le_refl _, hl, fun _ => ⟨b, 0, cs, T, fr, rfl, hm, ?_⟩⟩
  have := RowC.of_row E xs []
  rwa [List.append_nil, ← hc] at this
theorem kLen {p : Prop} (h : p := by first | omega | (simp only [List.length_append, List.length_cons, List.length_nil]; omega) | (simp; omega)) : p := h
theorem kStr {p : Prop} (h : p := by first | (apply gv_bin; first | exact val_eqlS_t rfl rfl (by first | assumption | rfl) | exact val_eqlS_f rfl rfl (by first | assumption | decide) | exact val_neqS_t rfl rfl (by first | assumption | decide) | exact val_neqS_f rfl rfl (by first | assumption | rfl) | (refine val_addS rfl rfl ?_; exact kLen)) | exact val_lenS rfl rfl | (apply gv_build; exact val_buildA rfl rfl rfl rfl) | (refine val_indexS rfl rfl rfl ?_ ?_; exact kO; assumption)) : p := h
end Go.Proofs.YtoledfhjmdpihaaGreatDoor.VE
