/- The laws of texts: what all of them meet. -/
import Derived.Test.YtoledfhjmdpihaaGreatDoorRows
import Derived.Handed
import Derived.HandedShaped
import Derived.Lay
import Derived.LaidOnce
import Derived.SevenTiedAt
import Derived.Lib.LaidTab
import Derived.Lib.LaidU8
import Derived.Shelf.Vars
import Derived.Test.YtoledfhjmdpihaaGreatDoorA24
import Derived.Test.YtoledfhjmdpihaaGreatDoorA25
import Derived.Test.YtoledfhjmdpihaaGreatDoorA26
import Derived.Test.YtoledfhjmdpihaaGreatDoorA10
import Derived.Test.YtoledfhjmdpihaaGreatDoorA23
set_option linter.unusedVariables false
set_option linter.unusedSectionVars false
set_option linter.unusedSimpArgs false
namespace Go.Proofs.YtoledfhjmdpihaaGreatDoor
open Go Go.Proofs Go.Proofs.YtoledfhjmdpihaaGreatDoor.VE
attribute [local irreducible] Val Op1 WO WR WA WC seqQ blockQ loopQ retQ
set_option maxHeartbeats 4000000
theorem c_linesRunE {L : List Ent} {bad : Int} {text s : Str} (h : linesRun bad text = s) (hG : Glob L) : RO Tryz.prog 12 [I bad, St text] L (St s) := h ▸ c_linesRun bad text hG
theorem c_linesRunT {L : List Ent} {bad : Int} {text t s : Str} (h : linesRun bad t = s) (ht : text = t) (hG : Glob L) : RO Tryz.prog 12 [I bad, St text] L (St s) := ht ▸ c_linesRunE h hG
theorem c_sLinesRunE {L : List Ent} {bad : Int} {text s : Str} (h : linesRun bad text = s) : RO Tryz.prog 13 [I bad, St text] L (St s) := h ▸ c_sLinesRun bad text
theorem lineW_took9 {w : World} {n : Nat} (ws : List Str) (h0 : TookLe n w) : TookLe (n + 9) (lineW w ws) := by
  have hs : ∀ e : Event, TookLe (n + 9) (step w e) := fun e => (took_step h0).up (by omega)
  cases hk : known (ws.headD []) with
  | false => rw [lineW_none hk]; exact h0.up (by omega)
  | true =>
    rcases known_iff.1 hk with h | h | h | h | h | h | h
    · rw [lineW_as h, asks_step (by omega)]; exact hs _
    · rw [lineW_tgs h, asks_step (by omega)]; exact hs _
    · rw [lineW_ap h, asks_step (by omega)]; exact hs _
    · rw [lineW_bring h, bring_step]; exact hs _
    · rw [lineW_tick h, show tick w = step w ⟨6, 0, 0, Msg.zero⟩ by simp [step]]; exact hs _
    · rw [lineW_fall h, show fall w (numAt ws 1) = step w ⟨7, 0, numAt ws 1, Msg.zero⟩ by simp [step]]; exact hs _
    · rw [lineW_meet h]; exact meet_took h0
theorem lines_bound : ∀ (ls : List Str) (w : World) (o : Str) (n : Nat), WOk w → TookLe n w → (ls.foldl lineStep (w, o)).2.length ≤ o.length + 40000 * ls.length ∧ TookLe (n + 9 * ls.length) (ls.foldl lineStep (w, o)).1
  | [], w, o, n, _, h => ⟨by simp, by simpa using h⟩
  | l :: ls, w, o, n, hw, h => by
    have ih := lines_bound ls (lineW w (cutAt 32 l)) (o ++ lineS w (cutAt 32 l)) (n + 9) (lineW_ok hw _) (lineW_took9 _ h)
    have h1 := lineS_len hw (cutAt 32 l)
    rw [List.length_append] at ih
    rw [List.foldl_cons, List.length_cons]
    exact ⟨Nat.le_trans ih.1 (by omega), ih.2.up (by omega)⟩
theorem servLines_len : ∀ (ss : List Serv) (n : Nat), (∀ s ∈ ss, s.took.length ≤ n) → (servLines ss).length ≤ 80 * n * ss.length
  | [], _, _ => by simp
  | s :: r, n, h => by
    have h1 := tookLines_len s.id s.took
    have h2 := h s List.mem_cons_self
    have h3 := servLines_len r n (fun x hx => h x (List.mem_cons_of_mem _ hx))
    have h4 : 80 * s.took.length ≤ 80 * n := Nat.mul_le_mul_left 80 h2
    have e : servLines (s :: r) = tookLines s.id s.took ++ servLines r := by simp [servLines]
    rw [e, List.length_append, List.length_cons, Nat.mul_add]
    omega
theorem linesRun_len (bad : Int) (text : Str) : (linesRun bad text).length ≤ 30000000 := by
  by_cases hb : 0 ≤ bad ∧ bad ≤ 3
  · by_cases hl : 600 < text.length
    · rw [lo_2 hb hl]; decide
    · have hll : (linesOf text).length ≤ 601 := by
        rw [linesOf_len, cutAt_len]
        have := List.count_le_length (a := (10 : UInt8)) (l := text)
        omega
      have hk0 : TookLe 0 (worldNew bad) := fun s hs => by simp [worldNew, servNew] at hs; rcases hs with rfl | rfl <;> simp
      have hbd := lines_bound (linesOf text) (worldNew bad) [] 0 (new_ok hb) hk0
      have hok := linesFrom_ok hb (linesOf text)
      rw [lo_3 hb (by omega)]
      have h1 : (linesFrom (worldNew bad) (linesOf text)).2.length ≤ 40000 * 601 := by
        have : (linesFrom (worldNew bad) (linesOf text)).2.length ≤ 0 + 40000 * (linesOf text).length := hbd.1
        omega
      have h2 : TookLe 5500 (linesFrom (worldNew bad) (linesOf text)).1 := hbd.2.up (by omega)
      have h3 := servLines_len (linesFrom (worldNew bad) (linesOf text)).1.servs 5500 h2
      have h4 := metLines_len (linesFrom (worldNew bad) (linesOf text)).1.clients
      have h5 := hok.sl
      have h6 := hok.cl
      rw [List.length_append, List.length_append, tookText_eq, metText_eq]
      rw [h5] at h3
      rw [h6] at h4
      omega
  · rw [lo_1 hb]; decide
end Go.Proofs.YtoledfhjmdpihaaGreatDoor
/- What a statement's condition tells of the library's variables; the wrap that hands on both. -/
set_option linter.unusedVariables false
set_option linter.unusedSimpArgs false
namespace Go.Proofs.YtoledfhjmdpihaaGreatDoor
open Go Go.Proofs Go.Proofs.YtoledfhjmdpihaaGreatDoor.VE
section
variable {H : Type} {enc : TypeId × Value → H}
theorem returnsInHanded_both {a : Assume} {C : Checked} {os : Os} {f : FuncId} {fn : Func} {s : ChangeSpec} {conds : List PathCond} {apart fresh handsOn again : Bool} {X : Go.World → Array Value → Prop}
    (hX : ∀ (w w' : Go.World) (args : Array Value), w.heap = w'.heap → X w args → X w' args)
    (own : ownKnob C.prog.godebug = none) (started : os.Started) (noInit : C.prog.inits.idxOf? f = none) (hfn : C.prog.funcs[f]? = some fn)
    (witness : ∃ (w : Go.World) (tape : Tape) (i : Input), w.os = os ∧ (w.forCall tape i).Shaped C.prog ∧ i.vars = [] ∧ Input.okWide C.prog (w.forCall tape i) .any w.heap.size f i ∧
      ((s.pre enc C.prog fn conds apart (w.forCall tape i).memory i.args ∧ X (w.forCall tape i).memory i.args) ∧ sizedMet enc C.prog fn (OpenSpec.ofChange s) apart (w.forCall tape i).memory i.args) ∧ a.holds C.prog (lone (Frame.enter C.prog f i.args .normal) [] (w.forCall tape i)))
    (contract : ∀ (W : Go.World) (base : Nat) (args : Array Value) (ds gs : List (DataW H)) (before : List MemPlace),
      (∀ (j : Nat) t v, fn.params[j]? = some t → args[j]? = some v → Value.okWide C.prog W .any base t v) →
      DataW.Whole enc C.prog fn.params.toList s.vars apart W args.toList ds gs before →
      X W args → W.ShapedOpen C.prog →
      Calls C.prog f args W fun e W' => ∃ v, e = .returned v ∧ s.post enc C.prog fn apart fresh handsOn again W args v W') :
    ReturnsInHanded a C os f .any (fun w args => (s.pre enc C.prog fn conds apart w args ∧ X w args) ∧ sizedMet enc C.prog fn (OpenSpec.ofChange s) apart w args) (s.post enc C.prog fn apart fresh handsOn again) := by
  refine returnsInHanded_of_calls own started noInit witness ?_
  intro w tape i _ hsh _ hok hpre hholds
  obtain ⟨_, _, _, fn', hfn', _, _, _, _, hval⟩ := hok
  have e : fn' = fn := Option.some.inj (hfn'.symm.trans hfn)
  subst e
  obtain ⟨⟨⟨ds, gs, before, hw, hc⟩, hx⟩, hz⟩ := hpre
  have hw' := DataW.Whole.of_heap (w' := w.forCall tape i) (by rfl) hw
  refine (contract (w.forCall tape i) w.heap.size i.args ds gs before hval hw' (hX _ _ _ (by rfl) hx) hsh).mono fun e W' ⟨v, he, hp⟩ => ?_
  subst he
  exact ChangeSpec.post_blind hp
end
theorem globQ_of {Q : Go.World → Prop} {W : Go.World} {g : Nat} (hg : g < W.heap.size) (h : ∀ w : Go.World, w.heap[g]? = W.heap[g]? → Q w) : GlobQ Q (heapL W) := by
  have h1 : W.heap[g]? = some W.heap[g] := Array.getElem?_eq_getElem hg
  exact ⟨(g, W.heap[g]), heapL_mem.2 h1, fun w hw => h w (hw.trans h1.symm)⟩
theorem cell_lt {W : Go.World} {g : Nat} {v : Value} (h : W.cell? ⟨g, 0, none⟩ = some v) : g < W.heap.size := by
  rcases Nat.lt_or_ge g W.heap.size with h1 | h1
  · exact h1
  · have h2 : W.heap[g]? = none := Array.getElem?_eq_none h1
    simp [Go.World.cell?, h2] at h
theorem tab_of_reads {P : Program} {W : Go.World} {name : String} {k : IntKind} {zs : List Int} {g : Nat} {t e : TypeId} {n : Nat}
    (hg : P.globalNamed name = some g) (hty : (P.globals[g]?).map (·.type) = some t) (ht : P.underlying t = some (.array n e)) (he : P.underlying e = some (.int k)) (hce : P.cellsOf e = 1) (hct : P.cellsOf t = n)
    (h : Lib.VarReads P W name (Lib.tabData k zs)) : Lib.TabIs P W name k zs := by
  obtain ⟨g', t', cs, fuel, p, hg', ht', hvar, hd⟩ := h
  obtain rfl := Option.some.inj (hg.symm.trans hg')
  obtain rfl := Option.some.inj (hty.symm.trans ht')
  unfold Lib.TabIs
  rw [hvar, ← Lib.cells_of_tab ht he hce hct hd]
theorem glob_of {W : Go.World} (hr : Lib.VarReads Tryz.prog W "internal/strconv.uint64pow10" (Lib.tabData .u64 Lib.pow10Tab)) (hsh : W.ShapedOpen Tryz.prog) : Glob (heapL W) := by
  obtain ⟨m, hm⟩ : ∃ m, W.cell? ⟨0, 0, none⟩ = some (.int .i64 m) :=
    cell_of_shapedOpen_int (t := 3) (zero := #[.int .i64 0]) hsh (of_decide_eq_true (by kernel_rfl)) (by kernel_rfl) rfl (by kernel_rfl) (by kernel_rfl) (by kernel_rfl)
  have ht := tab_of_reads (g := 3) (t := 220) (e := 170) (n := 20) (by kernel_rfl) (by kernel_rfl) (by kernel_rfl) (by kernel_rfl) (by kernel_rfl) (by kernel_rfl) hr
  have hg : Tryz.prog.globalNamed "internal/strconv.uint64pow10" = some 3 := by kernel_rfl
  refine ⟨⟨m, ?_⟩, ?_⟩
  · refine globQ_of (g := 0) (cell_lt hm) fun w hw => ?_
    unfold Go.World.cell? at hm ⊢
    rw [show (Tryz.lays145_ren.g 1) = 0 from rfl]
    dsimp only at hm ⊢
    rw [hw]; exact hm
  · have hlt : 3 < W.heap.size := cell_lt (v := .int .u64 1) (by
      have h := ht.cell hg 0 (by rw [Lib.pow10Tab_length]; omega)
      rw [Lib.pow10Tab_at 0 (by omega)] at h
      exact h)
    refine globQ_of (g := 3) hlt fun w hw => ?_
    unfold Lib.TabIs Go.World.var? at ht ⊢
    rw [hg] at ht ⊢
    dsimp only [Option.bind_some] at ht ⊢
    rw [hw]; exact ht
end Go.Proofs.YtoledfhjmdpihaaGreatDoor
