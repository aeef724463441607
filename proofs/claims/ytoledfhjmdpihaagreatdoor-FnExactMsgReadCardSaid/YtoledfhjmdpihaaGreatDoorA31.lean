/- What a statement's condition tells of the library's variables; the wrap that hands on both. -/
import Derived.Test.YtoledfhjmdpihaaGreatDoorRows
import Derived.Handed
import Derived.HandedShaped
import Derived.Lay
import Derived.LaidOnce
import Derived.SevenTiedAt
import Derived.Lib.LaidTab
import Derived.Lib.LaidU8
import Derived.Shelf.Vars
import Derived.Test.YtoledfhjmdpihaaGreatDoorA10
import Derived.Test.YtoledfhjmdpihaaGreatDoorA23
import Derived.Test.YtoledfhjmdpihaaGreatDoorA28
set_option linter.unusedVariables false
set_option linter.unusedSimpArgs false
namespace Go.Proofs.YtoledfhjmdpihaaGreatDoor
open Go Go.Proofs Go.Proofs.YtoledfhjmdpihaaGreatDoor.VE
section
variable {H : Type} {enc : TypeId × Value → H}
theorem returnsInHanded_both {a : Assume} {C : Checked} {os : Os} {f : FuncId} {fn : Func} {s : ChangeSpec} {conds : List PathCond} {apart fresh handsOn again : Bool} {X : Go.World → Array Value → Prop}
    (hX : ∀ (w w' : Go.World) (args : Array Value), w.heap = w'.heap → X w args → X w' args)
    (own : ownKnob C.prog.godebug = none) (started : os.Started) (noInit : C.prog.inits.idxOf? f = none) (hfn : C.prog.funcs[f]? = some fn)
    (witness : ∃ (w : Go.World) (tape : Tape) (i : Input), w.os = os ∧ (w.forCall tape i).Shaped C.prog ∧ i.vars = [] ∧ Input.okWide C.prog (w.forCall tape i) .any w.heap.size f i ∧
      ((s.pre enc C.prog fn conds apart (w.forCall tape i).memory i.args ∧ X (w.forCall tape i).memory i.args) ∧ sizedMet enc C.prog fn (OpenSpec.ofChange s) apart (w.forCall tape i).memory i.args) ∧ a.holds C.prog (lone (Frame.enter C.prog f i.args .normal) [] (w.forCall tape i)))
    (contract : ∀ (W : Go.World) (base : Nat) (args : Array Value) (ds gs : List (DataW H)) (before : List MemPlace),
      (∀ (j : Nat) t v, fn.params[j]? = some t → args[j]? = some v → Value.okWide C.prog W .any base t v) →
      DataW.Whole enc C.prog fn.params.toList s.vars apart W args.toList ds gs before →
      X W args → W.ShapedOpen C.prog →
      Calls C.prog f args W fun e W' => ∃ v, e = .returned v ∧ s.post enc C.prog fn apart fresh handsOn again W args v W') :
    ReturnsInHanded a C os f .any (fun w args => (s.pre enc C.prog fn conds apart w args ∧ X w args) ∧ sizedMet enc C.prog fn (OpenSpec.ofChange s) apart w args) (s.post enc C.prog fn apart fresh handsOn again) := by
  refine returnsInHanded_of_calls own started noInit witness ?_
  intro w tape i _ hsh _ hok hpre hholds
  obtain ⟨_, _, _, fn', hfn', _, _, _, _, hval⟩ := hok
  have e : fn' = fn := Option.some.inj (hfn'.symm.trans hfn)
  subst e
  obtain ⟨⟨⟨ds, gs, before, hw, hc⟩, hx⟩, hz⟩ := hpre
  have hw' := DataW.Whole.of_heap (w' := w.forCall tape i) (by rfl) hw
  refine (contract (w.forCall tape i) w.heap.size i.args ds gs before hval hw' (hX _ _ _ (by rfl) hx) hsh).mono fun e W' ⟨v, he, hp⟩ => ?_
  subst he
  exact ChangeSpec.post_blind hp
end
theorem globQ_of {Q : Go.World → Prop} {W : Go.World} {g : Nat} (hg : g < W.heap.size) (h : ∀ w : Go.World, w.heap[g]? = W.heap[g]? → Q w) : GlobQ Q (heapL W) := by
  have h1 : W.heap[g]? = some W.heap[g] := Array.getElem?_eq_getElem hg
  exact ⟨(g, W.heap[g]), heapL_mem.2 h1, fun w hw => h w (hw.trans h1.symm)⟩
theorem cell_lt {W : Go.World} {g : Nat} {v : Value} (h : W.cell? ⟨g, 0, none⟩ = some v) : g < W.heap.size := by
  rcases Nat.lt_or_ge g W.heap.size with h1 | h1
  · exact h1
  · have h2 : W.heap[g]? = none := Array.getElem?_eq_none h1
    simp [Go.World.cell?, h2] at h
theorem tab_of_reads {P : Program} {W : Go.World} {name : String} {k : IntKind} {zs : List Int} {g : Nat} {t e : TypeId} {n : Nat}
    (hg : P.globalNamed name = some g) (hty : (P.globals[g]?).map (·.type) = some t) (ht : P.underlying t = some (.array n e)) (he : P.underlying e = some (.int k)) (hce : P.cellsOf e = 1) (hct : P.cellsOf t = n)
    (h : Lib.VarReads P W name (Lib.tabData k zs)) : Lib.TabIs P W name k zs := by
  obtain ⟨g', t', cs, fuel, p, hg', ht', hvar, hd⟩ := h
  obtain rfl := Option.some.inj (hg.symm.trans hg')
  obtain rfl := Option.some.inj (hty.symm.trans ht')
  unfold Lib.TabIs
  rw [hvar, ← Lib.cells_of_tab ht he hce hct hd]
theorem glob_of {W : Go.World} (hr : Lib.VarReads Tryz.prog W "internal/strconv.uint64pow10" (Lib.tabData .u64 Lib.pow10Tab)) (hsh : W.ShapedOpen Tryz.prog) : Glob (heapL W) := by
  obtain ⟨m, hm⟩ : ∃ m, W.cell? ⟨0, 0, none⟩ = some (.int .i64 m) :=
    cell_of_shapedOpen_int (t := 3) (zero := #[.int .i64 0]) hsh (of_decide_eq_true (by kernel_rfl)) (by kernel_rfl) rfl (by kernel_rfl) (by kernel_rfl) (by kernel_rfl)
  have ht := tab_of_reads (g := 3) (t := 220) (e := 170) (n := 20) (by kernel_rfl) (by kernel_rfl) (by kernel_rfl) (by kernel_rfl) (by kernel_rfl) (by kernel_rfl) hr
  have hg : Tryz.prog.globalNamed "internal/strconv.uint64pow10" = some 3 := by kernel_rfl
  refine ⟨⟨m, ?_⟩, ?_⟩
  · refine globQ_of (g := 0) (cell_lt hm) fun w hw => ?_
    unfold Go.World.cell? at hm ⊢
    rw [show (Tryz.lays145_ren.g 1) = 0 from rfl]
    dsimp only at hm ⊢
    rw [hw]; exact hm
  · have hlt : 3 < W.heap.size := cell_lt (v := .int .u64 1) (by
      have h := ht.cell hg 0 (by rw [Lib.pow10Tab_length]; omega)
      rw [Lib.pow10Tab_at 0 (by omega)] at h
      exact h)
    refine globQ_of (g := 3) hlt fun w hw => ?_
    unfold Lib.TabIs Go.World.var? at ht ⊢
    rw [hg] at ht ⊢
    dsimp only [Option.bind_some] at ht ⊢
    rw [hw]; exact ht
end Go.Proofs.YtoledfhjmdpihaaGreatDoor
/- What a statement's condition tells of the library's errors. -/
set_option linter.unusedVariables false
set_option linter.unusedSimpArgs false
namespace Go.Proofs.YtoledfhjmdpihaaGreatDoor
open Go Go.Proofs Go.Proofs.YtoledfhjmdpihaaGreatDoor.VE
theorem iface_of_reads {P : Program} {W : Go.World} {name nm : String} {d : DataW Unit} {g : Nat} {t : TypeId} {ms : Array (String × TypeId)}
    (hg : P.globalNamed name = some g) (hty : (P.globals[g]?).map (·.type) = some t) (ht : P.underlying t = some (.interface ms))
    (h : Lib.VarReads P W name (.iface nm d)) : ∃ tp p, W.var? P name = some #[.iface tp p] := by
  obtain ⟨g', t', cs, fuel, p, hg', ht', hvar, hd⟩ := h
  obtain rfl := Option.some.inj (hg.symm.trans hg')
  obtain rfl := Option.some.inj (hty.symm.trans ht')
  have key : ∃ u v, cs.toList = [.iface u v] := by
    cases fuel with
    | zero => simp [DataW.trod] at hd
    | succ fuel =>
      unfold DataW.trod at hd
      rw [ht] at hd
      split at hd
      all_goals first | (exact ⟨_, _, by assumption⟩) | (rename_i e _; cases e; done) | (rename_i e; cases e; done) | (simp at hd; done) | (cases hd; done)
  obtain ⟨u, v, hc⟩ := key
  refine ⟨u, v, ?_⟩
  rw [hvar]
  congr 1
  apply Array.toList_inj.1
  exact hc
theorem globQ_var {W : Go.World} {name : String} {g : Nat} {cs : Array Value} (hg : Tryz.prog.globalNamed name = some g) (h : W.var? Tryz.prog name = some cs) : GlobQ (fun w => w.var? Tryz.prog name = some cs) (heapL W) := by
  have hlt : g < W.heap.size := by
    rcases Nat.lt_or_ge g W.heap.size with h1 | h1
    · exact h1
    · have h2 : W.heap[g]? = none := Array.getElem?_eq_none h1
      unfold Go.World.var? at h
      rw [hg, Option.bind_some, h2] at h
      cases h
  refine globQ_of (g := g) hlt fun w hw => ?_
  unfold Go.World.var? at h ⊢
  rw [hg] at h ⊢
  dsimp only [Option.bind_some] at h ⊢
  rw [hw]; exact h
theorem globM_of {W : Go.World} {n1 n2 : String} {d1 d2 : DataW Unit} (hG : Glob (heapL W)) (h1 : Lib.VarReads Tryz.prog W "strconv.ErrSyntax" (.iface n1 d1)) (h2 : Lib.VarReads Tryz.prog W "strconv.ErrRange" (.iface n2 d2)) : GlobM (heapL W) := by
  have g1 : Tryz.prog.globalNamed "strconv.ErrSyntax" = some 1 := by kernel_rfl
  have g2 : Tryz.prog.globalNamed "strconv.ErrRange" = some 2 := by kernel_rfl
  obtain ⟨t1, p1, v1⟩ := iface_of_reads (g := 1) (t := 71) g1 (by kernel_rfl) Tryz.underlying71 h1
  obtain ⟨t2, p2, v2⟩ := iface_of_reads (g := 2) (t := 71) g2 (by kernel_rfl) Tryz.underlying71 h2
  exact ⟨hG, ⟨t1, p1, globQ_var g1 v1⟩, ⟨t2, p2, globQ_var g2 v2⟩⟩
end Go.Proofs.YtoledfhjmdpihaaGreatDoor
