/- The law FnLinesRun: lines are done, and who was met is told; impl and spec agree. -/
import Derived.Test.YtoledfhjmdpihaaGreatDoorRows
import Derived.Test.YtoledfhjmdpihaaGreatDoorTie
import Derived.Test.YtoledfhjmdpihaaGreatDoorCards
import Derived.WalkKit
import Derived.ProofKit
import Derived.OpenShut
import Derived.ShutString
import Derived.ChangeOld
import Derived.Below
import Derived.Test.YtoledfhjmdpihaaGreatDoorA27
import Derived.Test.YtoledfhjmdpihaaGreatDoorA14
set_option linter.unusedVariables false
set_option linter.unusedSectionVars false
set_option linter.unusedSimpArgs false
namespace Go.Proofs.YtoledfhjmdpihaaGreatDoor
open Go Go.Proofs Go.Proofs.YtoledfhjmdpihaaGreatDoor.VE
attribute [local irreducible] Val Op1 WO WR WA WC seqQ blockQ loopQ retQ
set_option maxHeartbeats 8000000
theorem c_FnLinesRunBig {L : List Ent} (a : Option Addr) (n c : Nat) (hn : 1048576 < n) : RO Tryz.prog 5 [.slice a n c] L (B true) := by
  refine Tri.of Tryz.func5 rfl rfl Tryz.ntmps5 rfl rfl ?_
  (repeat' (first | refine nI ?_ | (refine nA ?_; intro _) | refine nY ?_ | refine nR ?_ | refine WC_cond rfl (fun hc => ?_) (fun hc => ?_)))
  refine ro_ret (by exact kR) (by exact kL) ?_; rfl
theorem c_FnLinesRun1 {L : List Ent} (a : Option Addr) (n c : Nat) (bs : List Int) (h : BytesIn L a n c bs) (hlen : n ≤ 1048576) (hG : Glob L) : RO Tryz.prog 5 [.slice a n c] L (B true) := by
  have hat := h.at_ hlen
  have hby := h.byte
  have hn := hat.1
  dsimp only at hn
  subst hn
  refine Tri.of Tryz.func5 rfl rfl Tryz.ntmps5 rfl rfl ?_
  (repeat' (first | refine nI ?_ | (refine nA ?_; intro _) | (refine nW ?_; first | (refine op_call_id ?_; refine op_call rfl (c_drawLinesRun ⟨a, bs.length, c⟩ bs (hat.mono (by exact kS)) hby) rfl ?_; rintro _ _ ⟨bad, text, rfl, hbd, hwh, htl, e9, rfl⟩)) | refine nY ?_ | refine WC_regionN [4] rfl ?_ | refine WC_block ?_ | refine WC_cond rfl (fun hc => ?_) (fun hc => ?_)))
  obtain ⟨s, hs⟩ : ∃ s, linesRun bad text = s := ⟨_, rfl⟩
  have hsl : s.length ≤ 30000000 := hs ▸ linesRun_len bad text
  (repeat' (first | refine nI ?_ | (refine nA ?_; intro _) | (refine nW ?_; first | (refine op_call_id ?_; refine op_ro rfl rfl (by first | exact c_linesRunT hs (by with_reducible rfl) (hG.mono (by exact kS)) | exact c_sLinesRunE hs) ?_) | refine op_val rfl (by exact kStr) ?_) | refine nY ?_ | refine nR ?_ | refine WC_cond rfl (fun hc => ?_) (fun hc => ?_)))
  refine WC_loop (fun mz Ez Mz => ∃ (k : Nat) (m : Nat), k + mz = (s).length ∧ Ez = [(3, I bad), (4, St text), (5, St s), (6, I (m : Int)), (7, I k)] ∧ Mz = L ∧ (m = (s.take k).count 10 ∧ m ≤ k)) (s).length (by exact kQ) (by exact kL) ⟨0, 0, by omega, rfl, rfl, by exact ⟨by simp, Nat.le_refl _⟩⟩ ?_
  rintro mz Ez Mz ⟨k, m, hk, rfl, rfl, hin⟩
  rcases Nat.lt_or_ge k (s).length with hlt | hge
  · obtain ⟨hm, hmk⟩ := hin
    obtain ⟨y, hy⟩ : ∃ y, s[k]? = some y := ⟨s[k], by simp [hlt]⟩
    have htk2 := take_next hy
    have hg2 : s[((k : Int)).toNat]? = some y := by simpa using hy
    by_cases hc : y = 10
    · have hn : (y.toNat : Int) = 10 := by rw [hc]; rfl
      (repeat' (first | refine nI ?_ | (refine nA ?_; intro _) | (refine nW ?_; first | refine op_val rfl (by first | exact val_indexS rfl rfl rfl (by omega) hg2 | exact kStr) ?_) | refine nY ?_ | refine nR ?_ | refine WC_cond rfl (fun hc => ?_) (fun hc => ?_)))
      exact loopQ_next ⟨mz - 1, _, _, by omega, by exact kQ, by exact kL, k + 1, m + 1, by omega, rfl, rfl, by exact ⟨by rw [htk2, List.count_append, ← hm, hc]; rfl, by omega⟩⟩
    · have hn : (y.toNat : Int) ≠ 10 := fun e => hc (UInt8.toNat_inj.1 (by have : y.toNat = 10 := by omega
                                                                           rw [this]; rfl))
      (repeat' (first | refine nI ?_ | (refine nA ?_; intro _) | (refine nW ?_; first | refine op_val rfl (by first | exact val_indexS rfl rfl rfl (by omega) hg2 | exact kStr) ?_) | refine nY ?_ | refine nR ?_ | refine WC_cond rfl (fun hc => ?_) (fun hc => ?_)))
      exact loopQ_next ⟨mz - 1, _, _, by omega, by exact kQ, by exact kL, k + 1, m, by omega, rfl, rfl, by exact ⟨by rw [htk2, List.count_append, ← hm, List.count_singleton]; simp [hc], by omega⟩⟩
  obtain ⟨hm, hmk⟩ := hin
  rw [take_all hge] at hm
  by_cases hb : (0 ≤ bad ∧ bad ≤ 3) ∧ text.length ≤ 600
  rotate_left
  · have hc1 : m = 1 := by rw [hm, ← hs]; exact ll_2 (by omega)
    have hm1 : (m : Int) = 1 := by omega
    by_cases hb0 : 3 < bad
    · (repeat' (first | refine nI ?_ | (refine nA ?_; intro _) | (refine nW ?_; first | refine op_val rfl (by exact kStr) ?_) | refine nY ?_ | refine nR ?_ | refine WC_cond rfl (fun hc => ?_) (fun hc => ?_)))
      refine ro_ret (by exact kR) (by exact kL) ?_; rfl
    · have h600 : 600 < text.length := by omega
      (repeat' (first | refine nI ?_ | (refine nA ?_; intro _) | (refine nW ?_; first | refine op_val rfl (by exact kStr) ?_) | refine nY ?_ | refine nR ?_ | refine WC_cond rfl (fun hc => ?_) (fun hc => ?_)))
      refine ro_ret (by exact kR) (by exact kL) ?_; rfl
  · obtain ⟨hb1, hb2⟩ := hb
    have h3 := ll_1 hb1 hb2
    rw [hs, ← hm] at h3
    have hlast : s[((s.length : Int) - 1).toNat]? = some 10 := by
      have e : ((s.length : Int) - 1).toNat = s.length - 1 := by omega
      rw [e, ← List.getLast?_eq_getElem?]; exact h3.2
    have hpos : 0 < s.length := by
      cases s with
      | nil => simp at hlast
      | cons => simp
    (repeat' (first | refine nI ?_ | (refine nA ?_; intro _) | (refine nW ?_; first | refine op_val rfl (by first | exact val_indexS rfl rfl rfl (by omega) hlast | exact kStr) ?_) | refine nY ?_ | refine nR ?_ | refine WC_cond rfl (fun hc => ?_) (fun hc => ?_)))
    refine ro_ret (by exact kR) (by exact kL) ?_; rfl
end Go.Proofs.YtoledfhjmdpihaaGreatDoor
/- The law FnLinesRun: for all that comes in the call returns true, and what came in reads as before; the library's tables hold what the program's text lays. No further condition. -/
set_option linter.unusedVariables false
set_option linter.unusedSimpArgs false
namespace Go.Proofs.YtoledfhjmdpihaaGreatDoor.fnLinesRun
open Go Go.Proofs Go.Proofs.YtoledfhjmdpihaaGreatDoor Go.Proofs.YtoledfhjmdpihaaGreatDoor.VE
open Go.ChangeShapes Go.WideShapes Go.ChangeAt Go.RowKit
open Go.ChangeMaps (open_string shut_string)
abbrev IsRow (k : IntKind) (w : Go.World) (a : Option Addr) (len cap : Nat) (zs : List Int) : Prop := (a = none ∧ len = 0 ∧ cap = 0 ∧ zs = []) ∨
    ∃ x, a = some x ∧ len ≤ cap ∧ cap ≤ maxLen ∧ zs.length = cap ∧ (∀ i, i < zs.length → w.cell? (x.add i) = some (.int k (zs.getD i 0))) ∧ ∀ n ∈ zs, (Lit.int k n).wf = true
theorem own : ownKnob Tryz.prog.godebug = none := by kernel_rfl
theorem laidOut : laidOutB Tryz.prog = true := by kernel_rfl
theorem walk (a0 : Option Addr) (len0 cap0 : Nat) (z0 : List Int) (w : Go.World) (w0 : IsRow .u8 w a0 len0 cap0 z0) (hG : Glob (heapL w)) :
    Calls Tryz.prog 5 #[.slice a0 len0 cap0] w fun e w' => e = .returned (.bool true) ∧ Below w.heap.size w w' := by
  exact walk_of (by
    by_cases hb : 1048576 < len0
    · exact c_FnLinesRunBig a0 len0 cap0 hb
    · exact c_FnLinesRun1 a0 len0 cap0 (z0.take len0) (bytes_at w0) (by omega) hG)
set_option maxRecDepth 100000 in
theorem lifted (os : Os) (started : os.Started) (H : Type) (enc : TypeId × Value → H) :
    ReturnsInHanded {} Tryz.checked os 5 .any (fun w args => (Rows.fnLinesRunSpec.pre enc Tryz.prog Tryz.f5 [] false w args ∧ laidMetH Tryz.prog Rows.fnLinesRunRow.laid w) ∧ sizedMet enc Tryz.prog Tryz.f5 (OpenSpec.ofChange Rows.fnLinesRunSpec) false w args) (Rows.fnLinesRunSpec.post enc Tryz.prog Tryz.f5 false true false false) := by
  refine returnsInHanded_both (C := Tryz.checked) (X := fun w _ => laidMetH Tryz.prog Rows.fnLinesRunRow.laid w) (fun _ _ _ hh h => h.of_heap hh) own started (by kernel_rfl) Tryz.func5
    (ChangeSpec.witness_shaped (enc := enc) (C := Tryz.checked) (os := os) (X := fun w _ => laidMetH Tryz.prog Rows.fnLinesRunRow.laid w) false (Go.World.laidAll Tryz.prog os Rows.fnLinesRunRow.laid) #[.slice none 0 0] 8 (Go.World.laidAll_os _ _ _)
      (Go.World.shaped_of_ZipB (by kernel_rfl) (by kernel_rfl)) (by kernel_rfl) (by kernel_rfl) (by kernel_rfl)
      (by rw [MakeChecks.laidMetH_plain _ _ _ (by kernel_rfl)]; exact laidMet_laidAll _ (by kernel_rfl) (by kernel_rfl))) ?_
  intro W base args ds gs before hval0 hW hL hsh
  have hval : ∀ (j : Nat) t v, Tryz.f5.params[j]? = some t → args[j]? = some v → Value.okWide Tryz.prog W .any base t v := hval0
  have hW' := hW
  obtain ⟨p, q, hA0, hV, rfl, hfz, hnd⟩ := hW
  have hA : DataW.TrodAll enc Tryz.prog W 0 (fun _ => true) true Tryz.f5.params.toList args.toList ds p := hA0
  rw [Tryz.params5] at hA hval
  obtain ⟨v0, vs0, d0, ds0, p0, q0, hargs, rfl, rfl, h0, r0⟩ := trodAll_cons hA
  obtain ⟨rfl, rfl, rfl⟩ := trodAll_nil r0
  obtain rfl : args = #[v0] := by cases args; simp_all
  obtain ⟨rfl, rfl⟩ := trodVars_none hV
  obtain ⟨a0, len0, cap0, rfl⟩ := okWide_slice Tryz.underlying30 (hval 0 30 v0 rfl rfl)
  have k0 := h0
  have lt0 : ∀ x ∈ p0, x.block < W.heap.size := by obtain ⟨m, hm⟩ := k0; exact DataW.trod_lt m _ _ _ hm
  obtain ⟨z0, w0⟩ : ∃ zs, IsRow .u8 W a0 len0 cap0 zs := by
    obtain ⟨fuel, hf⟩ := h0
    rcases open_ints Tryz.underlying30 Tryz.underlying5 (by kernel_rfl) hf with ⟨hcs, _⟩ | ⟨x, l, c, zs, hcs, _, hl, hm, hz, _, hcell, hwz⟩
    · simp [Value.cells] at hcs
      obtain ⟨rfl, rfl, rfl⟩ := hcs
      exact ⟨[], .inl ⟨rfl, rfl, rfl, rfl⟩⟩
    · simp [Value.cells] at hcs
      obtain ⟨rfl, rfl, rfl⟩ := hcs
      exact ⟨zs, .inr ⟨_, rfl, hl, hm, by simpa using hz, hcell, hwz⟩⟩
  clear hA0 hval0
  rw [MakeChecks.laidMetH_plain _ _ _ (by kernel_rfl)] at hL
  have hG0 : Glob (heapL W) := glob_of (Lib.laidMet.reads hL (.tail _ (.tail _ (.head _)))) hsh
  have hG := hG0
  refine (walk a0 len0 cap0 z0 W w0 hG).mono fun e W' ⟨he, bel⟩ => ?_
  subst he
  exact ⟨_, rfl, _, _, _, [], _, [], hW', trodAll_mk1 (shut_bool Tryz.underlying4 _), (trodAll_cons_mk (Below.trod laidOut (by kernel_rfl) (of_decide_eq_true (by kernel_rfl)) k0 bel lt0) trodAll_mk0), rfl, bel.frame _, fun h => by cases h⟩
theorem closed : joinedFacts Tryz.prog 5 Tryz.f5 Rows.fnLinesRunSpec Rows.fnLinesRunRow = true := by
  unfold joinedFacts
  iterate 31 (refine and_t ?_ ?_)
  · kernel_rfl
  · kernel_rfl
  · kernel_rfl
  · kernel_rfl
  · kernel_rfl
  · kernel_rfl
  · kernel_rfl
  · kernel_rfl
  · kernel_rfl
  · kernel_rfl
  · kernel_rfl
  · kernel_rfl
  · kernel_rfl
  · kernel_rfl
  · kernel_rfl
  · kernel_rfl
  · kernel_rfl
  · kernel_rfl
  · kernel_rfl
  · kernel_rfl
  · kernel_rfl
  · kernel_rfl
  · kernel_rfl
  · kernel_rfl
  · kernel_rfl
  · exact may_enter
  · rw [lifts_final]; kernel_rfl
  · rw [make_is]; kernel_rfl
  · kernel_rfl
  · kernel_rfl
  · kernel_rfl
  · kernel_rfl
theorem main_is : Tryz.prog.mainIs = some (true, "7eaea9fdd19cfb36c738031c368d2bb7695b680a82e7bf0edc09a40e12f55fd3".toList) := by unfold Program.mainIs; rw [ord_list]; kernel_rfl
theorem over : Rows.fnLinesRunRow.holds Tryz.pinned (OpenSpec.ofChange Rows.fnLinesRunSpec) :=
  OpenClaim.holds_of_wide 5 Tryz.f5 rfl rfl rfl rfl rfl rfl rfl ⟨rfl, rfl, rfl, rfl, rfl⟩ rfl rfl rfl rfl rfl (by kernel_rfl) Tryz.func5 closed
    (of_decide_eq_true (by kernel_rfl)) (by unfold Func.isWrapper; first | (rw [if_pos (by decide +kernel)]; kernel_rfl) | (rw [if_neg (by decide +kernel)]; exact ⟨rfl, rfl⟩))
    (fun os started H enc _ => lifted os started H enc)
theorem proved : Rows.FnLinesRunCardSaid :=
  Claim7.holds_tied_plain_at .later [] [.data, .data, .data, .data, .pinned] true (true, "7eaea9fdd19cfb36c738031c368d2bb7695b680a82e7bf0edc09a40e12f55fd3") true over (fun _ h => by cases h) (by kernel_rfl) (fun _ h => by cases h) fnLinesRun_row_tie rfl ⟨rfl, rfl⟩ main_is rfl
    (fun f fn hf hfn => by
      obtain rfl : f = 5 := Option.some.inj ((show Tryz.prog.funcNamed "loop.example/cerberus/laws.FnLinesRun" = some 5 by kernel_rfl).symm.trans hf) |>.symm
      obtain rfl : fn = Tryz.f5 := (Option.some.inj (Tryz.func5.symm.trans hfn)).symm
      exact ⟨by kernel_rfl, fun j t ht => by
        rw [Tryz.params5] at ht
        have hm : t ∈ [30] := by simpa using Array.mem_of_getElem? ht
        have hall : ([30].all fun u => !Tryz.prog.wantsStandIn u) = true := by kernel_rfl
        exact (show Tryz.prog.wantsStandIn t = false by simpa using List.all_eq_true.1 hall t hm)⟩)
    (by kernel_rfl)
end Go.Proofs.YtoledfhjmdpihaaGreatDoor.fnLinesRun
