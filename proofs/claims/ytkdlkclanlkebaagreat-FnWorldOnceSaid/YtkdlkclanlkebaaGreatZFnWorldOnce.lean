/- The law: no call is taken twice, whatever happens. -/
import Derived.Test.YtkdlkclanlkebaaGreatRows
import Derived.WalkKit
import Derived.ProofKit
import Derived.OpenShut
import Derived.ShutString
import Derived.ChangeOld
import Derived.Below
import Derived.Test.YtkdlkclanlkebaaGreatA13
import Derived.Test.YtkdlkclanlkebaaGreatA14
set_option linter.unusedVariables false
set_option linter.unusedSectionVars false
set_option linter.unusedSimpArgs false
namespace Go.Proofs.YtkdlkclanlkebaaGreat
open Go Go.Proofs Go.Proofs.YtkdlkclanlkebaaGreat.VE
attribute [local irreducible] Val Op1 WO WR WA WC seqQ blockQ loopQ retQ
set_option maxHeartbeats 8000000
theorem fresh_call {w : World} (hinv : Inv w) {k : Nat} {v : Serv} (hv : w.servs[k]? = some v) {x : Call} (hx : x ∈ v.took) : x ∉ (w.servs.take k).flatMap Serv.took := fun hm => by
  obtain ⟨v', hv', hx'⟩ := List.mem_flatMap.1 hm
  obtain ⟨j, hj, he⟩ := List.mem_take_iff_getElem.1 hv'
  have hj' : w.servs[j]? = some v' := by rw [← he]; exact List.getElem?_eq_getElem _
  have h1 := (inv_servs hinv (List.mem_of_getElem? hj') (List.mem_of_getElem? hv) hx' hx rfl).2
  have h2 := (hinv.ok.ss j v' hj').2
  have h3 := (hinv.ok.ss k v hv).2
  omega
theorem flat_took {w : World} {n : Nat} (h : TookLe n w) : ∀ (l : List Serv), (∀ s ∈ l, s ∈ w.servs) → (l.flatMap Serv.took).length ≤ n * l.length
  | [], _ => by simp
  | s :: r, hs => by
    have h1 := flat_took h r fun s' hm => hs s' (List.mem_cons_of_mem _ hm)
    have h2 := h s (hs s List.mem_cons_self)
    simp only [List.flatMap_cons, List.length_append, List.length_cons, Nat.mul_succ]; omega
theorem c_FnWorldOnceBig {L : List Ent} (a : Option Addr) (n c : Nat) (hn : 1048576 < n) : RO Tryz.prog 3 [.slice a n c] L (B true) := by
  refine Tri.of Tryz.func3 rfl rfl Tryz.ntmps3 rfl rfl ?_
  (repeat' (first | refine nI ?_ | (refine nA ?_; intro _) | refine nY ?_ | refine nR ?_ | refine WC_cond rfl (fun hc => ?_) (fun hc => ?_)))
  refine ro_ret (by exact kR) (by exact kL) ?_; rfl
theorem c_FnWorldOnce1 {L : List Ent} (a : Option Addr) (n c : Nat) (bs : List Int) (h : BytesIn L a n c bs) (hlen : n ≤ 1048576) : RO Tryz.prog 3 [.slice a n c] L (B true) := by
  have hat := h.at_ hlen
  have hby := h.byte
  have hn := hat.1
  dsimp only at hn
  subst hn
  refine Tri.of Tryz.func3 rfl rfl Tryz.ntmps3 rfl rfl ?_
  (repeat' (first | refine nI ?_ | (refine nA ?_; intro _) | (refine nW ?_; first | (refine op_call_id ?_; refine op_call rfl (c_drawWorldPlay ⟨a, bs.length, c⟩ bs (hat.mono (by exact kS)) hby) rfl ?_; rintro _ _ ⟨bad, ⟨a2, n2, c2⟩, evs, ee, rfl, ⟨hse, hms⟩, rfl⟩)) | refine nY ?_ | refine nR ?_ | refine WC_cond rfl (fun hc => ?_) (fun hc => ?_)))
  by_cases hgo : within bad 0 3 = true ∧ evs.length ≤ 70
  rotate_left
  · (repeat' (first | refine nI ?_ | (refine nA ?_; intro _) | (refine nW ?_; first | (refine op_call_id ?_; refine op_ro rfl rfl (by first | exact c_worldPlay0 bad ⟨a2, n2, c2⟩ evs (hse.mono (by exact kS)) (not_go hgo) | exact c_sWorldPlay0 bad ⟨a2, n2, c2⟩ evs (hse.mono (by exact kS)) (not_go hgo) | exact c_lbWorldT World.zero WSl.nil WSl.nil [] [] [] [] [] [] (zeroAt _) (zeroAt _)) ?_) | refine op_val rfl (by first | exact val_neqB_f rfl rfl rfl | exact val_eqlB_t rfl rfl rfl) ?_) | refine nY ?_ | refine nR ?_ | refine WC_cond rfl (fun hc => ?_) (fun hc => ?_)))
    refine ro_ret (by exact kR) (by exact kL) ?_; rfl
  obtain ⟨hb, h70⟩ := hgo
  have hn2 := hse.1
  dsimp only at hn2
  subst hn2
  obtain ⟨w, hw⟩ : ∃ w, play (worldNew bad) (evs.map Prod.fst) = w := ⟨_, rfl⟩
  have hplayed := played hb hw
  (repeat' (first | refine nI ?_ | (refine nA ?_; intro _) | (refine nW ?_; first | (refine op_call_id ?_; refine op_ro rfl rfl (by exact c_lbWorldT w q1 q2 ps1 ps2 ss1 ss2 ms1 ms2 (hown1.at.mono (by exact kS)) (hown2.at.mono (by exact kS))) ?_) | (refine op_call_id ?_; refine op_call rfl (c_worldPlayW (sev := ⟨a2, evs.length, c2⟩) (evs := evs) hw (hse.mono (by exact kS)) (fun p hp => (hms p hp).mono (by exact kS)) hb h70) rfl ?_; rintro _ _ ⟨q1, ps1, ss1, ms1, ek1, ec1, ca1, es1, sa1, el1, la1, rfl, hown1, rfl⟩) | (refine op_call_id ?_; refine op_call rfl (c_sWorldPlayW (sev := ⟨a2, evs.length, c2⟩) (evs := evs) hw (hse.mono (by exact kS)) (fun p hp => (hms p hp).mono (by exact kS)) hb h70) rfl ?_; rintro _ _ ⟨q2, ps2, ss2, ms2, ek2, ec2, ca2, es2, sa2, el2, la2, rfl, hown2, rfl⟩) | refine op_val rfl (by first | exact val_neqB_f rfl rfl rfl | exact val_eqlB_t rfl rfl rfl) ?_) | refine nY ?_ | refine nR ?_ | refine WC_cond rfl (fun hc => ?_) (fun hc => ?_)))
  rename_i b5 b7 b9
  have hinv := hplayed.inv
  have hok := hinv.ok
  obtain ⟨kc, ⟨ac, nc, cc⟩, ⟨av, nv, cv⟩, ⟨al, nl, cl⟩⟩ := q1
  obtain ⟨hnc, hnv, hnl⟩ := parts_at hown1.at
  subst hnc hnv hnl
  obtain ⟨hkc, hpe, hpr, hpa, hsE, hsr, hsa, hme, hmr, hma⟩ := hown1.at
  obtain ⟨hnP, hc1, hb1, hat1⟩ := hpr
  obtain ⟨hnS, hc2, hb2, hat2⟩ := hsr
  obtain ⟨hnM, hc3, hb3, hat3⟩ := hmr
  dsimp only at hat1 hat2 hat3 hc1 hc2 hc3
  simp only [big] at hb1 hb2 hb3
  clear hnP hnS hnM
  have hpl3 : ps1.length = 3 := by rw [← List.length_map (f := Prod.fst), hpe]; exact hok.cl
  have hsl2 : ss1.length = 2 := by rw [← List.length_map (f := Prod.fst), hsE]; exact hok.sl
  obtain ⟨bP, oP, csP, TP, frP, rfl, hmP, hrP⟩ := hat1 (by omega)
  obtain ⟨bS, oS, csS, TS, frS, rfl, hmS, hrS⟩ := hat2 (by omega)
  have htl := hplayed.took.up h70
  (repeat' (first | refine nI ?_ | (refine nA ?_; intro _) | refine nY ?_ | refine nR ?_ | refine WC_cond rfl (fun hc => ?_) (fun hc => ?_)))
  refine WC_loop (fun mz Ez Mz => ∃ (k : Nat) (xs : List Call) (a3 : Option Addr) (n3 c3 : Nat) (e3 : List Ent), k + mz = (ss1).length ∧ Ez = [(5, .pointer (some ⟨b5, 0, none⟩)), (9, .slice a3 n3 c3), (10, I k)] ∧ Mz = e3 ++ ((b5, cellsO (worldC w ⟨kc, ⟨some ⟨bP, oP, none⟩, ps1.length, cc⟩, ⟨some ⟨bS, oS, none⟩, ss1.length, cv⟩, ⟨al, ms1.length, cl⟩⟩) 33) :: (wldE ek1 ec1 ca1 es1 sa1 el1 la1 ++ L)) ∧ (Row encCall 42 ⟨a3, n3, c3⟩ xs e3 ∧ xs = (w.servs.take k).flatMap Serv.took)) (ss1).length (by exact kQ) (by exact kL) ⟨0, [], some ⟨b9, 0, none⟩, 0, 0, [], by omega, rfl, rfl, by exact ⟨Row.nil, rfl⟩⟩ ?_
  rintro mz Ez Mz ⟨k, xs, a3, n3, c3, e3, hk, rfl, rfl, hin⟩
  rcases Nat.lt_or_ge k (ss1).length with hlt | hge
  · obtain ⟨hr3, hxs⟩ := hin
    obtain ⟨y1, hy1⟩ : ∃ y, ss1[k]? = some y := ⟨_, List.getElem?_eq_getElem hlt⟩; have hrow1 := hrS k y1 hy1
    obtain ⟨v, sc, ⟨at0, nt0, ct0⟩⟩ := y1
    have hvk : w.servs[k]? = some v := by rw [← hsE, List.getElem?_map, hy1]; rfl
    have hv := List.mem_of_getElem? hvk
    have hxl0 := flat_took htl (w.servs.take k) fun s hs => List.mem_of_mem_take hs
    rw [← hxs, List.length_take] at hxl0
    have hmin : 70 * min k w.servs.length ≤ 70 * 2 := Nat.mul_le_mul_left _ (by have := hok.sl; omega)
    have hvl := htl v hv
    obtain ⟨hn0, _, hb0, ha0⟩ := (hsa _ (List.mem_of_getElem? hy1)).t
    dsimp only at hn0 ha0
    subst hn0
    simp only [big] at hb0
    (repeat' (first | refine nI ?_ | (refine nA ?_; intro _) | refine nY ?_ | refine nR ?_ | refine WC_cond rfl (fun hc => ?_) (fun hc => ?_)))
    refine WC_loop (fun mzj Ezj Mzj => ∃ (kj : Nat) (ys : List Call) (a3 : Option Addr) (n3 c3 : Nat) (e3 : List Ent), kj + mzj = (v.took).length ∧ Ezj = [(5, .pointer (some ⟨b5, 0, none⟩)), (9, .slice a3 n3 c3), (10, I k), (11, I kj)] ∧ Mzj = e3 ++ ((b5, cellsO (worldC w ⟨kc, ⟨some ⟨bP, oP, none⟩, ps1.length, cc⟩, ⟨some ⟨bS, oS, none⟩, ss1.length, cv⟩, ⟨al, ms1.length, cl⟩⟩) 33) :: (wldE ek1 ec1 ca1 es1 sa1 el1 la1 ++ L)) ∧ (Row encCall 42 ⟨a3, n3, c3⟩ ys e3 ∧ ys = xs ++ v.took.take kj)) (v.took).length (by exact kQ) (by exact kL) ⟨0, xs, a3, n3, c3, e3, by omega, rfl, rfl, by exact ⟨hr3, by simp⟩⟩ ?_
    rintro mzj Ezj Mzj ⟨kj, ys, a3, n3, c3, e3, hkj, rfl, rfl, hinj⟩
    rcases Nat.lt_or_ge kj (v.took).length with hltj | hgej
    · obtain ⟨hr4, hys⟩ := hinj
      obtain ⟨x, hx⟩ : ∃ x, v.took[kj]? = some x := ⟨_, List.getElem?_eq_getElem hltj⟩
      obtain ⟨bx, ox, cx, Tx, fx, rfl, hmx, hrx⟩ := ha0 (by omega)
      have hrx' := hrx kj x hx
      have hn4 := hr4.n
      dsimp only at hn4
      subst hn4
      have hyl : ys.length ≤ 500 := by rw [hys, List.length_append, List.length_take]; omega
      have hnew : x ∉ ys := by
        rw [hys, hxs]
        intro hm
        rcases List.mem_append.1 hm with hm | hm
        · exact fresh_call hinv hvk (List.mem_of_getElem? hx) hm
        · exact took_new (hinv.vs v hv).once hx hm
      (repeat' (first | refine nI ?_ | (refine nA ?_; intro _) | (refine nW ?_; first | (refine op_call_id ?_; refine op_ro rfl rfl (by exact (c_laws.lbCalled ⟨_, _, _⟩ ys x (hr4.atL (by exact kS))).eq (congrArg B (decide_eq_false hnew))) ?_) | (refine go_append ?_; refine op_appendRow (sl := ⟨_, _, _⟩) (sx := ⟨_, _, _⟩) rfl rfl rfl rfl rfl rfl rfl rfl rfl (hr4) (by exact kE) (SliceAt.one (x := x) (by exact kM) rfl) (by exact kN) ?_; intro sl' es' hrow' hst')) | refine nY ?_ | refine nR ?_ | refine WC_cond rfl (fun hc => ?_) (fun hc => ?_)))
      obtain ⟨a9, n9, c9⟩ := sl'
      exact loopQ_next ⟨mzj - 1, _, _, by omega, by exact kQ, by exact kL, kj + 1, ys ++ [x], a9, n9, c9, es', by omega, rfl, rfl, by exact ⟨hrow', by rw [hys, take_next hx, List.append_assoc]⟩⟩
    obtain ⟨hr4, hys⟩ := hinj
    rw [take_all hgej] at hys
    (repeat' (first | refine nI ?_ | (refine nA ?_; intro _) | refine nY ?_ | refine nR ?_ | refine WC_cond rfl (fun hc => ?_) (fun hc => ?_)))
    exact loopQ_next ⟨mz - 1, _, _, by omega, by exact kQ, by exact kL, k + 1, ys, _, _, _, _, by omega, rfl, rfl, by exact ⟨hr4, by rw [hys, hxs, take_next hvk, List.flatMap_append]; simp⟩⟩
  (repeat' (first | refine nI ?_ | (refine nA ?_; intro _) | refine nY ?_ | refine nR ?_ | refine WC_cond rfl (fun hc => ?_) (fun hc => ?_)))
  refine ro_ret (by exact kR) (by exact kL) ?_; rfl
end Go.Proofs.YtkdlkclanlkebaaGreat
/- The law FnWorldOnce: for all that comes in the call returns true, and what came in reads as before. No condition. (The frame by the kit's program, the walk by ours.) -/
namespace Go.Proofs.YtkdlkclanlkebaaGreat.fnWorldOnce
open Go.ChangeShapes Go.WideShapes Go.ChangeAt Go.RowKit
open Go.ChangeMaps (open_string shut_string)
set_option linter.unusedVariables false

theorem own : ownKnob Tryz.prog.godebug = none := by kernel_rfl
theorem laidOut : laidOutB Tryz.prog = true := by kernel_rfl

def IsRow (k : IntKind) (w : Go.World) (a : Option Addr) (len cap : Nat) (zs : List Int) : Prop :=
  (a = none ∧ len = 0 ∧ cap = 0 ∧ zs = []) ∨
  ∃ x, a = some x ∧ len ≤ cap ∧ cap ≤ maxLen ∧ zs.length = cap ∧ (∀ i, i < zs.length → w.cell? (x.add i) = some (.int k (zs.getD i 0))) ∧ ∀ n ∈ zs, (Lit.int k n).wf = true

theorem walk (a0 : Option Addr) (len0 cap0 : Nat) (z0 : List Int) (w : Go.World) (w0 : IsRow .u8 w a0 len0 cap0 z0) :
    Calls Tryz.prog 3 #[.slice a0 len0 cap0] w fun e w' => e = .returned (.bool true) ∧ Below w.heap.size w w' := by
  exact walk_of (by
    by_cases hb : 1048576 < len0
    · exact c_FnWorldOnceBig a0 len0 cap0 hb
    · exact c_FnWorldOnce1 a0 len0 cap0 (z0.take len0) (bytes_at w0) (by omega))

set_option maxRecDepth 100000 in
theorem lifted (os : Os) (started : os.Started) (H : Type) (enc : TypeId × Value → H) :
    ReturnsInHanded {} Tryz.checked os 3 .any (Rows.fnWorldOnceSpec.pre6 enc Tryz.prog Tryz.f3 Rows.fnWorldOnceRow.domain false) (Rows.fnWorldOnceSpec.post enc Tryz.prog Tryz.f3 false true false false) := by
  refine returnsInHanded_of_change (C := Tryz.checked) own started (by kernel_rfl) Tryz.func3
    (ChangeSpec.witness6 (enc := enc) (C := Tryz.checked) false ⟨#[], #[.slice none 0 0], []⟩ 8 (by kernel_rfl) (by kernel_rfl) (by kernel_rfl) (by kernel_rfl)) ?_
  intro W base args ds gs before hval0 hW hcnd _
  have hval : ∀ (j : Nat) t v, Tryz.f3.params[j]? = some t → args[j]? = some v → Value.okWide Tryz.prog W .any base t v := hval0
  have hW' := hW
  obtain ⟨p, q, hA0, hV, rfl, hfz, hnd⟩ := hW
  have hA : DataW.TrodAll enc Tryz.prog W 0 (fun _ => true) true Tryz.f3.params.toList args.toList ds p := hA0
  rw [Tryz.params3] at hA hval
  obtain ⟨v0, vs0, d0, ds0, p0, q0, hargs, rfl, rfl, h0, r0⟩ := trodAll_cons hA
  obtain ⟨rfl, rfl, rfl⟩ := trodAll_nil r0
  obtain rfl : args = #[v0] := by cases args; simp_all
  obtain ⟨rfl, rfl⟩ := trodVars_none hV
  obtain ⟨a0, len0, cap0, rfl⟩ := okWide_slice Tryz.underlying22 (hval 0 22 v0 rfl rfl)
  have k0 := h0
  have lt0 : ∀ x ∈ p0, x.block < W.heap.size := by obtain ⟨m, hm⟩ := k0; exact DataW.trod_lt m _ _ _ hm
  obtain ⟨z0, w0⟩ : ∃ zs, IsRow .u8 W a0 len0 cap0 zs := by
    obtain ⟨fuel, hf⟩ := h0
    rcases open_ints Tryz.underlying22 Tryz.underlying5 (by kernel_rfl) hf with ⟨hcs, _⟩ | ⟨x, l, c, zs, hcs, _, hl, hm, hz, _, hcell, hwz⟩
    · simp [Value.cells] at hcs
      obtain ⟨rfl, rfl, rfl⟩ := hcs
      exact ⟨[], .inl ⟨rfl, rfl, rfl, rfl⟩⟩
    · simp [Value.cells] at hcs
      obtain ⟨rfl, rfl, rfl⟩ := hcs
      exact ⟨zs, .inr ⟨_, rfl, hl, hm, by simpa using hz, hcell, hwz⟩⟩
  clear hA0 hval0
  refine (walk a0 len0 cap0 z0 W w0).mono fun e W' ⟨he, bel⟩ => ?_
  subst he
  exact ⟨_, rfl, _, _, _, [], _, [], hW', trodAll_mk1 (shut_bool Tryz.underlying4 _), (trodAll_cons_mk (Below.trod laidOut (by kernel_rfl) (of_decide_eq_true (by kernel_rfl)) k0 bel lt0) trodAll_mk0), rfl, bel.frame _, fun h => by cases h⟩

theorem closed : joinedFacts Tryz.prog 3 Tryz.f3 Rows.fnWorldOnceSpec Rows.fnWorldOnceRow = true := by
  unfold joinedFacts
  iterate 31 (refine and_t ?_ ?_)
  · kernel_rfl
  · kernel_rfl
  · kernel_rfl
  · kernel_rfl
  · kernel_rfl
  · kernel_rfl
  · kernel_rfl
  · kernel_rfl
  · kernel_rfl
  · kernel_rfl
  · kernel_rfl
  · kernel_rfl
  · kernel_rfl
  · kernel_rfl
  · kernel_rfl
  · kernel_rfl
  · kernel_rfl
  · kernel_rfl
  · kernel_rfl
  · kernel_rfl
  · kernel_rfl
  · kernel_rfl
  · kernel_rfl
  · kernel_rfl
  · kernel_rfl
  · exact may_enter
  · rw [lifts_final]; kernel_rfl
  · rw [make_is]; kernel_rfl
  · kernel_rfl
  · kernel_rfl
  · kernel_rfl
  · kernel_rfl
theorem over : Rows.fnWorldOnceRow.holds Tryz.pinned (OpenSpec.ofChange Rows.fnWorldOnceSpec) :=
  OpenClaim.holds_of_wide 3 Tryz.f3 rfl rfl rfl rfl rfl rfl rfl ⟨rfl, rfl, rfl, rfl, rfl⟩ rfl rfl rfl rfl rfl (by kernel_rfl) Tryz.func3 closed
    (of_decide_eq_true (by kernel_rfl)) (by unfold Func.isWrapper; first | (rw [if_pos (by decide +kernel)]; kernel_rfl) | (rw [if_neg (by decide +kernel)]; exact ⟨rfl, rfl⟩))
    (fun os started H enc _ => lifted os started H enc)

theorem proved : Rows.FnWorldOnceSaid := over
end Go.Proofs.YtkdlkclanlkebaaGreat.fnWorldOnce
