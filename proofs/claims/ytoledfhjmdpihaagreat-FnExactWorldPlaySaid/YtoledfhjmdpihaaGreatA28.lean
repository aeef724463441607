/- What happens in whatever world: the program and the reference alike; a new world behind the blocks that were there. -/
import Derived.Test.YtoledfhjmdpihaaGreatA22
import Derived.Test.YtoledfhjmdpihaaGreatA23
import Derived.Test.YtoledfhjmdpihaaGreatA25
import Derived.Test.YtoledfhjmdpihaaGreatA24
import Derived.Test.YtoledfhjmdpihaaGreatA26
import Derived.Test.YtoledfhjmdpihaaGreatA27
set_option linter.unusedVariables false
set_option linter.unusedSectionVars false
set_option linter.unusedSimpArgs false
namespace Go.Proofs.YtoledfhjmdpihaaGreat
open Go Go.Proofs Go.Proofs.YtoledfhjmdpihaaGreat.VE
attribute [local irreducible] Val Op1 WO WR WA WC seqQ blockQ loopQ retQ
noncomputable def o8x3W1 : Array Oper := cops (cl (cr (cr (codeOf Tryz.f8))))
noncomputable def r8x3W1 : Run := (.st 0 1 (.st 2 1 (.st 1 2 (.st 3 3 (.st 4 3 .done)))))
set_option maxHeartbeats 8000000
noncomputable def doF (w : World) (e : Event) : World := if worldOk w then step w e else World.zero
noncomputable def meetF (w : World) (a b : Int) : World := if worldOk w then meet w a b else World.zero
def playOk (bad : Int) (n : Nat) : Bool := within bad 0 3 && decide (n ≤ 70)
noncomputable def playF (bad : Int) (evs : List Event) : World := if playOk bad evs.length then play (worldNew bad) evs else World.zero
theorem WOwn.zero : WOwn World.zero WSl.nil [] := ⟨[], [], [], [], [], [], [], [], [], [], rfl, ⟨Row.nil, rfl, Row.nil, rfl, rfl, Row.nil, rfl, rfl, Row.nil, rfl⟩⟩
theorem WldV.new {L : List Ent} {w : World} {v : Value} {L' : List Ent} (h : WldV L w v L') : WNew L w v L' := by
  obtain ⟨q, ps, ss, ms, ek, ec, ca, es, sa, el, la, rfl, ho, rfl⟩ := h
  exact ⟨q, _, rfl, ⟨ps, ss, ms, ek, ec, ca, es, sa, el, la, rfl, ho⟩, rfl⟩
theorem WLen.took {w : World} (h : WLen w) : TookLe 1048576 w := fun s hs => (h.ss s hs).2
theorem RO.new {f : FuncId} {args : List Value} {L : List Ent} (h : RO Tryz.prog f args L (worldV World.zero WSl.nil)) : Tri Tryz.prog f args L (WNew L World.zero) :=
  Tri.mono h fun v L' ⟨h1, h2⟩ => ⟨WSl.nil, [], h1, WOwn.zero, h2⟩
section
variable {L : List Ent} (w : World) (q : WSl) (hat : WAt L w q) (hl : WLen w)
include hat hl
theorem c_doI (e : Event) (se : Sl) (hm : MsgAt L e.msg se) : Tri Tryz.prog 11 [worldV w q, eventV e se] L (WNew L (doF w e)) := by
  obtain ⟨ps, ss, ms, hat⟩ := hat
  cases hk : worldOk w with
  | true =>
    have he : doF w e = step w e := by simp [doF, hk]
    rw [he]
    exact (c_worldDo rfl q ps ss ms hat (worldOk_iff.1 hk) (hl.took.up (by omega)) se hm).mono fun _ _ h => h.new
  | false =>
    have he : doF w e = World.zero := by simp [doF, hk]
    rw [he]
    refine RO.new ?_
    refine Tri.of Tryz.func11 rfl rfl Tryz.ntmps11 rfl rfl ?_
    (repeat' (first | refine nI ?_ | (refine nA ?_; intro _) | (refine nW ?_; first | (refine op_call_id ?_; refine op_ro rfl rfl (by exact (c_worldOkA w q ps ss ms (hat.mono (by exact kS))).eq (congrArg B hk)) ?_)) | refine nY ?_ | refine nR ?_ | refine WC_cond rfl (fun hc => ?_) (fun hc => ?_)))
    refine ro_ret (by exact kR) (by exact kL) ?_; rfl
theorem c_doS (e : Event) (se : Sl) (hm : MsgAt L e.msg se) : Tri Tryz.prog 8 [worldV w q, eventV e se] L (WNew L (doF w e)) := by
  obtain ⟨ps, ss, ms, hat⟩ := hat
  cases hk : worldOk w with
  | true =>
    have he : doF w e = step w e := by simp [doF, hk]
    rw [he]
    exact (c_sWorldDo rfl q ps ss ms hat (worldOk_iff.1 hk) (hl.took.up (by omega)) se hm).mono fun _ _ h => h.new
  | false =>
    have he : doF w e = World.zero := by simp [doF, hk]
    rw [he]
    refine RO.new ?_
    refine Tri.of Tryz.func8 rfl rfl Tryz.ntmps8 rfl rfl ?_
    (repeat' (first | refine nI ?_ | (refine nA ?_; intro _) | (refine nW ?_; first | (refine op_call_id ?_; refine op_ro rfl rfl (by exact (c_sWorldOkA w q ps ss ms (hat.mono (by exact kS))).eq (congrArg B hk)) ?_)) | refine nY ?_ | refine WA_alt ?_ ?_ | refine nR ?_ | refine WC_drawL (id := 3) (ops := o8x3W1) r8x3W1 (by kernel_rfl) rfl ?_ | refine WC_cond rfl (fun hc => ?_) (fun hc => ?_)))
    refine ro_ret (by exact kR) (by exact kL) ?_; rfl
theorem c_meetI (a b : Int) : Tri Tryz.prog 24 [worldV w q, I a, I b] L (WNew L (meetF w a b)) := by
  obtain ⟨ps, ss, ms, hat⟩ := hat
  cases hk : worldOk w with
  | true =>
    have he : meetF w a b = meet w a b := by simp [meetF, hk]
    rw [he]
    exact (c_worldMeet rfl q ps ss ms hat (worldOk_iff.1 hk) (hl.took.up (by omega))).mono fun _ _ h => h.new
  | false =>
    have he : meetF w a b = World.zero := by simp [meetF, hk]
    rw [he]
    refine RO.new ?_
    refine Tri.of Tryz.func24 rfl rfl Tryz.ntmps24 rfl rfl ?_
    (repeat' (first | refine nI ?_ | (refine nA ?_; intro _) | (refine nW ?_; first | (refine op_call_id ?_; refine op_ro rfl rfl (by exact (c_worldOkA w q ps ss ms (hat.mono (by exact kS))).eq (congrArg B hk)) ?_)) | refine nY ?_ | refine nR ?_ | refine WC_cond rfl (fun hc => ?_) (fun hc => ?_)))
    refine ro_ret (by exact kR) (by exact kL) ?_; rfl
theorem c_meetS (a b : Int) : Tri Tryz.prog 23 [worldV w q, I a, I b] L (WNew L (meetF w a b)) := by
  obtain ⟨ps, ss, ms, hat⟩ := hat
  cases hk : worldOk w with
  | true =>
    have he : meetF w a b = meet w a b := by simp [meetF, hk]
    rw [he]
    exact (c_sWorldMeet w q ps ss ms hat (worldOk_iff.1 hk) (hl.took.up (by omega)) a b rfl).mono fun _ _ h => h.new
  | false =>
    have he : meetF w a b = World.zero := by simp [meetF, hk]
    rw [he]
    refine RO.new ?_
    refine Tri.of Tryz.func23 rfl rfl Tryz.ntmps23 rfl rfl ?_
    (repeat' (first | refine nI ?_ | (refine nA ?_; intro _) | (refine nW ?_; first | (refine op_call_id ?_; refine op_ro rfl rfl (by exact (c_sWorldOkA w q ps ss ms (hat.mono (by exact kS))).eq (congrArg B hk)) ?_)) | refine nY ?_ | refine nR ?_ | refine WC_cond rfl (fun hc => ?_) (fun hc => ?_)))
    refine ro_ret (by exact kR) (by exact kL) ?_; rfl
end
/-- A new world behind the blocks that were there, and whether it is one. -/
def PNew (L : List Ent) (w : World) (ok : Bool) (v : Value) (L' : List Ent) : Prop := ∃ q E, v = .tuple [worldV w q, B ok].toArray ∧ WOwn w q E ∧ L' = E ++ L
section
variable {L : List Ent} (bad : Int) (sev : Sl) (evs : List (Event × Sl)) (hat : SliceAt L encEvent sev evs) (hm : ∀ p ∈ evs, MsgAt L p.1.msg p.2)
include hat hm
theorem c_playI : Tri Tryz.prog 20 [I bad, sev.v] L (PNew L (playF bad (evs.map Prod.fst)) (playOk bad evs.length)) := by
  cases hk : playOk bad evs.length with
  | true =>
    have hk' := hk
    simp only [playOk, Bool.and_eq_true, decide_eq_true_eq] at hk'
    have he : playF bad (evs.map Prod.fst) = play (worldNew bad) (evs.map Prod.fst) := by simp [playF, hk]
    rw [he]
    refine (c_worldPlay1 bad sev evs hat hm hk'.1 hk'.2).mono fun v L' h => ?_
    obtain ⟨q, ps, ss, ms, ek, ec, ca, es, sa, el, la, h1, h2, h3⟩ := h
    exact ⟨q, _, h1, ⟨ps, ss, ms, ek, ec, ca, es, sa, el, la, rfl, h2⟩, h3⟩
  | false =>
    have he : playF bad (evs.map Prod.fst) = World.zero := by simp [playF, hk]
    rw [he]
    refine Tri.mono (c_worldPlay0 bad sev evs hat (by
      simp only [playOk, Bool.and_eq_false_iff, decide_eq_false_iff_not] at hk
      rcases hk with h | h
      · exact .inl h
      · exact .inr (by omega))) fun v L' ⟨h1, h2⟩ => ⟨WSl.nil, [], h1, WOwn.zero, h2⟩
theorem c_playS : Tri Tryz.prog 18 [I bad, sev.v] L (PNew L (playF bad (evs.map Prod.fst)) (playOk bad evs.length)) := by
  cases hk : playOk bad evs.length with
  | true =>
    have hk' := hk
    simp only [playOk, Bool.and_eq_true, decide_eq_true_eq] at hk'
    have he : playF bad (evs.map Prod.fst) = play (worldNew bad) (evs.map Prod.fst) := by simp [playF, hk]
    rw [he]
    refine (c_sWorldPlay1 bad sev evs hat hm hk'.1 hk'.2).mono fun v L' h => ?_
    obtain ⟨q, ps, ss, ms, ek, ec, ca, es, sa, el, la, h1, h2, h3⟩ := h
    exact ⟨q, _, h1, ⟨ps, ss, ms, ek, ec, ca, es, sa, el, la, rfl, h2⟩, h3⟩
  | false =>
    have he : playF bad (evs.map Prod.fst) = World.zero := by simp [playF, hk]
    rw [he]
    refine Tri.mono (c_sWorldPlay0 bad sev evs hat (by
      simp only [playOk, Bool.and_eq_false_iff, decide_eq_false_iff_not] at hk
      rcases hk with h | h
      · exact .inl h
      · exact .inr (by omega))) fun v L' ⟨h1, h2⟩ => ⟨WSl.nil, [], h1, WOwn.zero, h2⟩
end
end Go.Proofs.YtoledfhjmdpihaaGreat
/- Worlds told alike; marks held, however the world's numbers are written. -/
set_option linter.unusedVariables false
set_option linter.unusedSectionVars false
set_option linter.unusedSimpArgs false
namespace Go.Proofs.YtoledfhjmdpihaaGreat
open Go Go.Proofs Go.Proofs.YtoledfhjmdpihaaGreat.VE
attribute [local irreducible] Val Op1 WO WR WA WC seqQ blockQ loopQ retQ
theorem c_eqWorldW {L : List Ent} (w : World) (q1 q2 : WSl) (h1 : WAt L w q1) (h2 : WAt L w q2) : RO Tryz.prog 12 [worldV w q1, worldV w q2] L (B true) := by
  obtain ⟨p1, s1, m1, h1⟩ := h1
  obtain ⟨p2, s2, m2, h2⟩ := h2
  exact c_eqWorld w q1 q2 p1 p2 s1 s2 m1 m2 h1 h2
theorem c_heldWorldV {L : List Ent} (w w' : World) (q : WSl) (k' : Int) (hv : worldV w' q = worldV w q) (h : WAt L w' q) (hh : HWorld 1 w' k') (hb : 1 ≤ k' ∧ k' ≤ 1000000000000000) : RO Tryz.prog 16 [worldV w q, I 1] L (I k') := by
  have := c_heldWorld w' q 1 k' h hh (by omega) (by omega)
  rwa [hv] at this
end Go.Proofs.YtoledfhjmdpihaaGreat
