/- The head of the program: what it was cut at; read once, since all laws of a seat ask it. -/
import Derived.Test.YtkdlkclanlkebaaGreatRows
import Derived.Test.YtkdlkclanlkebaaGreatProg
import Derived.JoinedOf
import Derived.WalkKit
import Derived.ProofKit
import Derived.OpenShut
import Derived.Test.YtkdlkclanlkebaaGreatA11
import Derived.Test.YtkdlkclanlkebaaGreatA12
set_option linter.unusedVariables false
namespace Go.Proofs.YtkdlkclanlkebaaGreat
open Go Go.Proofs
def ordL : List Char := List.map Char.ofNat [104, 97, 114, 110, 101, 115, 115, 32, 50, 54, 51, 54, 49, 56, 54, 101, 51, 98, 101, 55, 52, 52, 48, 98, 102, 52, 52, 101, 49, 102, 100, 55, 97, 100, 54, 55, 55, 54, 99, 57, 51, 48, 51, 48, 102, 52, 98, 51, 98, 102, 101, 51, 100, 53, 57, 53, 57, 52, 50, 56, 50, 51, 48, 52, 99, 53, 53, 51, 99, 51, 100, 98, 32, 99, 117, 116, 32, 97, 116, 32, 108, 111, 111, 112, 46, 101, 120, 97, 109, 112, 108, 101, 47, 99, 101, 114, 98, 101, 114, 117, 115, 47, 108, 97, 119, 115, 46, 70, 110, 87, 111, 114, 108, 100, 79, 110, 99, 101, 32, 108, 111, 111, 112, 46, 101, 120, 97, 109, 112, 108, 101, 47, 99, 101, 114, 98, 101, 114, 117, 115, 47, 108, 97, 119, 115, 46, 70, 110, 87, 111, 114, 108, 100, 77, 117, 116, 117, 97, 108, 32, 108, 111, 111, 112, 46, 101, 120, 97, 109, 112, 108, 101, 47, 99, 101, 114, 98, 101, 114, 117, 115, 47, 108, 97, 119, 115, 46, 70, 110, 87, 111, 114, 108, 100, 65, 117, 116, 104, 101, 110, 116, 105, 99, 32, 108, 111, 111, 112, 46, 101, 120, 97, 109, 112, 108, 101, 47, 99, 101, 114, 98, 101, 114, 117, 115, 47, 108, 97, 119, 115, 46, 70, 110, 87, 111, 114, 108, 100, 80, 97, 114, 116, 115, 32, 108, 111, 111, 112, 46, 101, 120, 97, 109, 112, 108, 101, 47, 99, 101, 114, 98, 101, 114, 117, 115, 47, 108, 97, 119, 115, 46, 70, 110, 87, 111, 114, 108, 100, 67, 117, 116, 32, 108, 111, 111, 112, 46, 101, 120, 97, 109, 112, 108, 101, 47, 99, 101, 114, 98, 101, 114, 117, 115, 47, 108, 97, 119, 115, 46, 70, 110, 87, 111, 114, 108, 100, 68, 101, 108, 97, 121, 32, 108, 111, 111, 112, 46, 101, 120, 97, 109, 112, 108, 101, 47, 99, 101, 114, 98, 101, 114, 117, 115, 47, 108, 97, 119, 115, 46, 70, 110, 87, 111, 114, 108, 100, 70, 97, 108, 108, 32, 108, 111, 111, 112, 46, 101, 120, 97, 109, 112, 108, 101, 47, 99, 101, 114, 98, 101, 114, 117, 115, 47, 108, 97, 119, 115, 46, 70, 110, 87, 111, 114, 108, 100, 82, 101, 112, 108, 97, 121, 32, 108, 111, 111, 112, 46, 101, 120, 97, 109, 112, 108, 101, 47, 99, 101, 114, 98, 101, 114, 117, 115, 47, 108, 97, 119, 115, 46, 70, 110, 87, 111, 114, 108, 100, 77, 101, 101, 116, 32, 108, 111, 111, 112, 46, 101, 120, 97, 109, 112, 108, 101, 47, 99, 101, 114, 98, 101, 114, 117, 115, 47, 108, 97, 119, 115, 46, 70, 110, 87, 111, 114, 108, 100, 77, 101, 101, 116, 79, 116, 104, 101, 114, 115, 32, 108, 111, 111, 112, 46, 101, 120, 97, 109, 112, 108, 101, 47, 99, 101, 114, 98, 101, 114, 117, 115, 47, 108, 97, 119, 115, 46, 70, 110, 87, 111, 114, 108, 100, 77, 101, 101, 116, 84, 119, 105, 99, 101, 32, 108, 111, 111, 112, 46, 101, 120, 97, 109, 112, 108, 101, 47, 99, 101, 114, 98, 101, 114, 117, 115, 47, 108, 97, 119, 115, 46, 70, 110, 87, 111, 114, 108, 100, 65, 117, 116, 104, 115, 32, 108, 111, 111, 112, 46, 101, 120, 97, 109, 112, 108, 101, 47, 99, 101, 114, 98, 101, 114, 117, 115, 47, 108, 97, 119, 115, 46, 70, 110, 87, 111, 114, 108, 100, 66, 97, 99, 107, 115, 32, 108, 111, 111, 112, 46, 101, 120, 97, 109, 112, 108, 101, 47, 99, 101, 114, 98, 101, 114, 117, 115, 47, 108, 97, 119, 115, 46, 70, 110, 87, 111, 114, 108, 100, 84, 105, 99, 107, 101, 116, 115, 32, 108, 111, 111, 112, 46, 101, 120, 97, 109, 112, 108, 101, 47, 99, 101, 114, 98, 101, 114, 117, 115, 47, 108, 97, 119, 115, 46, 70, 110, 87, 111, 114, 108, 100, 75, 101, 121, 115, 32, 108, 111, 111, 112, 46, 101, 120, 97, 109, 112, 108, 101, 47, 99, 101, 114, 98, 101, 114, 117, 115, 47, 108, 97, 119, 115, 46, 70, 110, 87, 111, 114, 108, 100, 83, 101, 99, 114, 101, 116, 32, 108, 111, 111, 112, 46, 101, 120, 97, 109, 112, 108, 101, 47, 99, 101, 114, 98, 101, 114, 117, 115, 47, 108, 97, 119, 115, 46, 70, 110, 87, 111, 114, 108, 100, 72, 111, 110, 101, 115, 116, 32, 108, 111, 111, 112, 46, 101, 120, 97, 109, 112, 108, 101, 47, 99, 101, 114, 98, 101, 114, 117, 115, 47, 108, 97, 119, 115, 46, 70, 110, 87, 111, 114, 108, 100, 65, 108, 119, 97, 121, 115, 32, 108, 111, 111, 112, 46, 101, 120, 97, 109, 112, 108, 101, 47, 99, 101, 114, 98, 101, 114, 117, 115, 47, 108, 97, 119, 115, 46, 70, 110, 87, 111, 114, 108, 100, 66, 114, 105, 110, 103, 32, 108, 111, 111, 112, 46, 101, 120, 97, 109, 112, 108, 101, 47, 99, 101, 114, 98, 101, 114, 117, 115, 47, 108, 97, 119, 115, 46, 70, 110, 87, 111, 114, 108, 100, 68, 111, 32, 108, 111, 111, 112, 46, 101, 120, 97, 109, 112, 108, 101, 47, 99, 101, 114, 98, 101, 114, 117, 115, 47, 108, 97, 119, 115, 46, 70, 110, 87, 111, 114, 108, 100, 73, 100, 108, 101, 32, 108, 111, 111, 112, 46, 101, 120, 97, 109, 112, 108, 101, 47, 99, 101, 114, 98, 101, 114, 117, 115, 47, 108, 97, 119, 115, 46, 70, 110, 87, 111, 114, 108, 100, 79, 116, 104, 101, 114, 115, 32, 108, 111, 111, 112, 46, 101, 120, 97, 109, 112, 108, 101, 47, 99, 101, 114, 98, 101, 114, 117, 115, 47, 108, 97, 119, 115, 46, 70, 110, 87, 111, 114, 108, 100, 84, 105, 99, 107, 32, 108, 111, 111, 112, 46, 101, 120, 97, 109, 112, 108, 101, 47, 99, 101, 114, 98, 101, 114, 117, 115, 47, 108, 97, 119, 115, 46, 70, 110, 87, 111, 114, 108, 100, 66, 97, 100, 79, 119, 110, 32, 108, 111, 111, 112, 46, 101, 120, 97, 109, 112, 108, 101, 47, 99, 101, 114, 98, 101, 114, 117, 115, 47, 108, 97, 119, 115, 46, 70, 110, 87, 111, 114, 108, 100, 77, 101, 101, 116, 83, 97, 102, 101, 32, 108, 111, 111, 112, 46, 101, 120, 97, 109, 112, 108, 101, 47, 99, 101, 114, 98, 101, 114, 117, 115, 47, 108, 97, 119, 115, 46, 70, 110, 87, 111, 114, 108, 100, 70, 111, 114, 103, 101, 32, 108, 111, 111, 112, 46, 101, 120, 97, 109, 112, 108, 101, 47, 99, 101, 114, 98, 101, 114, 117, 115, 47, 108, 97, 119, 115, 46, 70, 110, 87, 111, 114, 108, 100, 66, 97, 100, 79, 116, 104, 101, 114]
theorem ord_eq : Tryz.prog.initOrder = String.ofList ordL := by kernel_rfl
theorem ord_list : Tryz.prog.initOrder.toList = ordL := by rw [ord_eq, String.toList_ofList]
theorem words_head : (behindMainWord (wordsSigns ordL)).head? = some "cut".toList := by kernel_rfl
theorem words_cons : behindMainWord (wordsSigns ordL) = "cut".toList :: (behindMainWord (wordsSigns ordL)).tail := by
  have h := words_head
  cases hb : behindMainWord (wordsSigns ordL) with
  | nil => rw [hb] at h; cases h
  | cons a r => rw [hb] at h; cases h; rfl
theorem lays : Tryz.prog.laysLater = false := by kernel_rfl
theorem bears : Tryz.prog.bearsReflect = false := by kernel_rfl
theorem door : Tryz.prog.doorFits [] = true := by kernel_rfl
theorem strip_cut (R : List (List Char)) : stripLifts liftWords ("cut".toList :: R) = ([], "cut".toList :: R) := by kernel_rfl
theorem head_lifts_of (P : Program) (R : List (List Char)) (h : behindMainWord (wordsSigns P.initOrder.toList) = "cut".toList :: R) : P.headLifts = [] := by
  unfold Program.headLifts; rw [h, strip_cut]; rfl
theorem enter_of (P : Program) (R : List (List Char)) (h : behindMainWord (wordsSigns P.initOrder.toList) = "cut".toList :: R) (h1 : P.laysLater = false) (h2 : P.bearsReflect = false) (h3 : P.doorFits [] = true) : P.mayEnter = true := by
  unfold Program.mayEnter; rw [h]; dsimp only; rw [strip_cut, h1, h2]; dsimp only; rw [h3]; rfl
theorem lifts_of (P : Program) (R : List (List Char)) (h : behindMainWord (wordsSigns P.initOrder.toList) = "cut".toList :: R) : P.liftsFinal = false := by
  unfold Program.liftsFinal; rw [head_lifts_of P R h, h]; rfl
theorem make_of (P : Program) (R : List (List Char)) (h : behindMainWord (wordsSigns P.initOrder.toList) = "cut".toList :: R) : P.make = some Make.cut := by
  unfold Program.make; rw [h]; rfl
theorem order_cut : ∃ R, behindMainWord (wordsSigns Tryz.prog.initOrder.toList) = "cut".toList :: R := ⟨_, by rw [ord_list]; exact words_cons⟩
theorem may_enter : Tryz.prog.mayEnter = true := by obtain ⟨R, h⟩ := order_cut; exact enter_of _ R h lays bears door
theorem lifts_final : Tryz.prog.liftsFinal = false := by obtain ⟨R, h⟩ := order_cut; exact lifts_of _ R h
theorem make_is : Tryz.prog.make = some Make.cut := by obtain ⟨R, h⟩ := order_cut; exact make_of _ R h
theorem and_t {a b : Bool} (h1 : a = true) (h2 : b = true) : (a && b) = true := by rw [h1, h2]; rfl
end Go.Proofs.YtkdlkclanlkebaaGreat
/- What laws of two arguments meet. -/
set_option linter.unusedVariables false
set_option linter.unusedSectionVars false
set_option linter.unusedSimpArgs false
namespace Go.Proofs.YtkdlkclanlkebaaGreat
open Go Go.Proofs Go.Proofs.YtkdlkclanlkebaaGreat.VE
attribute [local irreducible] Val Op1 WO WR WA WC seqQ blockQ loopQ retQ
theorem c_worldPlayU {L : List Ent} {bad : Int} {sev : Sl} {evs : List (Event × Sl)} {w : World} (hw : play (worldNew bad) (evs.map Prod.fst) = w) (hat : SliceAt L encEvent sev evs) (hm : ∀ p ∈ evs, MsgAt L p.1.msg p.2) (hb : within bad 0 3 = true) (h70 : evs.length ≤ 70) :
    Tri Tryz.prog 31 [I bad, sev.v] L (fun v L' => ∃ kc cs sv al cl ps ss ms ek ec ca es sa el la, v = .tuple [worldV w ⟨kc, cs, sv, ⟨al, w.log.length, cl⟩⟩, B true].toArray ∧ WldOwn w ⟨kc, cs, sv, ⟨al, w.log.length, cl⟩⟩ ps ss ms ek ec ca es sa el la ∧ L' = wldE ek ec ca es sa el la ++ L) :=
  (c_worldPlayW hw hat hm hb h70).mono fun v L' ⟨q, ps, ss, ms, ek, ec, ca, es, sa, el, la, h1, ho, h2⟩ => by
    obtain ⟨kc, cs, sv, ⟨al, nl, cl⟩⟩ := q
    have hl := log_len ho.at
    subst hl
    exact ⟨kc, cs, sv, al, cl, ps, ss, ms, ek, ec, ca, es, sa, el, la, h1, ho, h2⟩
end Go.Proofs.YtkdlkclanlkebaaGreat
