/- The head of the program: what it was cut at; read once, since all laws of a seat ask it. -/
import Derived.Test.YtoledfhjmdpihaaGreatRows
import Derived.Test.YtoledfhjmdpihaaGreatProg
import Derived.JoinedOf
import Derived.WalkKit
import Derived.ProofKit
import Derived.OpenShut
set_option linter.unusedVariables false
namespace Go.Proofs.YtoledfhjmdpihaaGreat
open Go Go.Proofs
def ordL : List Char := List.map Char.ofNat [104, 97, 114, 110, 101, 115, 115, 32, 50, 97, 99, 55, 48, 48, 97, 101, 57, 52, 49, 100, 50, 49, 49, 57, 102, 49, 52, 57, 56, 53, 100, 98, 51, 54, 49, 98, 56, 51, 100, 53, 49, 97, 50, 100, 53, 48, 102, 52, 56, 55, 100, 52, 98, 48, 101, 100, 54, 55, 53, 51, 48, 99, 49, 56, 54, 50, 50, 102, 100, 54, 98, 49, 32, 99, 117, 116, 32, 97, 116, 32, 108, 111, 111, 112, 46, 101, 120, 97, 109, 112, 108, 101, 47, 99, 101, 114, 98, 101, 114, 117, 115, 47, 108, 97, 119, 115, 46, 70, 110, 69, 120, 97, 99, 116, 87, 111, 114, 108, 100, 68, 111, 32, 108, 111, 111, 112, 46, 101, 120, 97, 109, 112, 108, 101, 47, 99, 101, 114, 98, 101, 114, 117, 115, 47, 108, 97, 119, 115, 46, 70, 110, 69, 120, 97, 99, 116, 87, 111, 114, 108, 100, 80, 108, 97, 121, 32, 108, 111, 111, 112, 46, 101, 120, 97, 109, 112, 108, 101, 47, 99, 101, 114, 98, 101, 114, 117, 115, 47, 108, 97, 119, 115, 46, 70, 110, 69, 120, 97, 99, 116, 87, 111, 114, 108, 100, 77, 101, 101, 116]
theorem ord_eq : Tryz.prog.initOrder = String.ofList ordL := by kernel_rfl
theorem ord_list : Tryz.prog.initOrder.toList = ordL := by rw [ord_eq, String.toList_ofList]
theorem words_head : (behindMainWord (wordsSigns ordL)).head? = some "cut".toList := by kernel_rfl
theorem words_cons : behindMainWord (wordsSigns ordL) = "cut".toList :: (behindMainWord (wordsSigns ordL)).tail := by
  have h := words_head
  cases hb : behindMainWord (wordsSigns ordL) with
  | nil => rw [hb] at h; cases h
  | cons a r => rw [hb] at h; cases h; rfl
theorem lays : Tryz.prog.laysLater = false := by kernel_rfl
theorem bears : Tryz.prog.bearsReflect = false := by kernel_rfl
theorem door : Tryz.prog.doorFits [] = true := by kernel_rfl
theorem strip_cut (R : List (List Char)) : stripLifts liftWords ("cut".toList :: R) = ([], "cut".toList :: R) := by kernel_rfl
theorem head_lifts_of (P : Program) (R : List (List Char)) (h : behindMainWord (wordsSigns P.initOrder.toList) = "cut".toList :: R) : P.headLifts = [] := by
  unfold Program.headLifts; rw [h, strip_cut]; rfl
theorem enter_of (P : Program) (R : List (List Char)) (h : behindMainWord (wordsSigns P.initOrder.toList) = "cut".toList :: R) (h1 : P.laysLater = false) (h2 : P.bearsReflect = false) (h3 : P.doorFits [] = true) : P.mayEnter = true := by
  unfold Program.mayEnter; rw [h]; dsimp only; rw [strip_cut, h1, h2]; dsimp only; rw [h3]; rfl
theorem lifts_of (P : Program) (R : List (List Char)) (h : behindMainWord (wordsSigns P.initOrder.toList) = "cut".toList :: R) : P.liftsFinal = false := by
  unfold Program.liftsFinal; rw [head_lifts_of P R h, h]; rfl
theorem make_of (P : Program) (R : List (List Char)) (h : behindMainWord (wordsSigns P.initOrder.toList) = "cut".toList :: R) : P.make = some Make.cut := by
  unfold Program.make; rw [h]; rfl
theorem order_cut : ∃ R, behindMainWord (wordsSigns Tryz.prog.initOrder.toList) = "cut".toList :: R := ⟨_, by rw [ord_list]; exact words_cons⟩
theorem may_enter : Tryz.prog.mayEnter = true := by obtain ⟨R, h⟩ := order_cut; exact enter_of _ R h lays bears door
theorem lifts_final : Tryz.prog.liftsFinal = false := by obtain ⟨R, h⟩ := order_cut; exact lifts_of _ R h
theorem make_is : Tryz.prog.make = some Make.cut := by obtain ⟨R, h⟩ := order_cut; exact make_of _ R h
theorem and_t {a b : Bool} (h1 : a = true) (h2 : b = true) : (a && b) = true := by rw [h1, h2]; rfl
end Go.Proofs.YtoledfhjmdpihaaGreat
