/- The head of the program: what it was cut at; read once, since all laws of a seat ask it. -/
import Derived.Test.YtpfcckkjbkhbhaaGreatDoorRows
import Derived.Test.YtpfcckkjbkhbhaaGreatDoorProg
import Derived.JoinedOf
import Derived.WalkKit
import Derived.ProofKit
import Derived.OpenShut
set_option linter.unusedVariables false
namespace Go.Proofs.YtpfcckkjbkhbhaaGreatDoor
open Go Go.Proofs
def ordL : List Char := List.map Char.ofNat [104, 97, 114, 110, 101, 115, 115, 32, 100, 54, 53, 53, 48, 57, 53, 54, 52, 53, 54, 53, 51, 97, 54, 101, 98, 48, 102, 55, 56, 51, 56, 53, 49, 53, 98, 56, 50, 102, 54, 101, 49, 100, 50, 56, 55, 49, 54, 55, 49, 54, 48, 50, 101, 98, 54, 50, 54, 54, 102, 53, 101, 98, 51, 100, 51, 97, 55, 99, 100, 57, 102, 52, 32, 99, 117, 116, 32, 97, 116, 32, 108, 111, 111, 112, 46, 101, 120, 97, 109, 112, 108, 101, 47, 99, 101, 114, 98, 101, 114, 117, 115, 47, 108, 97, 119, 115, 46, 70, 110, 77, 115, 103, 66, 97, 99, 107, 32, 108, 111, 111, 112, 46, 101, 120, 97, 109, 112, 108, 101, 47, 99, 101, 114, 98, 101, 114, 117, 115, 47, 108, 97, 119, 115, 46, 70, 110, 76, 105, 110, 101, 115, 83, 116, 101, 112, 115, 32, 108, 111, 111, 112, 46, 101, 120, 97, 109, 112, 108, 101, 47, 99, 101, 114, 98, 101, 114, 117, 115, 47, 108, 97, 119, 115, 46, 70, 110, 69, 120, 97, 99, 116, 77, 115, 103, 82, 101, 97, 100, 32, 108, 111, 111, 112, 46, 101, 120, 97, 109, 112, 108, 101, 47, 99, 101, 114, 98, 101, 114, 117, 115, 47, 108, 97, 119, 115, 46, 70, 110, 76, 105, 110, 101, 115, 84, 105, 99, 107, 32, 108, 111, 111, 112, 46, 101, 120, 97, 109, 112, 108, 101, 47, 99, 101, 114, 98, 101, 114, 117, 115, 47, 108, 97, 119, 115, 46, 70, 110, 77, 115, 103, 83, 116, 114, 105, 99, 116, 32, 108, 111, 111, 112, 46, 101, 120, 97, 109, 112, 108, 101, 47, 99, 101, 114, 98, 101, 114, 117, 115, 47, 108, 97, 119, 115, 46, 70, 110, 69, 120, 97, 99, 116, 76, 105, 110, 101, 115, 82, 117, 110, 32, 108, 111, 111, 112, 46, 101, 120, 97, 109, 112, 108, 101, 47, 99, 101, 114, 98, 101, 114, 117, 115, 47, 108, 97, 119, 115, 46, 70, 110, 76, 105, 110, 101, 115, 66, 111, 116, 104, 32, 108, 111, 111, 112, 46, 101, 120, 97, 109, 112, 108, 101, 47, 99, 101, 114, 98, 101, 114, 117, 115, 47, 108, 97, 119, 115, 46, 70, 110, 76, 105, 110, 101, 115, 70, 97, 108, 108, 32, 108, 111, 111, 112, 46, 101, 120, 97, 109, 112, 108, 101, 47, 99, 101, 114, 98, 101, 114, 117, 115, 47, 108, 97, 119, 115, 46, 70, 110, 76, 105, 110, 101, 115, 75, 101, 121, 115, 32, 108, 111, 111, 112, 46, 101, 120, 97, 109, 112, 108, 101, 47, 99, 101, 114, 98, 101, 114, 117, 115, 47, 108, 97, 119, 115, 46, 70, 110, 76, 105, 110, 101, 115, 76, 111, 110, 103, 32, 108, 111, 111, 112, 46, 101, 120, 97, 109, 112, 108, 101, 47, 99, 101, 114, 98, 101, 114, 117, 115, 47, 108, 97, 119, 115, 46, 70, 110, 76, 105, 110, 101, 115, 77, 101, 101, 116, 32, 108, 111, 111, 112, 46, 101, 120, 97, 109, 112, 108, 101, 47, 99, 101, 114, 98, 101, 114, 117, 115, 47, 108, 97, 119, 115, 46, 70, 110, 76, 105, 110, 101, 115, 81, 117, 105, 101, 116, 32, 108, 111, 111, 112, 46, 101, 120, 97, 109, 112, 108, 101, 47, 99, 101, 114, 98, 101, 114, 117, 115, 47, 108, 97, 119, 115, 46, 70, 110, 76, 105, 110, 101, 115, 82, 101, 112, 108, 97, 121, 32, 108, 111, 111, 112, 46, 101, 120, 97, 109, 112, 108, 101, 47, 99, 101, 114, 98, 101, 114, 117, 115, 47, 108, 97, 119, 115, 46, 70, 110, 76, 105, 110, 101, 115, 82, 117, 110]
theorem ord_eq : Tryz.prog.initOrder = String.ofList ordL := by kernel_rfl
theorem ord_list : Tryz.prog.initOrder.toList = ordL := by rw [ord_eq, String.toList_ofList]
theorem words_head : (behindMainWord (wordsSigns ordL)).head? = some "cut".toList := by kernel_rfl
theorem words_cons : behindMainWord (wordsSigns ordL) = "cut".toList :: (behindMainWord (wordsSigns ordL)).tail := by
  have h := words_head
  cases hb : behindMainWord (wordsSigns ordL) with
  | nil => rw [hb] at h; cases h
  | cons a r => rw [hb] at h; cases h; rfl
theorem lays : Tryz.prog.laysLater = false := by kernel_rfl
theorem bears : Tryz.prog.bearsReflect = false := by kernel_rfl
theorem door : Tryz.prog.doorFits [] = true := by kernel_rfl
theorem strip_cut (R : List (List Char)) : stripLifts liftWords ("cut".toList :: R) = ([], "cut".toList :: R) := by kernel_rfl
theorem head_lifts_of (P : Program) (R : List (List Char)) (h : behindMainWord (wordsSigns P.initOrder.toList) = "cut".toList :: R) : P.headLifts = [] := by
  unfold Program.headLifts; rw [h, strip_cut]; rfl
theorem enter_of (P : Program) (R : List (List Char)) (h : behindMainWord (wordsSigns P.initOrder.toList) = "cut".toList :: R) (h1 : P.laysLater = false) (h2 : P.bearsReflect = false) (h3 : P.doorFits [] = true) : P.mayEnter = true := by
  unfold Program.mayEnter; rw [h]; dsimp only; rw [strip_cut, h1, h2]; dsimp only; rw [h3]; rfl
theorem lifts_of (P : Program) (R : List (List Char)) (h : behindMainWord (wordsSigns P.initOrder.toList) = "cut".toList :: R) : P.liftsFinal = false := by
  unfold Program.liftsFinal; rw [head_lifts_of P R h, h]; rfl
theorem make_of (P : Program) (R : List (List Char)) (h : behindMainWord (wordsSigns P.initOrder.toList) = "cut".toList :: R) : P.make = some Make.cut := by
  unfold Program.make; rw [h]; rfl
theorem order_cut : ∃ R, behindMainWord (wordsSigns Tryz.prog.initOrder.toList) = "cut".toList :: R := ⟨_, by rw [ord_list]; exact words_cons⟩
theorem may_enter : Tryz.prog.mayEnter = true := by obtain ⟨R, h⟩ := order_cut; exact enter_of _ R h lays bears door
theorem lifts_final : Tryz.prog.liftsFinal = false := by obtain ⟨R, h⟩ := order_cut; exact lifts_of _ R h
theorem make_is : Tryz.prog.make = some Make.cut := by obtain ⟨R, h⟩ := order_cut; exact make_of _ R h
theorem and_t {a b : Bool} (h1 : a = true) (h2 : b = true) : (a && b) = true := by rw [h1, h2]; rfl
end Go.Proofs.YtpfcckkjbkhbhaaGreatDoor
