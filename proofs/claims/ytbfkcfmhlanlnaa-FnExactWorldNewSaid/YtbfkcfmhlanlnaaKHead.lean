/- The head of the program, as a list of characters; what a row asks of it. No condition. -/
import Derived.Test.YtbfkcfmhlanlnaaRows
import Derived.WalkKit
import Derived.JoinedOf
namespace Go.Proofs.Ytbfkcfmhlanlnaa.Head
theorem strip (r : List (List Char)) : stripLifts liftWords ("cut".toList :: r) = ([], "cut".toList :: r) := by
  unfold liftWords
  repeat (rw [stripLifts, if_neg (by decide +kernel)])
  rw [stripLifts]
theorem words_of {ws : List (List Char)} (h : ws.head? = some "cut".toList) : ∃ r, ws = "cut".toList :: r := by
  cases ws with
  | nil => cases h
  | cons c r => exact ⟨r, by rw [Option.some.inj h]⟩
theorem lifts_of (P : Program) (l : List Char) (hl : P.initOrder.toList = l) (h : (behindMainWord (wordsSigns l)).head? = some "cut".toList) : P.headLifts = [] := by
  obtain ⟨r, hr⟩ := words_of h
  unfold Program.headLifts
  rw [hl, hr, strip]
  dsimp only
  split <;> rfl
theorem e1 : ("cut".toList == "gc".toList) = false := by decide +kernel
theorem e2 : ("cut".toList == "spec".toList) = false := by decide +kernel
theorem e3 : ("cut".toList == "carried".toList) = false := by decide +kernel
theorem e4 : (some "cut".toList == some "carried".toList) = false := by decide +kernel
theorem make_of (P : Program) (l : List Char) (hl : P.initOrder.toList = l) (h : (behindMainWord (wordsSigns l)).head? = some "cut".toList) : P.make = some .cut := by
  obtain ⟨r, hr⟩ := words_of h
  unfold Program.make
  rw [hl, hr]
  dsimp only
  rw [e1, e2]
  simp
theorem final_of (P : Program) (l : List Char) (hl : P.initOrder.toList = l) (h : (behindMainWord (wordsSigns l)).head? = some "cut".toList) : P.liftsFinal = false := by
  obtain ⟨r, hr⟩ := words_of h
  unfold Program.liftsFinal
  rw [hl, hr, lifts_of P l hl h]
  dsimp only [List.head?_cons]
  rw [e4]
  rfl
theorem enter_of (P : Program) (l : List Char) (hl : P.initOrder.toList = l) (h : (behindMainWord (wordsSigns l)).head? = some "cut".toList) (later : P.laysLater = false) (reflect : P.bearsReflect = false) (door : P.doorFits [] = true) : P.mayEnter = true := by
  obtain ⟨r, hr⟩ := words_of h
  unfold Program.mayEnter
  rw [hl, hr]
  dsimp only
  rw [strip]
  dsimp only
  rw [later, reflect, door, e1, e2, e3]
  simp
def signs : List Char := List.map Char.ofNat [104, 97, 114, 110, 101, 115, 115, 32, 101, 54, 54, 50, 98, 102, 55, 98, 100, 99, 97, 55, 56, 55, 54, 100, 99, 101, 54, 98, 98, 51, 102, 55, 101, 52, 99, 55, 98, 100, 51, 53, 100, 98, 102, 54, 53, 54, 54, 101, 52, 48, 49, 56, 101, 99, 101, 100, 56, 51, 102, 50, 50, 102, 56, 99, 57, 97, 55, 52, 53, 97, 55, 52, 32, 99, 117, 116, 32, 97, 116, 32, 108, 111, 111, 112, 46, 101, 120, 97, 109, 112, 108, 101, 47, 107, 101, 101, 108, 115, 111, 110, 47, 108, 97, 119, 115, 46, 70, 110, 69, 120, 97, 99, 116, 84, 101, 120, 116, 82, 111, 119, 115, 32, 108, 111, 111, 112, 46, 101, 120, 97, 109, 112, 108, 101, 47, 107, 101, 101, 108, 115, 111, 110, 47, 108, 97, 119, 115, 46, 70, 110, 84, 101, 120, 116, 82, 111, 119, 115, 32, 108, 111, 111, 112, 46, 101, 120, 97, 109, 112, 108, 101, 47, 107, 101, 101, 108, 115, 111, 110, 47, 108, 97, 119, 115, 46, 70, 110, 69, 120, 97, 99, 116, 84, 101, 120, 116, 67, 117, 116, 32, 108, 111, 111, 112, 46, 101, 120, 97, 109, 112, 108, 101, 47, 107, 101, 101, 108, 115, 111, 110, 47, 108, 97, 119, 115, 46, 70, 110, 69, 120, 97, 99, 116, 82, 111, 116, 70, 105, 110, 100, 32, 108, 111, 111, 112, 46, 101, 120, 97, 109, 112, 108, 101, 47, 107, 101, 101, 108, 115, 111, 110, 47, 108, 97, 119, 115, 46, 70, 110, 84, 101, 120, 116, 66, 97, 99, 107, 32, 108, 111, 111, 112, 46, 101, 120, 97, 109, 112, 108, 101, 47, 107, 101, 101, 108, 115, 111, 110, 47, 108, 97, 119, 115, 46, 70, 110, 69, 120, 97, 99, 116, 84, 101, 120, 116, 74, 111, 105, 110, 32, 108, 111, 111, 112, 46, 101, 120, 97, 109, 112, 108, 101, 47, 107, 101, 101, 108, 115, 111, 110, 47, 108, 97, 119, 115, 46, 70, 110, 84, 101, 120, 116, 83, 116, 114, 105, 99, 116, 32, 108, 111, 111, 112, 46, 101, 120, 97, 109, 112, 108, 101, 47, 107, 101, 101, 108, 115, 111, 110, 47, 108, 97, 119, 115, 46, 70, 110, 82, 111, 116, 70, 105, 110, 100, 32, 108, 111, 111, 112, 46, 101, 120, 97, 109, 112, 108, 101, 47, 107, 101, 101, 108, 115, 111, 110, 47, 108, 97, 119, 115, 46, 70, 110, 69, 120, 97, 99, 116, 80, 108, 97, 110, 68, 111, 32, 108, 111, 111, 112, 46, 101, 120, 97, 109, 112, 108, 101, 47, 107, 101, 101, 108, 115, 111, 110, 47, 108, 97, 119, 115, 46, 70, 110, 69, 120, 97, 99, 116, 87, 111, 114, 108, 100, 78, 101, 119]
theorem order : Try.prog.initOrder = String.ofList signs := by kernel_rfl
theorem toL : Try.prog.initOrder.toList = signs := by rw [order]; exact String.toList_ofList
theorem words : (behindMainWord (wordsSigns signs)).head? = some "cut".toList := by kernel_rfl
theorem make : Try.prog.make = some .cut := make_of _ _ toL words
theorem final : Try.prog.liftsFinal = false := final_of _ _ toL words
theorem enter : Try.prog.mayEnter = true := enter_of _ _ toL words (by as_aux_lemma => kernel_rfl) (by as_aux_lemma => kernel_rfl) (by as_aux_lemma => kernel_rfl)
end Go.Proofs.Ytbfkcfmhlanlnaa.Head
