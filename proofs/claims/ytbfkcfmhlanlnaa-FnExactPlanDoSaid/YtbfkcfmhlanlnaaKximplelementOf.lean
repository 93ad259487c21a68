/- Written by a program of mine (kprint.py) out of the translation: Lean functions for Go functions, and their contracts. -/
import Derived.Test.YtbfkcfmhlanlnaaKx0
namespace Go.Proofs.Ytbfkcfmhlanlnaa.K
open Go.RowKit Go.Proofs.YtbfkcfmhlanlnaaW.PrintWords Go.Proofs.YtbfkcfmhlanlnaaW.PrintLast Go.Proofs.YtbfkcfmhlanlnaaW.PrintMore
attribute [local go_sem] max2_int min2_int max_two min_two max_three min_three max_four min_four   -- for this text's walks alone
set_option linter.unusedVariables false
set_option linter.unusedSimpArgs false

/-! ### impl_elementOf: function 115 -/
def impl_elementOf.f (a0 : Int) : Option (Int) := some (Int.tmod (wrap64 ((Int.tmod a0 31) + 31)) 31)
set_option maxHeartbeats 8000000 in
set_option maxRecDepth 100000 in
theorem impl_elementOf.calls (a0 : Int) (r : Int) (w : World) (h : impl_elementOf.f a0 = some r) :
    Calls Try.prog 115 #[.int .i64 a0] w fun e w' => e = .returned (.int .i64 r) ∧ Drawn0 w w' := by
  have H : (some (Int.tmod (wrap64 ((Int.tmod a0 31) + 31)) 31)) = some r := h
  clear h
  obtain rfl := Option.some.inj H
  go_enter Try.func115, Try.ntmps115
  go_wp2
  go_ret
  exact ⟨by first | rfl | (simp; done) | (simp [*]; done), by repeat (first | exact Drawn0.refl _ | apply Drawn0.step)⟩

end Go.Proofs.Ytbfkcfmhlanlnaa.K
