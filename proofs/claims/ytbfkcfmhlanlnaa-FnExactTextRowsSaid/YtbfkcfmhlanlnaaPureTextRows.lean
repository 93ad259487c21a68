/- Of every text: the program's TextRows is the reference's; no condition. -/
import Derived.Test.YtbfkcfmhlanlnaaKPureT
import Derived.Test.YtbfkcfmhlanlnaaKxlawsFnExactTextRows
namespace Go.Proofs.Ytbfkcfmhlanlnaa.Pure
open Go.RowKit Go.Proofs.Ytbfkcfmhlanlnaa.K Go.Proofs.YtbfkcfmhlanlnaaW.PrintWords Go.Proofs.YtbfkcfmhlanlnaaW.PrintLast
theorem FnExactTextRows : laws_FnExactTextRows.Pure := by
  intro s hs
  refine Ev.rounds (g := fun k => laws_FnExactTextRows.f k s) (r := true) ?_
  unfold laws_FnExactTextRows.f
  by_cases h : (s.size : Int) > 1048576
  · simp only [if_pos h]; exact Ev.now true
  simp only [if_neg h]
  exact (specRows_t s hs).bind (tv_call (implRows_f s hs) (tv_pos rfl (Ev.now _)))
end Go.Proofs.Ytbfkcfmhlanlnaa.Pure
