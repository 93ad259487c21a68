/- The program's RotSum answers as the reference's at all three numbers; no condition. -/
import Derived.Test.YtidjdbpbdfiaeaaPFnExactRotSumx1
namespace Go.Proofs.Ytidjdbpbdfiaeaa.Pure
open Go.RowKit Go.Proofs.Ytidjdbpbdfiaeaa.PFnExactRotSum Go.Proofs.YtidjdbpbdfiaeaaW.PrintWords Go.Proofs.YtidjdbpbdfiaeaaW.PrintLast

theorem FnExactRotSum : laws_FnExactRotSum.Pure := by
  intro v t a _ _ _
  unfold laws_FnExactRotSum.f spec_RotSum.f impl_RotSum.f spec_FieldOk.f spec_l6In.f spec_l41Sum.f impl_FieldOk.f impl_versOk.f impl_shardOk.f impl_within.f
  by_cases h1 : 0 ≤ v <;> by_cases h2 : v ≤ 30 <;> by_cases h3 : 1 ≤ t <;> by_cases h4 : t ≤ 99 <;> by_cases h5 : 0 ≤ a <;> by_cases h6 : a ≤ 7 <;> simp [h1, h2, h3, h4, h5, h6]

end Go.Proofs.Ytidjdbpbdfiaeaa.Pure
