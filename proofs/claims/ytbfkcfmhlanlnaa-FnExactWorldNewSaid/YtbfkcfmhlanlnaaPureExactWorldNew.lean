/- Of every quota: the law's walk answers true; no condition. -/
import Derived.Test.YtbfkcfmhlanlnaaKWorldNew
namespace Go.Proofs.Ytbfkcfmhlanlnaa.Pure
open Go.RowKit Go.Proofs.Ytbfkcfmhlanlnaa.K
theorem FnExactWorldNew : ∀ (a0 : Int), (Lit.int .i64 a0).wf = true → ∃ k, laws_FnExactWorldNew.f k a0 = some true := fun _ _ => ⟨0, rfl⟩
end Go.Proofs.Ytbfkcfmhlanlnaa.Pure
