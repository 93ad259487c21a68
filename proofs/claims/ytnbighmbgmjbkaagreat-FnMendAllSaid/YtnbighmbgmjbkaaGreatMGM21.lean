/- What the functions of several statements compute, step by step. No condition. -/
import Derived.Test.YtnbighmbgmjbkaaGreatMGM4
set_option linter.unusedVariables false
set_option linter.unusedSimpArgs false
section
namespace Go.Proofs.YtnbighmbgmjbkaaGreat.E
open Go Go.RowKit
set_option maxRecDepth 100000
theorem most_1:impl_CodeMost.G sl1 1 (fun y=>some y)=some (3:Int):=by kernel_rfl
end Go.Proofs.YtnbighmbgmjbkaaGreat.E
end
