/- What the functions of several statements compute, step by step. No condition. -/
import Derived.Test.YtnbighmbgmjbkaaGreatMGM6
set_option linter.unusedVariables false
set_option linter.unusedSimpArgs false
section
namespace Go.Proofs.YtnbighmbgmjbkaaGreat.E
open Go Go.RowKit
set_option maxRecDepth 100000
theorem wk1_2:walkT 1 5 3 [2] [2]=true:=by kernel_rfl
theorem wk1_02:walkT 1 5 3 [0,2] [0,2]=true:=by kernel_rfl
theorem wk1_12:walkT 1 5 3 [1,2] [1,2]=true:=by kernel_rfl
theorem wk1_012:walkT 1 5 3 [0,1,2] [0,1,2]=true:=by kernel_rfl
end Go.Proofs.YtnbighmbgmjbkaaGreat.E
end
