/- What the functions of several statements compute, step by step. No condition. -/
import Derived.Test.YtnbighmbgmjbkaaGreatMGM6
set_option linter.unusedVariables false
set_option linter.unusedSimpArgs false
section
namespace Go.Proofs.YtnbighmbgmjbkaaGreat.E
open Go Go.RowKit
set_option maxRecDepth 100000
theorem wk1_n:walkT 1 5 3 [] []=true:=by kernel_rfl
theorem wk1_0:walkT 1 5 3 [0] [0]=true:=by kernel_rfl
theorem wk1_1:walkT 1 5 3 [1] [1]=true:=by kernel_rfl
theorem wk1_01:walkT 1 5 3 [0,1] [0,1]=true:=by kernel_rfl
end Go.Proofs.YtnbighmbgmjbkaaGreat.E
end
