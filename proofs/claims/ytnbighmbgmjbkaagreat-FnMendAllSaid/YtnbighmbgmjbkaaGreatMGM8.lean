/- What the functions of several statements compute, step by step. No condition. -/
import Derived.Test.YtnbighmbgmjbkaaGreatMGM4
set_option linter.unusedVariables false
set_option linter.unusedSimpArgs false
section
namespace Go.Proofs.YtnbighmbgmjbkaaGreat.E
open Go Go.RowKit
set_option maxRecDepth 100000
theorem tab1_2:tabAll 1 5 3 [2]=true:=by kernel_rfl
theorem tab1_02:tabAll 1 5 3 [0,2]=true:=by kernel_rfl
theorem tab1_12:tabAll 1 5 3 [1,2]=true:=by kernel_rfl
theorem tab1_012:tabAll 1 5 3 [0,1,2]=true:=by kernel_rfl
end Go.Proofs.YtnbighmbgmjbkaaGreat.E
end
