/- What the functions of several statements compute, step by step. No condition. -/
import Derived.Test.YtnbighmbgmjbkaaGreatMGM4
set_option linter.unusedVariables false
set_option linter.unusedSimpArgs false
section
namespace Go.Proofs.YtnbighmbgmjbkaaGreat.E
open Go Go.RowKit
set_option maxRecDepth 100000
theorem okA1_n:okAll 1 5 3 []=true:=by kernel_rfl
theorem okA1_0:okAll 1 5 3 [0]=true:=by kernel_rfl
theorem okA1_1:okAll 1 5 3 [1]=true:=by kernel_rfl
theorem okA1_01:okAll 1 5 3 [0,1]=true:=by kernel_rfl
theorem okA1_2:okAll 1 5 3 [2]=true:=by kernel_rfl
theorem okA1_02:okAll 1 5 3 [0,2]=true:=by kernel_rfl
theorem okA1_12:okAll 1 5 3 [1,2]=true:=by kernel_rfl
theorem okA1_012:okAll 1 5 3 [0,1,2]=true:=by kernel_rfl
end Go.Proofs.YtnbighmbgmjbkaaGreat.E
end
