/- What the functions of several statements compute, step by step. No condition. -/
import Derived.Test.YtnbighmbgmjbkaaGreatMGM23
set_option linter.unusedVariables false
set_option linter.unusedSimpArgs false
section
namespace Go.Proofs.YtnbighmbgmjbkaaGreat.E
open Go Go.RowKit
set_option maxRecDepth 100000
theorem tabH_1_1:tabH 1 1=true:=by kernel_rfl
theorem tabH_1_2:tabH 1 2=true:=by kernel_rfl
theorem tabH_1_3:tabH 1 3=true:=by kernel_rfl
theorem tabH_1_4:tabH 1 4=true:=by kernel_rfl
end Go.Proofs.YtnbighmbgmjbkaaGreat.E
end
