/- What the functions of several statements compute, step by step. No condition. -/
import Derived.Test.YtnbighmbgmjbkaaGreatMGM23
set_option linter.unusedVariables false
set_option linter.unusedSimpArgs false
section
namespace Go.Proofs.YtnbighmbgmjbkaaGreat.E
open Go Go.RowKit
set_option maxRecDepth 100000
theorem tabH_2_1:tabH 2 1=true:=by kernel_rfl
theorem tabH_2_2:tabH 2 2=true:=by kernel_rfl
theorem tabH_2_3:tabH 2 3=true:=by kernel_rfl
theorem tabH_2_4:tabH 2 4=true:=by kernel_rfl
end Go.Proofs.YtnbighmbgmjbkaaGreat.E
end
