/- What the functions of several statements compute, step by step. No condition. -/
import Derived.Test.YtnbighmbgmjbkaaGreatMGM23
set_option linter.unusedVariables false
set_option linter.unusedSimpArgs false
section
namespace Go.Proofs.YtnbighmbgmjbkaaGreat.E
open Go Go.RowKit
set_option maxRecDepth 100000
theorem tabB_2_0_1:tabB 2 0 1=true:=by kernel_rfl
theorem tabB_2_0_2:tabB 2 0 2=true:=by kernel_rfl
theorem tabB_2_0_3:tabB 2 0 3=true:=by kernel_rfl
theorem tabB_2_0_4:tabB 2 0 4=true:=by kernel_rfl
theorem tabB_2_1_1:tabB 2 1 1=true:=by kernel_rfl
theorem tabB_2_1_2:tabB 2 1 2=true:=by kernel_rfl
theorem tabB_2_1_3:tabB 2 1 3=true:=by kernel_rfl
theorem tabB_2_1_4:tabB 2 1 4=true:=by kernel_rfl
theorem tabB_2_2_1:tabB 2 2 1=true:=by kernel_rfl
theorem tabB_2_2_2:tabB 2 2 2=true:=by kernel_rfl
theorem tabB_2_2_3:tabB 2 2 3=true:=by kernel_rfl
theorem tabB_2_2_4:tabB 2 2 4=true:=by kernel_rfl
theorem tabB_2_3_1:tabB 2 3 1=true:=by kernel_rfl
theorem tabB_2_3_2:tabB 2 3 2=true:=by kernel_rfl
theorem tabB_2_3_3:tabB 2 3 3=true:=by kernel_rfl
theorem tabB_2_3_4:tabB 2 3 4=true:=by kernel_rfl
end Go.Proofs.YtnbighmbgmjbkaaGreat.E
end
