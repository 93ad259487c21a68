/- What the functions of several statements compute, step by step. No condition. -/
import Derived.Test.YtnbighmbgmjbkaaGreatMGM23
set_option linter.unusedVariables false
set_option linter.unusedSimpArgs false
section
namespace Go.Proofs.YtnbighmbgmjbkaaGreat.E
open Go Go.RowKit
set_option maxRecDepth 100000
theorem tabB_1_4_1:tabB 1 4 1=true:=by kernel_rfl
theorem tabB_1_4_2:tabB 1 4 2=true:=by kernel_rfl
theorem tabB_1_4_3:tabB 1 4 3=true:=by kernel_rfl
theorem tabB_1_4_4:tabB 1 4 4=true:=by kernel_rfl
theorem tabB_1_5_1:tabB 1 5 1=true:=by kernel_rfl
theorem tabB_1_5_2:tabB 1 5 2=true:=by kernel_rfl
theorem tabB_1_5_3:tabB 1 5 3=true:=by kernel_rfl
theorem tabB_1_5_4:tabB 1 5 4=true:=by kernel_rfl
theorem tabB_1_6_1:tabB 1 6 1=true:=by kernel_rfl
theorem tabB_1_6_2:tabB 1 6 2=true:=by kernel_rfl
theorem tabB_1_6_3:tabB 1 6 3=true:=by kernel_rfl
theorem tabB_1_6_4:tabB 1 6 4=true:=by kernel_rfl
theorem tabB_1_7_1:tabB 1 7 1=true:=by kernel_rfl
theorem tabB_1_7_2:tabB 1 7 2=true:=by kernel_rfl
theorem tabB_1_7_3:tabB 1 7 3=true:=by kernel_rfl
theorem tabB_1_7_4:tabB 1 7 4=true:=by kernel_rfl
end Go.Proofs.YtnbighmbgmjbkaaGreat.E
end
