/- What the functions of several statements compute, step by step. No condition. -/
import Derived.Test.YtnbighmbgmjbkaaGreatMGM23
set_option linter.unusedVariables false
set_option linter.unusedSimpArgs false
section
namespace Go.Proofs.YtnbighmbgmjbkaaGreat.E
open Go Go.RowKit
set_option maxRecDepth 100000
theorem tabI_1_4_1:tabI 1 4 1=true:=by kernel_rfl
theorem tabI_1_4_2:tabI 1 4 2=true:=by kernel_rfl
theorem tabI_1_4_3:tabI 1 4 3=true:=by kernel_rfl
theorem tabI_1_4_4:tabI 1 4 4=true:=by kernel_rfl
theorem tabI_1_5_1:tabI 1 5 1=true:=by kernel_rfl
theorem tabI_1_5_2:tabI 1 5 2=true:=by kernel_rfl
theorem tabI_1_5_3:tabI 1 5 3=true:=by kernel_rfl
theorem tabI_1_5_4:tabI 1 5 4=true:=by kernel_rfl
theorem tabI_1_6_1:tabI 1 6 1=true:=by kernel_rfl
theorem tabI_1_6_2:tabI 1 6 2=true:=by kernel_rfl
theorem tabI_1_6_3:tabI 1 6 3=true:=by kernel_rfl
theorem tabI_1_6_4:tabI 1 6 4=true:=by kernel_rfl
theorem tabI_1_7_1:tabI 1 7 1=true:=by kernel_rfl
theorem tabI_1_7_2:tabI 1 7 2=true:=by kernel_rfl
theorem tabI_1_7_3:tabI 1 7 3=true:=by kernel_rfl
theorem tabI_1_7_4:tabI 1 7 4=true:=by kernel_rfl
end Go.Proofs.YtnbighmbgmjbkaaGreat.E
end
