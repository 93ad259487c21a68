/- What the functions of several statements compute, step by step. No condition. -/
import Derived.Test.YtnbighmbgmjbkaaGreatMGM23
set_option linter.unusedVariables false
set_option linter.unusedSimpArgs false
section
namespace Go.Proofs.YtnbighmbgmjbkaaGreat.E
open Go Go.RowKit
set_option maxRecDepth 100000
theorem tabI_2_4_1:tabI 2 4 1=true:=by kernel_rfl
theorem tabI_2_4_2:tabI 2 4 2=true:=by kernel_rfl
theorem tabI_2_4_3:tabI 2 4 3=true:=by kernel_rfl
theorem tabI_2_4_4:tabI 2 4 4=true:=by kernel_rfl
theorem tabI_2_5_1:tabI 2 5 1=true:=by kernel_rfl
theorem tabI_2_5_2:tabI 2 5 2=true:=by kernel_rfl
theorem tabI_2_5_3:tabI 2 5 3=true:=by kernel_rfl
theorem tabI_2_5_4:tabI 2 5 4=true:=by kernel_rfl
theorem tabI_2_6_1:tabI 2 6 1=true:=by kernel_rfl
theorem tabI_2_6_2:tabI 2 6 2=true:=by kernel_rfl
theorem tabI_2_6_3:tabI 2 6 3=true:=by kernel_rfl
theorem tabI_2_6_4:tabI 2 6 4=true:=by kernel_rfl
theorem tabI_2_7_1:tabI 2 7 1=true:=by kernel_rfl
theorem tabI_2_7_2:tabI 2 7 2=true:=by kernel_rfl
theorem tabI_2_7_3:tabI 2 7 3=true:=by kernel_rfl
theorem tabI_2_7_4:tabI 2 7 4=true:=by kernel_rfl
end Go.Proofs.YtnbighmbgmjbkaaGreat.E
end
