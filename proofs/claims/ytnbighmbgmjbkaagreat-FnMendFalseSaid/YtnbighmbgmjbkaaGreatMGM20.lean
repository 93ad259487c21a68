/- What the functions of several statements compute, step by step. No condition. -/
import Derived.Test.YtnbighmbgmjbkaaGreatMGM6
set_option linter.unusedVariables false
set_option linter.unusedSimpArgs false
section
namespace Go.Proofs.YtnbighmbgmjbkaaGreat.E
open Go Go.RowKit
set_option maxRecDepth 100000
theorem by2_4:(((((invT2.drop 10).drop 10).drop 10).drop 10).take 10).all (byE 2)=true:=by kernel_rfl
theorem by2_5:((((((invT2.drop 10).drop 10).drop 10).drop 10).drop 10).take 10).all (byE 2)=true:=by kernel_rfl
theorem by2_6:((((((invT2.drop 10).drop 10).drop 10).drop 10).drop 10).drop 10).all (byE 2)=true:=by kernel_rfl
end Go.Proofs.YtnbighmbgmjbkaaGreat.E
end
