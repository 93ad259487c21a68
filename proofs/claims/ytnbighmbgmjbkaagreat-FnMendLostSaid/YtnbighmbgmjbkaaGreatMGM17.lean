/- What the functions of several statements compute, step by step. No condition. -/
import Derived.Test.YtnbighmbgmjbkaaGreatMGM6
set_option linter.unusedVariables false
set_option linter.unusedSimpArgs false
section
namespace Go.Proofs.YtnbighmbgmjbkaaGreat.E
open Go Go.RowKit
set_option maxRecDepth 100000
theorem by1_0:(invT1.take 10).all (byE 1)=true:=by kernel_rfl
theorem by1_1:((invT1.drop 10).take 10).all (byE 1)=true:=by kernel_rfl
theorem by1_2:(((invT1.drop 10).drop 10).take 10).all (byE 1)=true:=by kernel_rfl
theorem by1_3:((((invT1.drop 10).drop 10).drop 10).take 10).all (byE 1)=true:=by kernel_rfl
end Go.Proofs.YtnbighmbgmjbkaaGreat.E
end
