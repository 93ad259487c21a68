/-
  No cell of these rows narrows 'for every input' (looked for: loops, veiled, ifaces, maps, wideKeys, modest, calm, conditions, laid).
  DERIVED. THE GIVEN ROWS OF THIS SEAT. 17 by the template 'for every input the law returns true; each argument reads behind the call as it read before'; 0 by the template 'total and deterministic' (their statements: YtnbighmbgmjbkaaGreatTotals.lean).
  GIVEN WITH THE SEED: the statements are not yours to turn. If you find one false, say at which input.
  Laid BY PROGRAM, IN A SANDBOX (cutbox-rows.mjs): the forced cells as the released guide's own fill.sh prints them over the translation 07d696e2a75b8779… (all of the seat's roots in one cut). By AI agents, Wed Nov 11 2026. No macro, syntax, notation, axiom, sorry.
-/
import Derived.Test.YtnbighmbgmjbkaaGreatChecked
import GoSem.Claim
import GoSem.ClaimJoined
import GoSem.ClaimMapViews
import Derived.JoinedTies
import Derived.KernelRfl
namespace Go.Proofs.YtnbighmbgmjbkaaGreat
/- THE CELL 'sum', in the pinned program and in every row, IS THE sha256 OF THE DUMP (.gsa) THAT YtnbighmbgmjbkaaGreatProg.lean LOADS. Nothing in Lean hashes anything: it is a label: what it is worth is what the hold of that sum in a sandbox is worth. -/
noncomputable def Tryz.pinned : Pinned := { name := "ytnbighmbgmjbkaagreat", sum := "07d696e2a75b8779d10d5cb8880c60ef3a8fa717fb7043398f498f1942345311", checked := Tryz.checked }
namespace Rows
def none {H : Type} : Left H := { results := [], args := [] }

/-- 'laws.FnWriteRead': WHATEVER THE INPUT: true; the input reads as it did. -/
def fnWriteReadSpec : ChangeSpec := { name := "fnWriteRead", fn := fun _ => fun
  | [d] => { results := [.lit (.bool true)], args := [d] }
  | _ => none }
def fnWriteReadRow : OpenClaim := { program := "ytnbighmbgmjbkaagreat", sum := "07d696e2a75b8779d10d5cb8880c60ef3a8fa717fb7043398f498f1942345311", func := "loop.example/keelson/laws.FnWriteRead", spec := "fnWriteRead", unfollowed := true, recurses := true, apart := false }
def FnWriteReadSaid : Prop := fnWriteReadRow.holds Tryz.pinned (OpenSpec.ofChange fnWriteReadSpec)

/-- ITS FALSE NEIGHBOUR: 'it returns false'. Refute it at one input. -/
def fnWriteReadWrong : ChangeSpec := { name := "fnWriteRead", fn := fun _ => fun
  | [d] => { results := [.lit (.bool false)], args := [d] }
  | _ => none }
def FnWriteReadWrongFalsely : Prop := fnWriteReadRow.holds Tryz.pinned (OpenSpec.ofChange fnWriteReadWrong)

/-- 'laws.FnPatchHalf': WHATEVER THE INPUT: true; the input reads as it did. -/
def fnPatchHalfSpec : ChangeSpec := { name := "fnPatchHalf", fn := fun _ => fun
  | [d] => { results := [.lit (.bool true)], args := [d] }
  | _ => none }
def fnPatchHalfRow : OpenClaim := { program := "ytnbighmbgmjbkaagreat", sum := "07d696e2a75b8779d10d5cb8880c60ef3a8fa717fb7043398f498f1942345311", func := "loop.example/keelson/laws.FnPatchHalf", spec := "fnPatchHalf", unfollowed := true, recurses := true, apart := false }
def FnPatchHalfSaid : Prop := fnPatchHalfRow.holds Tryz.pinned (OpenSpec.ofChange fnPatchHalfSpec)

/-- ITS FALSE NEIGHBOUR: 'it returns false'. Refute it at one input. -/
def fnPatchHalfWrong : ChangeSpec := { name := "fnPatchHalf", fn := fun _ => fun
  | [d] => { results := [.lit (.bool false)], args := [d] }
  | _ => none }
def FnPatchHalfWrongFalsely : Prop := fnPatchHalfRow.holds Tryz.pinned (OpenSpec.ofChange fnPatchHalfWrong)

/-- 'laws.FnKeepRead': WHATEVER THE INPUT: true; the input reads as it did. -/
def fnKeepReadSpec : ChangeSpec := { name := "fnKeepRead", fn := fun _ => fun
  | [d] => { results := [.lit (.bool true)], args := [d] }
  | _ => none }
def fnKeepReadRow : OpenClaim := { program := "ytnbighmbgmjbkaagreat", sum := "07d696e2a75b8779d10d5cb8880c60ef3a8fa717fb7043398f498f1942345311", func := "loop.example/keelson/laws.FnKeepRead", spec := "fnKeepRead", unfollowed := true, recurses := true, apart := false }
def FnKeepReadSaid : Prop := fnKeepReadRow.holds Tryz.pinned (OpenSpec.ofChange fnKeepReadSpec)

/-- ITS FALSE NEIGHBOUR: 'it returns false'. Refute it at one input. -/
def fnKeepReadWrong : ChangeSpec := { name := "fnKeepRead", fn := fun _ => fun
  | [d] => { results := [.lit (.bool false)], args := [d] }
  | _ => none }
def FnKeepReadWrongFalsely : Prop := fnKeepReadRow.holds Tryz.pinned (OpenSpec.ofChange fnKeepReadWrong)

/-- 'laws.FnKeepLose': WHATEVER THE INPUT: true; the input reads as it did. -/
def fnKeepLoseSpec : ChangeSpec := { name := "fnKeepLose", fn := fun _ => fun
  | [d] => { results := [.lit (.bool true)], args := [d] }
  | _ => none }
def fnKeepLoseRow : OpenClaim := { program := "ytnbighmbgmjbkaagreat", sum := "07d696e2a75b8779d10d5cb8880c60ef3a8fa717fb7043398f498f1942345311", func := "loop.example/keelson/laws.FnKeepLose", spec := "fnKeepLose", unfollowed := true, recurses := true, apart := false }
def FnKeepLoseSaid : Prop := fnKeepLoseRow.holds Tryz.pinned (OpenSpec.ofChange fnKeepLoseSpec)

/-- ITS FALSE NEIGHBOUR: 'it returns false'. Refute it at one input. -/
def fnKeepLoseWrong : ChangeSpec := { name := "fnKeepLose", fn := fun _ => fun
  | [d] => { results := [.lit (.bool false)], args := [d] }
  | _ => none }
def FnKeepLoseWrongFalsely : Prop := fnKeepLoseRow.holds Tryz.pinned (OpenSpec.ofChange fnKeepLoseWrong)

/-- 'laws.FnKeepForm': WHATEVER THE INPUT: true; the input reads as it did. -/
def fnKeepFormSpec : ChangeSpec := { name := "fnKeepForm", fn := fun _ => fun
  | [d] => { results := [.lit (.bool true)], args := [d] }
  | _ => none }
def fnKeepFormRow : OpenClaim := { program := "ytnbighmbgmjbkaagreat", sum := "07d696e2a75b8779d10d5cb8880c60ef3a8fa717fb7043398f498f1942345311", func := "loop.example/keelson/laws.FnKeepForm", spec := "fnKeepForm", unfollowed := true, recurses := true, apart := false }
def FnKeepFormSaid : Prop := fnKeepFormRow.holds Tryz.pinned (OpenSpec.ofChange fnKeepFormSpec)

/-- ITS FALSE NEIGHBOUR: 'it returns false'. Refute it at one input. -/
def fnKeepFormWrong : ChangeSpec := { name := "fnKeepForm", fn := fun _ => fun
  | [d] => { results := [.lit (.bool false)], args := [d] }
  | _ => none }
def FnKeepFormWrongFalsely : Prop := fnKeepFormRow.holds Tryz.pinned (OpenSpec.ofChange fnKeepFormWrong)

/-- 'laws.FnTurnLeft': WHATEVER THE INPUT: true; the input reads as it did. -/
def fnTurnLeftSpec : ChangeSpec := { name := "fnTurnLeft", fn := fun _ => fun
  | [d1, d2] => { results := [.lit (.bool true)], args := [d1, d2] }
  | _ => none }
def fnTurnLeftRow : OpenClaim := { program := "ytnbighmbgmjbkaagreat", sum := "07d696e2a75b8779d10d5cb8880c60ef3a8fa717fb7043398f498f1942345311", func := "loop.example/keelson/laws.FnTurnLeft", spec := "fnTurnLeft", unfollowed := true, recurses := true, apart := false }
def FnTurnLeftSaid : Prop := fnTurnLeftRow.holds Tryz.pinned (OpenSpec.ofChange fnTurnLeftSpec)

/-- ITS FALSE NEIGHBOUR: 'it returns false'. Refute it at one input. -/
def fnTurnLeftWrong : ChangeSpec := { name := "fnTurnLeft", fn := fun _ => fun
  | [d1, d2] => { results := [.lit (.bool false)], args := [d1, d2] }
  | _ => none }
def FnTurnLeftWrongFalsely : Prop := fnTurnLeftRow.holds Tryz.pinned (OpenSpec.ofChange fnTurnLeftWrong)

/-- 'laws.FnBeginNot': WHATEVER THE INPUT: true; the input reads as it did. -/
def fnBeginNotSpec : ChangeSpec := { name := "fnBeginNot", fn := fun _ => fun
  | [d] => { results := [.lit (.bool true)], args := [d] }
  | _ => none }
def fnBeginNotRow : OpenClaim := { program := "ytnbighmbgmjbkaagreat", sum := "07d696e2a75b8779d10d5cb8880c60ef3a8fa717fb7043398f498f1942345311", func := "loop.example/keelson/laws.FnBeginNot", spec := "fnBeginNot", unfollowed := true, recurses := true, apart := false }
def FnBeginNotSaid : Prop := fnBeginNotRow.holds Tryz.pinned (OpenSpec.ofChange fnBeginNotSpec)

/-- ITS FALSE NEIGHBOUR: 'it returns false'. Refute it at one input. -/
def fnBeginNotWrong : ChangeSpec := { name := "fnBeginNot", fn := fun _ => fun
  | [d] => { results := [.lit (.bool false)], args := [d] }
  | _ => none }
def FnBeginNotWrongFalsely : Prop := fnBeginNotRow.holds Tryz.pinned (OpenSpec.ofChange fnBeginNotWrong)

/-- 'laws.FnKeepNew': WHATEVER THE INPUT: true; the input reads as it did. -/
def fnKeepNewSpec : ChangeSpec := { name := "fnKeepNew", fn := fun _ => fun
  | [d] => { results := [.lit (.bool true)], args := [d] }
  | _ => none }
def fnKeepNewRow : OpenClaim := { program := "ytnbighmbgmjbkaagreat", sum := "07d696e2a75b8779d10d5cb8880c60ef3a8fa717fb7043398f498f1942345311", func := "loop.example/keelson/laws.FnKeepNew", spec := "fnKeepNew", unfollowed := true, recurses := true, apart := false }
def FnKeepNewSaid : Prop := fnKeepNewRow.holds Tryz.pinned (OpenSpec.ofChange fnKeepNewSpec)

/-- ITS FALSE NEIGHBOUR: 'it returns false'. Refute it at one input. -/
def fnKeepNewWrong : ChangeSpec := { name := "fnKeepNew", fn := fun _ => fun
  | [d] => { results := [.lit (.bool false)], args := [d] }
  | _ => none }
def FnKeepNewWrongFalsely : Prop := fnKeepNewRow.holds Tryz.pinned (OpenSpec.ofChange fnKeepNewWrong)

/-- 'laws.FnLoseFew': WHATEVER THE INPUT: true; the input reads as it did. -/
def fnLoseFewSpec : ChangeSpec := { name := "fnLoseFew", fn := fun _ => fun
  | [d1, d2] => { results := [.lit (.bool true)], args := [d1, d2] }
  | _ => none }
def fnLoseFewRow : OpenClaim := { program := "ytnbighmbgmjbkaagreat", sum := "07d696e2a75b8779d10d5cb8880c60ef3a8fa717fb7043398f498f1942345311", func := "loop.example/keelson/laws.FnLoseFew", spec := "fnLoseFew", unfollowed := true, recurses := true, apart := false }
def FnLoseFewSaid : Prop := fnLoseFewRow.holds Tryz.pinned (OpenSpec.ofChange fnLoseFewSpec)

/-- ITS FALSE NEIGHBOUR: 'it returns false'. Refute it at one input. -/
def fnLoseFewWrong : ChangeSpec := { name := "fnLoseFew", fn := fun _ => fun
  | [d1, d2] => { results := [.lit (.bool false)], args := [d1, d2] }
  | _ => none }
def FnLoseFewWrongFalsely : Prop := fnLoseFewRow.holds Tryz.pinned (OpenSpec.ofChange fnLoseFewWrong)

/-- 'laws.FnWriteAll': WHATEVER THE INPUT: true; the input reads as it did. -/
def fnWriteAllSpec : ChangeSpec := { name := "fnWriteAll", fn := fun _ => fun
  | [d] => { results := [.lit (.bool true)], args := [d] }
  | _ => none }
def fnWriteAllRow : OpenClaim := { program := "ytnbighmbgmjbkaagreat", sum := "07d696e2a75b8779d10d5cb8880c60ef3a8fa717fb7043398f498f1942345311", func := "loop.example/keelson/laws.FnWriteAll", spec := "fnWriteAll", unfollowed := true, recurses := true, apart := false }
def FnWriteAllSaid : Prop := fnWriteAllRow.holds Tryz.pinned (OpenSpec.ofChange fnWriteAllSpec)

/-- ITS FALSE NEIGHBOUR: 'it returns false'. Refute it at one input. -/
def fnWriteAllWrong : ChangeSpec := { name := "fnWriteAll", fn := fun _ => fun
  | [d] => { results := [.lit (.bool false)], args := [d] }
  | _ => none }
def FnWriteAllWrongFalsely : Prop := fnWriteAllRow.holds Tryz.pinned (OpenSpec.ofChange fnWriteAllWrong)

/-- 'laws.FnMend': WHATEVER THE INPUT: true; the input reads as it did. -/
def fnMendSpec : ChangeSpec := { name := "fnMend", fn := fun _ => fun
  | [d] => { results := [.lit (.bool true)], args := [d] }
  | _ => none }
def fnMendRow : OpenClaim := { program := "ytnbighmbgmjbkaagreat", sum := "07d696e2a75b8779d10d5cb8880c60ef3a8fa717fb7043398f498f1942345311", func := "loop.example/keelson/laws.FnMend", spec := "fnMend", unfollowed := true, recurses := true, apart := false }
def FnMendSaid : Prop := fnMendRow.holds Tryz.pinned (OpenSpec.ofChange fnMendSpec)

/-- ITS FALSE NEIGHBOUR: 'it returns false'. Refute it at one input. -/
def fnMendWrong : ChangeSpec := { name := "fnMend", fn := fun _ => fun
  | [d] => { results := [.lit (.bool false)], args := [d] }
  | _ => none }
def FnMendWrongFalsely : Prop := fnMendRow.holds Tryz.pinned (OpenSpec.ofChange fnMendWrong)

/-- 'laws.FnMendFalse': WHATEVER THE INPUT: true; the input reads as it did. -/
def fnMendFalseSpec : ChangeSpec := { name := "fnMendFalse", fn := fun _ => fun
  | [d] => { results := [.lit (.bool true)], args := [d] }
  | _ => none }
def fnMendFalseRow : OpenClaim := { program := "ytnbighmbgmjbkaagreat", sum := "07d696e2a75b8779d10d5cb8880c60ef3a8fa717fb7043398f498f1942345311", func := "loop.example/keelson/laws.FnMendFalse", spec := "fnMendFalse", unfollowed := true, recurses := true, apart := false }
def FnMendFalseSaid : Prop := fnMendFalseRow.holds Tryz.pinned (OpenSpec.ofChange fnMendFalseSpec)

/-- ITS FALSE NEIGHBOUR: 'it returns false'. Refute it at one input. -/
def fnMendFalseWrong : ChangeSpec := { name := "fnMendFalse", fn := fun _ => fun
  | [d] => { results := [.lit (.bool false)], args := [d] }
  | _ => none }
def FnMendFalseWrongFalsely : Prop := fnMendFalseRow.holds Tryz.pinned (OpenSpec.ofChange fnMendFalseWrong)

/-- 'laws.FnMendAll': WHATEVER THE INPUT: true; the input reads as it did. -/
def fnMendAllSpec : ChangeSpec := { name := "fnMendAll", fn := fun _ => fun
  | [d] => { results := [.lit (.bool true)], args := [d] }
  | _ => none }
def fnMendAllRow : OpenClaim := { program := "ytnbighmbgmjbkaagreat", sum := "07d696e2a75b8779d10d5cb8880c60ef3a8fa717fb7043398f498f1942345311", func := "loop.example/keelson/laws.FnMendAll", spec := "fnMendAll", unfollowed := true, recurses := true, apart := false }
def FnMendAllSaid : Prop := fnMendAllRow.holds Tryz.pinned (OpenSpec.ofChange fnMendAllSpec)

/-- ITS FALSE NEIGHBOUR: 'it returns false'. Refute it at one input. -/
def fnMendAllWrong : ChangeSpec := { name := "fnMendAll", fn := fun _ => fun
  | [d] => { results := [.lit (.bool false)], args := [d] }
  | _ => none }
def FnMendAllWrongFalsely : Prop := fnMendAllRow.holds Tryz.pinned (OpenSpec.ofChange fnMendAllWrong)

/-- 'laws.FnMendLost': WHATEVER THE INPUT: true; the input reads as it did. -/
def fnMendLostSpec : ChangeSpec := { name := "fnMendLost", fn := fun _ => fun
  | [d1, d2] => { results := [.lit (.bool true)], args := [d1, d2] }
  | _ => none }
def fnMendLostRow : OpenClaim := { program := "ytnbighmbgmjbkaagreat", sum := "07d696e2a75b8779d10d5cb8880c60ef3a8fa717fb7043398f498f1942345311", func := "loop.example/keelson/laws.FnMendLost", spec := "fnMendLost", unfollowed := true, recurses := true, apart := false }
def FnMendLostSaid : Prop := fnMendLostRow.holds Tryz.pinned (OpenSpec.ofChange fnMendLostSpec)

/-- ITS FALSE NEIGHBOUR: 'it returns false'. Refute it at one input. -/
def fnMendLostWrong : ChangeSpec := { name := "fnMendLost", fn := fun _ => fun
  | [d1, d2] => { results := [.lit (.bool false)], args := [d1, d2] }
  | _ => none }
def FnMendLostWrongFalsely : Prop := fnMendLostRow.holds Tryz.pinned (OpenSpec.ofChange fnMendLostWrong)

/-- 'laws.FnExactStripeMend': WHATEVER THE INPUT: true; the input reads as it did. -/
def fnExactStripeMendSpec : ChangeSpec := { name := "fnExactStripeMend", fn := fun _ => fun
  | [d1, d2] => { results := [.lit (.bool true)], args := [d1, d2] }
  | _ => none }
def fnExactStripeMendRow : OpenClaim := { program := "ytnbighmbgmjbkaagreat", sum := "07d696e2a75b8779d10d5cb8880c60ef3a8fa717fb7043398f498f1942345311", func := "loop.example/keelson/laws.FnExactStripeMend", spec := "fnExactStripeMend", unfollowed := true, recurses := true, apart := false }
def FnExactStripeMendSaid : Prop := fnExactStripeMendRow.holds Tryz.pinned (OpenSpec.ofChange fnExactStripeMendSpec)

/-- ITS FALSE NEIGHBOUR: 'it returns false'. Refute it at one input. -/
def fnExactStripeMendWrong : ChangeSpec := { name := "fnExactStripeMend", fn := fun _ => fun
  | [d1, d2] => { results := [.lit (.bool false)], args := [d1, d2] }
  | _ => none }
def FnExactStripeMendWrongFalsely : Prop := fnExactStripeMendRow.holds Tryz.pinned (OpenSpec.ofChange fnExactStripeMendWrong)

/-- 'laws.FnExactRotMend': WHATEVER THE INPUT: true; the input reads as it did. -/
def fnExactRotMendSpec : ChangeSpec := { name := "fnExactRotMend", fn := fun _ => fun
  | [d1, d2] => { results := [.lit (.bool true)], args := [d1, d2] }
  | _ => none }
def fnExactRotMendRow : OpenClaim := { program := "ytnbighmbgmjbkaagreat", sum := "07d696e2a75b8779d10d5cb8880c60ef3a8fa717fb7043398f498f1942345311", func := "loop.example/keelson/laws.FnExactRotMend", spec := "fnExactRotMend", unfollowed := true, recurses := true, apart := false }
def FnExactRotMendSaid : Prop := fnExactRotMendRow.holds Tryz.pinned (OpenSpec.ofChange fnExactRotMendSpec)

/-- ITS FALSE NEIGHBOUR: 'it returns false'. Refute it at one input. -/
def fnExactRotMendWrong : ChangeSpec := { name := "fnExactRotMend", fn := fun _ => fun
  | [d1, d2] => { results := [.lit (.bool false)], args := [d1, d2] }
  | _ => none }
def FnExactRotMendWrongFalsely : Prop := fnExactRotMendRow.holds Tryz.pinned (OpenSpec.ofChange fnExactRotMendWrong)

/-- 'laws.FnRotFew': WHATEVER THE INPUT: true; the input reads as it did. -/
def fnRotFewSpec : ChangeSpec := { name := "fnRotFew", fn := fun _ => fun
  | [d1, d2] => { results := [.lit (.bool true)], args := [d1, d2] }
  | _ => none }
def fnRotFewRow : OpenClaim := { program := "ytnbighmbgmjbkaagreat", sum := "07d696e2a75b8779d10d5cb8880c60ef3a8fa717fb7043398f498f1942345311", func := "loop.example/keelson/laws.FnRotFew", spec := "fnRotFew", unfollowed := true, recurses := true, apart := false }
def FnRotFewSaid : Prop := fnRotFewRow.holds Tryz.pinned (OpenSpec.ofChange fnRotFewSpec)

/-- ITS FALSE NEIGHBOUR: 'it returns false'. Refute it at one input. -/
def fnRotFewWrong : ChangeSpec := { name := "fnRotFew", fn := fun _ => fun
  | [d1, d2] => { results := [.lit (.bool false)], args := [d1, d2] }
  | _ => none }
def FnRotFewWrongFalsely : Prop := fnRotFewRow.holds Tryz.pinned (OpenSpec.ofChange fnRotFewWrong)

/- THE SECOND FORM. 'bulk': how many values and letters a reading holds, each counted each time it is reached (what is shared counts as often as it is met; a slice's spare places count too). A statement '..UptoSaid' is the law's where the arguments, and the package variables that the reading takes, are together of bulk at most 1048576: NARROWER than '..Said'. Prove '..Said' where nothing that the law and all that it calls make is longer than what came in: it says more and counts as full. Else prove '..UptoSaid'. A law counts once. -/
mutual
def uptoBulk {H : Type} : DataW H → Nat
  | .lit (.string bytes) => bytes.length + 1
  | .lit _ => 1
  | .nil => 1
  | .ptr d => uptoBulk d + 1
  | .slice elems spare => uptoBulkAll elems + uptoBulkAll spare + 1
  | .agg parts => uptoBulkAll parts + 1
  | .iface _ d => uptoBulk d + 1
  | .map entries => uptoBulkEntries entries + 1
  | .held _ => 1
def uptoBulkAll {H : Type} : List (DataW H) → Nat
  | [] => 0
  | d :: r => uptoBulk d + uptoBulkAll r
def uptoBulkEntries {H : Type} : List (Lit × DataW H) → Nat
  | [] => 0
  | x :: r => uptoBulkEntry x + uptoBulkEntries r
def uptoBulkEntry {H : Type} : Lit × DataW H → Nat
  | (.string bytes, d) => bytes.length + uptoBulk d + 1
  | (_, d) => uptoBulk d + 1
 end
def uptoSmall : (H : Type) → List (DataW H) → Bool := fun _ ds => decide (uptoBulkAll ds ≤ 1048576)
def OpenSpec.upto (s : _root_.Go.ChangeSpec) : _root_.Go.OpenSpec := { _root_.Go.OpenSpec.ofChange s with cond := some uptoSmall }

/-- 'laws.FnWriteRead', WHERE WHAT IT READS IS OF BULK AT MOST 1048576: true; the input reads as it did. -/
def fnWriteReadUptoRow : OpenClaim := { program := "ytnbighmbgmjbkaagreat", sum := "07d696e2a75b8779d10d5cb8880c60ef3a8fa717fb7043398f498f1942345311", func := "loop.example/keelson/laws.FnWriteRead", spec := "fnWriteRead", unfollowed := true, recurses := true, apart := false, narrowed := true }
def FnWriteReadUptoSaid : Prop := fnWriteReadUptoRow.holds Tryz.pinned (OpenSpec.upto fnWriteReadSpec)

/-- 'laws.FnPatchHalf', WHERE WHAT IT READS IS OF BULK AT MOST 1048576: true; the input reads as it did. -/
def fnPatchHalfUptoRow : OpenClaim := { program := "ytnbighmbgmjbkaagreat", sum := "07d696e2a75b8779d10d5cb8880c60ef3a8fa717fb7043398f498f1942345311", func := "loop.example/keelson/laws.FnPatchHalf", spec := "fnPatchHalf", unfollowed := true, recurses := true, apart := false, narrowed := true }
def FnPatchHalfUptoSaid : Prop := fnPatchHalfUptoRow.holds Tryz.pinned (OpenSpec.upto fnPatchHalfSpec)

/-- 'laws.FnKeepRead', WHERE WHAT IT READS IS OF BULK AT MOST 1048576: true; the input reads as it did. -/
def fnKeepReadUptoRow : OpenClaim := { program := "ytnbighmbgmjbkaagreat", sum := "07d696e2a75b8779d10d5cb8880c60ef3a8fa717fb7043398f498f1942345311", func := "loop.example/keelson/laws.FnKeepRead", spec := "fnKeepRead", unfollowed := true, recurses := true, apart := false, narrowed := true }
def FnKeepReadUptoSaid : Prop := fnKeepReadUptoRow.holds Tryz.pinned (OpenSpec.upto fnKeepReadSpec)

/-- 'laws.FnKeepLose', WHERE WHAT IT READS IS OF BULK AT MOST 1048576: true; the input reads as it did. -/
def fnKeepLoseUptoRow : OpenClaim := { program := "ytnbighmbgmjbkaagreat", sum := "07d696e2a75b8779d10d5cb8880c60ef3a8fa717fb7043398f498f1942345311", func := "loop.example/keelson/laws.FnKeepLose", spec := "fnKeepLose", unfollowed := true, recurses := true, apart := false, narrowed := true }
def FnKeepLoseUptoSaid : Prop := fnKeepLoseUptoRow.holds Tryz.pinned (OpenSpec.upto fnKeepLoseSpec)

/-- 'laws.FnKeepForm', WHERE WHAT IT READS IS OF BULK AT MOST 1048576: true; the input reads as it did. -/
def fnKeepFormUptoRow : OpenClaim := { program := "ytnbighmbgmjbkaagreat", sum := "07d696e2a75b8779d10d5cb8880c60ef3a8fa717fb7043398f498f1942345311", func := "loop.example/keelson/laws.FnKeepForm", spec := "fnKeepForm", unfollowed := true, recurses := true, apart := false, narrowed := true }
def FnKeepFormUptoSaid : Prop := fnKeepFormUptoRow.holds Tryz.pinned (OpenSpec.upto fnKeepFormSpec)

/-- 'laws.FnTurnLeft', WHERE WHAT IT READS IS OF BULK AT MOST 1048576: true; the input reads as it did. -/
def fnTurnLeftUptoRow : OpenClaim := { program := "ytnbighmbgmjbkaagreat", sum := "07d696e2a75b8779d10d5cb8880c60ef3a8fa717fb7043398f498f1942345311", func := "loop.example/keelson/laws.FnTurnLeft", spec := "fnTurnLeft", unfollowed := true, recurses := true, apart := false, narrowed := true }
def FnTurnLeftUptoSaid : Prop := fnTurnLeftUptoRow.holds Tryz.pinned (OpenSpec.upto fnTurnLeftSpec)

/-- 'laws.FnBeginNot', WHERE WHAT IT READS IS OF BULK AT MOST 1048576: true; the input reads as it did. -/
def fnBeginNotUptoRow : OpenClaim := { program := "ytnbighmbgmjbkaagreat", sum := "07d696e2a75b8779d10d5cb8880c60ef3a8fa717fb7043398f498f1942345311", func := "loop.example/keelson/laws.FnBeginNot", spec := "fnBeginNot", unfollowed := true, recurses := true, apart := false, narrowed := true }
def FnBeginNotUptoSaid : Prop := fnBeginNotUptoRow.holds Tryz.pinned (OpenSpec.upto fnBeginNotSpec)

/-- 'laws.FnKeepNew', WHERE WHAT IT READS IS OF BULK AT MOST 1048576: true; the input reads as it did. -/
def fnKeepNewUptoRow : OpenClaim := { program := "ytnbighmbgmjbkaagreat", sum := "07d696e2a75b8779d10d5cb8880c60ef3a8fa717fb7043398f498f1942345311", func := "loop.example/keelson/laws.FnKeepNew", spec := "fnKeepNew", unfollowed := true, recurses := true, apart := false, narrowed := true }
def FnKeepNewUptoSaid : Prop := fnKeepNewUptoRow.holds Tryz.pinned (OpenSpec.upto fnKeepNewSpec)

/-- 'laws.FnLoseFew', WHERE WHAT IT READS IS OF BULK AT MOST 1048576: true; the input reads as it did. -/
def fnLoseFewUptoRow : OpenClaim := { program := "ytnbighmbgmjbkaagreat", sum := "07d696e2a75b8779d10d5cb8880c60ef3a8fa717fb7043398f498f1942345311", func := "loop.example/keelson/laws.FnLoseFew", spec := "fnLoseFew", unfollowed := true, recurses := true, apart := false, narrowed := true }
def FnLoseFewUptoSaid : Prop := fnLoseFewUptoRow.holds Tryz.pinned (OpenSpec.upto fnLoseFewSpec)

/-- 'laws.FnWriteAll', WHERE WHAT IT READS IS OF BULK AT MOST 1048576: true; the input reads as it did. -/
def fnWriteAllUptoRow : OpenClaim := { program := "ytnbighmbgmjbkaagreat", sum := "07d696e2a75b8779d10d5cb8880c60ef3a8fa717fb7043398f498f1942345311", func := "loop.example/keelson/laws.FnWriteAll", spec := "fnWriteAll", unfollowed := true, recurses := true, apart := false, narrowed := true }
def FnWriteAllUptoSaid : Prop := fnWriteAllUptoRow.holds Tryz.pinned (OpenSpec.upto fnWriteAllSpec)

/-- 'laws.FnMend', WHERE WHAT IT READS IS OF BULK AT MOST 1048576: true; the input reads as it did. -/
def fnMendUptoRow : OpenClaim := { program := "ytnbighmbgmjbkaagreat", sum := "07d696e2a75b8779d10d5cb8880c60ef3a8fa717fb7043398f498f1942345311", func := "loop.example/keelson/laws.FnMend", spec := "fnMend", unfollowed := true, recurses := true, apart := false, narrowed := true }
def FnMendUptoSaid : Prop := fnMendUptoRow.holds Tryz.pinned (OpenSpec.upto fnMendSpec)

/-- 'laws.FnMendFalse', WHERE WHAT IT READS IS OF BULK AT MOST 1048576: true; the input reads as it did. -/
def fnMendFalseUptoRow : OpenClaim := { program := "ytnbighmbgmjbkaagreat", sum := "07d696e2a75b8779d10d5cb8880c60ef3a8fa717fb7043398f498f1942345311", func := "loop.example/keelson/laws.FnMendFalse", spec := "fnMendFalse", unfollowed := true, recurses := true, apart := false, narrowed := true }
def FnMendFalseUptoSaid : Prop := fnMendFalseUptoRow.holds Tryz.pinned (OpenSpec.upto fnMendFalseSpec)

/-- 'laws.FnMendAll', WHERE WHAT IT READS IS OF BULK AT MOST 1048576: true; the input reads as it did. -/
def fnMendAllUptoRow : OpenClaim := { program := "ytnbighmbgmjbkaagreat", sum := "07d696e2a75b8779d10d5cb8880c60ef3a8fa717fb7043398f498f1942345311", func := "loop.example/keelson/laws.FnMendAll", spec := "fnMendAll", unfollowed := true, recurses := true, apart := false, narrowed := true }
def FnMendAllUptoSaid : Prop := fnMendAllUptoRow.holds Tryz.pinned (OpenSpec.upto fnMendAllSpec)

/-- 'laws.FnMendLost', WHERE WHAT IT READS IS OF BULK AT MOST 1048576: true; the input reads as it did. -/
def fnMendLostUptoRow : OpenClaim := { program := "ytnbighmbgmjbkaagreat", sum := "07d696e2a75b8779d10d5cb8880c60ef3a8fa717fb7043398f498f1942345311", func := "loop.example/keelson/laws.FnMendLost", spec := "fnMendLost", unfollowed := true, recurses := true, apart := false, narrowed := true }
def FnMendLostUptoSaid : Prop := fnMendLostUptoRow.holds Tryz.pinned (OpenSpec.upto fnMendLostSpec)

/-- 'laws.FnExactStripeMend', WHERE WHAT IT READS IS OF BULK AT MOST 1048576: true; the input reads as it did. -/
def fnExactStripeMendUptoRow : OpenClaim := { program := "ytnbighmbgmjbkaagreat", sum := "07d696e2a75b8779d10d5cb8880c60ef3a8fa717fb7043398f498f1942345311", func := "loop.example/keelson/laws.FnExactStripeMend", spec := "fnExactStripeMend", unfollowed := true, recurses := true, apart := false, narrowed := true }
def FnExactStripeMendUptoSaid : Prop := fnExactStripeMendUptoRow.holds Tryz.pinned (OpenSpec.upto fnExactStripeMendSpec)

/-- 'laws.FnExactRotMend', WHERE WHAT IT READS IS OF BULK AT MOST 1048576: true; the input reads as it did. -/
def fnExactRotMendUptoRow : OpenClaim := { program := "ytnbighmbgmjbkaagreat", sum := "07d696e2a75b8779d10d5cb8880c60ef3a8fa717fb7043398f498f1942345311", func := "loop.example/keelson/laws.FnExactRotMend", spec := "fnExactRotMend", unfollowed := true, recurses := true, apart := false, narrowed := true }
def FnExactRotMendUptoSaid : Prop := fnExactRotMendUptoRow.holds Tryz.pinned (OpenSpec.upto fnExactRotMendSpec)

/-- 'laws.FnRotFew', WHERE WHAT IT READS IS OF BULK AT MOST 1048576: true; the input reads as it did. -/
def fnRotFewUptoRow : OpenClaim := { program := "ytnbighmbgmjbkaagreat", sum := "07d696e2a75b8779d10d5cb8880c60ef3a8fa717fb7043398f498f1942345311", func := "loop.example/keelson/laws.FnRotFew", spec := "fnRotFew", unfollowed := true, recurses := true, apart := false, narrowed := true }
def FnRotFewUptoSaid : Prop := fnRotFewUptoRow.holds Tryz.pinned (OpenSpec.upto fnRotFewSpec)

end Rows
end Go.Proofs.YtnbighmbgmjbkaaGreat
