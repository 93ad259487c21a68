/-
  No cell of these rows narrows 'for every input' (looked for: loops, veiled, ifaces, maps, wideKeys, modest, calm, conditions, laid).
  DERIVED. THE GIVEN ROWS OF THIS SEAT. 17 by the template 'for every input the law returns true; each argument reads behind the call as it read before'; 0 by the template 'total and deterministic' (their statements: YtechafkfchmggaaGreatTotals.lean).
  GIVEN WITH THE SEED: the statements are not yours to turn. If you find one false, say at which input.
  Laid BY PROGRAM, IN A SANDBOX (cutbox-rows.mjs): the forced cells as the released guide's own fill.sh prints them over the translation 79899d778998a27e… (all of the seat's roots in one cut). By AI agents, Wed Nov 11 2026. No macro, syntax, notation, axiom, sorry.
-/
import Derived.Test.YtechafkfchmggaaGreatChecked
import GoSem.Claim
import GoSem.ClaimJoined
import GoSem.ClaimMapViews
import Derived.JoinedTies
import Derived.KernelRfl
namespace Go.Proofs.YtechafkfchmggaaGreat
/- THE CELL 'sum', in the pinned program and in every row, IS THE sha256 OF THE DUMP (.gsa) THAT YtechafkfchmggaaGreatProg.lean LOADS. Nothing in Lean hashes anything: it is a label: what it is worth is what the hold of that sum in a sandbox is worth. -/
noncomputable def Tryz.pinned : Pinned := { name := "ytechafkfchmggaagreat", sum := "79899d778998a27e8d20bc8872b0d86c015ba7918664e840a2bc78d3bb709e8d", checked := Tryz.checked }
namespace Rows
def none {H : Type} : Left H := { results := [], args := [] }

/-- 'laws.FnExactStripeWrite': WHATEVER THE INPUT: true; the input reads as it did. -/
def fnExactStripeWriteSpec : ChangeSpec := { name := "fnExactStripeWrite", fn := fun _ => fun
  | [d1, d2, d3] => { results := [.lit (.bool true)], args := [d1, d2, d3] }
  | _ => none }
def fnExactStripeWriteRow : OpenClaim := { program := "ytechafkfchmggaagreat", sum := "79899d778998a27e8d20bc8872b0d86c015ba7918664e840a2bc78d3bb709e8d", func := "loop.example/keelson/laws.FnExactStripeWrite", spec := "fnExactStripeWrite", unfollowed := true, recurses := true, apart := false }
def FnExactStripeWriteSaid : Prop := fnExactStripeWriteRow.holds Tryz.pinned (OpenSpec.ofChange fnExactStripeWriteSpec)

/-- ITS FALSE NEIGHBOUR: 'it returns false'. Refute it at one input. -/
def fnExactStripeWriteWrong : ChangeSpec := { name := "fnExactStripeWrite", fn := fun _ => fun
  | [d1, d2, d3] => { results := [.lit (.bool false)], args := [d1, d2, d3] }
  | _ => none }
def FnExactStripeWriteWrongFalsely : Prop := fnExactStripeWriteRow.holds Tryz.pinned (OpenSpec.ofChange fnExactStripeWriteWrong)

/-- 'laws.FnRotWrite': WHATEVER THE INPUT: true; the input reads as it did. -/
def fnRotWriteSpec : ChangeSpec := { name := "fnRotWrite", fn := fun _ => fun
  | [d] => { results := [.lit (.bool true)], args := [d] }
  | _ => none }
def fnRotWriteRow : OpenClaim := { program := "ytechafkfchmggaagreat", sum := "79899d778998a27e8d20bc8872b0d86c015ba7918664e840a2bc78d3bb709e8d", func := "loop.example/keelson/laws.FnRotWrite", spec := "fnRotWrite", unfollowed := true, recurses := true, apart := false }
def FnRotWriteSaid : Prop := fnRotWriteRow.holds Tryz.pinned (OpenSpec.ofChange fnRotWriteSpec)

/-- ITS FALSE NEIGHBOUR: 'it returns false'. Refute it at one input. -/
def fnRotWriteWrong : ChangeSpec := { name := "fnRotWrite", fn := fun _ => fun
  | [d] => { results := [.lit (.bool false)], args := [d] }
  | _ => none }
def FnRotWriteWrongFalsely : Prop := fnRotWriteRow.holds Tryz.pinned (OpenSpec.ofChange fnRotWriteWrong)

/-- 'laws.FnRotRead': WHATEVER THE INPUT: true; the input reads as it did. -/
def fnRotReadSpec : ChangeSpec := { name := "fnRotRead", fn := fun _ => fun
  | [d] => { results := [.lit (.bool true)], args := [d] }
  | _ => none }
def fnRotReadRow : OpenClaim := { program := "ytechafkfchmggaagreat", sum := "79899d778998a27e8d20bc8872b0d86c015ba7918664e840a2bc78d3bb709e8d", func := "loop.example/keelson/laws.FnRotRead", spec := "fnRotRead", unfollowed := true, recurses := true, apart := false }
def FnRotReadSaid : Prop := fnRotReadRow.holds Tryz.pinned (OpenSpec.ofChange fnRotReadSpec)

/-- ITS FALSE NEIGHBOUR: 'it returns false'. Refute it at one input. -/
def fnRotReadWrong : ChangeSpec := { name := "fnRotRead", fn := fun _ => fun
  | [d] => { results := [.lit (.bool false)], args := [d] }
  | _ => none }
def FnRotReadWrongFalsely : Prop := fnRotReadRow.holds Tryz.pinned (OpenSpec.ofChange fnRotReadWrong)

/-- 'laws.FnRotOne': WHATEVER THE INPUT: true; the input reads as it did. -/
def fnRotOneSpec : ChangeSpec := { name := "fnRotOne", fn := fun _ => fun
  | [d1, d2] => { results := [.lit (.bool true)], args := [d1, d2] }
  | _ => none }
def fnRotOneRow : OpenClaim := { program := "ytechafkfchmggaagreat", sum := "79899d778998a27e8d20bc8872b0d86c015ba7918664e840a2bc78d3bb709e8d", func := "loop.example/keelson/laws.FnRotOne", spec := "fnRotOne", unfollowed := true, recurses := true, apart := false }
def FnRotOneSaid : Prop := fnRotOneRow.holds Tryz.pinned (OpenSpec.ofChange fnRotOneSpec)

/-- ITS FALSE NEIGHBOUR: 'it returns false'. Refute it at one input. -/
def fnRotOneWrong : ChangeSpec := { name := "fnRotOne", fn := fun _ => fun
  | [d1, d2] => { results := [.lit (.bool false)], args := [d1, d2] }
  | _ => none }
def FnRotOneWrongFalsely : Prop := fnRotOneRow.holds Tryz.pinned (OpenSpec.ofChange fnRotOneWrong)

/-- 'laws.FnStripeForm': WHATEVER THE INPUT: true; the input reads as it did. -/
def fnStripeFormSpec : ChangeSpec := { name := "fnStripeForm", fn := fun _ => fun
  | [d1, d2] => { results := [.lit (.bool true)], args := [d1, d2] }
  | _ => none }
def fnStripeFormRow : OpenClaim := { program := "ytechafkfchmggaagreat", sum := "79899d778998a27e8d20bc8872b0d86c015ba7918664e840a2bc78d3bb709e8d", func := "loop.example/keelson/laws.FnStripeForm", spec := "fnStripeForm", unfollowed := true, recurses := true, apart := false }
def FnStripeFormSaid : Prop := fnStripeFormRow.holds Tryz.pinned (OpenSpec.ofChange fnStripeFormSpec)

/-- ITS FALSE NEIGHBOUR: 'it returns false'. Refute it at one input. -/
def fnStripeFormWrong : ChangeSpec := { name := "fnStripeForm", fn := fun _ => fun
  | [d1, d2] => { results := [.lit (.bool false)], args := [d1, d2] }
  | _ => none }
def FnStripeFormWrongFalsely : Prop := fnStripeFormRow.holds Tryz.pinned (OpenSpec.ofChange fnStripeFormWrong)

/-- 'laws.FnWrite': WHATEVER THE INPUT: true; the input reads as it did. -/
def fnWriteSpec : ChangeSpec := { name := "fnWrite", fn := fun _ => fun
  | [d] => { results := [.lit (.bool true)], args := [d] }
  | _ => none }
def fnWriteRow : OpenClaim := { program := "ytechafkfchmggaagreat", sum := "79899d778998a27e8d20bc8872b0d86c015ba7918664e840a2bc78d3bb709e8d", func := "loop.example/keelson/laws.FnWrite", spec := "fnWrite", unfollowed := true, recurses := true, apart := false }
def FnWriteSaid : Prop := fnWriteRow.holds Tryz.pinned (OpenSpec.ofChange fnWriteSpec)

/-- ITS FALSE NEIGHBOUR: 'it returns false'. Refute it at one input. -/
def fnWriteWrong : ChangeSpec := { name := "fnWrite", fn := fun _ => fun
  | [d] => { results := [.lit (.bool false)], args := [d] }
  | _ => none }
def FnWriteWrongFalsely : Prop := fnWriteRow.holds Tryz.pinned (OpenSpec.ofChange fnWriteWrong)

/-- 'laws.FnLose': WHATEVER THE INPUT: true; the input reads as it did. -/
def fnLoseSpec : ChangeSpec := { name := "fnLose", fn := fun _ => fun
  | [d] => { results := [.lit (.bool true)], args := [d] }
  | _ => none }
def fnLoseRow : OpenClaim := { program := "ytechafkfchmggaagreat", sum := "79899d778998a27e8d20bc8872b0d86c015ba7918664e840a2bc78d3bb709e8d", func := "loop.example/keelson/laws.FnLose", spec := "fnLose", unfollowed := true, recurses := true, apart := false }
def FnLoseSaid : Prop := fnLoseRow.holds Tryz.pinned (OpenSpec.ofChange fnLoseSpec)

/-- ITS FALSE NEIGHBOUR: 'it returns false'. Refute it at one input. -/
def fnLoseWrong : ChangeSpec := { name := "fnLose", fn := fun _ => fun
  | [d] => { results := [.lit (.bool false)], args := [d] }
  | _ => none }
def FnLoseWrongFalsely : Prop := fnLoseRow.holds Tryz.pinned (OpenSpec.ofChange fnLoseWrong)

/-- 'laws.FnWriteRead': WHATEVER THE INPUT: true; the input reads as it did. -/
def fnWriteReadSpec : ChangeSpec := { name := "fnWriteRead", fn := fun _ => fun
  | [d] => { results := [.lit (.bool true)], args := [d] }
  | _ => none }
def fnWriteReadRow : OpenClaim := { program := "ytechafkfchmggaagreat", sum := "79899d778998a27e8d20bc8872b0d86c015ba7918664e840a2bc78d3bb709e8d", func := "loop.example/keelson/laws.FnWriteRead", spec := "fnWriteRead", unfollowed := true, recurses := true, apart := false }
def FnWriteReadSaid : Prop := fnWriteReadRow.holds Tryz.pinned (OpenSpec.ofChange fnWriteReadSpec)

/-- ITS FALSE NEIGHBOUR: 'it returns false'. Refute it at one input. -/
def fnWriteReadWrong : ChangeSpec := { name := "fnWriteRead", fn := fun _ => fun
  | [d] => { results := [.lit (.bool false)], args := [d] }
  | _ => none }
def FnWriteReadWrongFalsely : Prop := fnWriteReadRow.holds Tryz.pinned (OpenSpec.ofChange fnWriteReadWrong)

/-- 'laws.FnWriteTwo': WHATEVER THE INPUT: true; the input reads as it did. -/
def fnWriteTwoSpec : ChangeSpec := { name := "fnWriteTwo", fn := fun _ => fun
  | [d1, d2] => { results := [.lit (.bool true)], args := [d1, d2] }
  | _ => none }
def fnWriteTwoRow : OpenClaim := { program := "ytechafkfchmggaagreat", sum := "79899d778998a27e8d20bc8872b0d86c015ba7918664e840a2bc78d3bb709e8d", func := "loop.example/keelson/laws.FnWriteTwo", spec := "fnWriteTwo", unfollowed := true, recurses := true, apart := false }
def FnWriteTwoSaid : Prop := fnWriteTwoRow.holds Tryz.pinned (OpenSpec.ofChange fnWriteTwoSpec)

/-- ITS FALSE NEIGHBOUR: 'it returns false'. Refute it at one input. -/
def fnWriteTwoWrong : ChangeSpec := { name := "fnWriteTwo", fn := fun _ => fun
  | [d1, d2] => { results := [.lit (.bool false)], args := [d1, d2] }
  | _ => none }
def FnWriteTwoWrongFalsely : Prop := fnWriteTwoRow.holds Tryz.pinned (OpenSpec.ofChange fnWriteTwoWrong)

/-- 'laws.FnExactPatchDo': WHATEVER THE INPUT: true; the input reads as it did. -/
def fnExactPatchDoSpec : ChangeSpec := { name := "fnExactPatchDo", fn := fun _ => fun
  | [d1, d2, d3] => { results := [.lit (.bool true)], args := [d1, d2, d3] }
  | _ => none }
def fnExactPatchDoRow : OpenClaim := { program := "ytechafkfchmggaagreat", sum := "79899d778998a27e8d20bc8872b0d86c015ba7918664e840a2bc78d3bb709e8d", func := "loop.example/keelson/laws.FnExactPatchDo", spec := "fnExactPatchDo", unfollowed := true, recurses := true, apart := false }
def FnExactPatchDoSaid : Prop := fnExactPatchDoRow.holds Tryz.pinned (OpenSpec.ofChange fnExactPatchDoSpec)

/-- ITS FALSE NEIGHBOUR: 'it returns false'. Refute it at one input. -/
def fnExactPatchDoWrong : ChangeSpec := { name := "fnExactPatchDo", fn := fun _ => fun
  | [d1, d2, d3] => { results := [.lit (.bool false)], args := [d1, d2, d3] }
  | _ => none }
def FnExactPatchDoWrongFalsely : Prop := fnExactPatchDoRow.holds Tryz.pinned (OpenSpec.ofChange fnExactPatchDoWrong)

/-- 'laws.FnPatchDo': WHATEVER THE INPUT: true; the input reads as it did. -/
def fnPatchDoSpec : ChangeSpec := { name := "fnPatchDo", fn := fun _ => fun
  | [d] => { results := [.lit (.bool true)], args := [d] }
  | _ => none }
def fnPatchDoRow : OpenClaim := { program := "ytechafkfchmggaagreat", sum := "79899d778998a27e8d20bc8872b0d86c015ba7918664e840a2bc78d3bb709e8d", func := "loop.example/keelson/laws.FnPatchDo", spec := "fnPatchDo", unfollowed := true, recurses := true, apart := false }
def FnPatchDoSaid : Prop := fnPatchDoRow.holds Tryz.pinned (OpenSpec.ofChange fnPatchDoSpec)

/-- ITS FALSE NEIGHBOUR: 'it returns false'. Refute it at one input. -/
def fnPatchDoWrong : ChangeSpec := { name := "fnPatchDo", fn := fun _ => fun
  | [d] => { results := [.lit (.bool false)], args := [d] }
  | _ => none }
def FnPatchDoWrongFalsely : Prop := fnPatchDoRow.holds Tryz.pinned (OpenSpec.ofChange fnPatchDoWrong)

/-- 'laws.FnPatchHalf': WHATEVER THE INPUT: true; the input reads as it did. -/
def fnPatchHalfSpec : ChangeSpec := { name := "fnPatchHalf", fn := fun _ => fun
  | [d] => { results := [.lit (.bool true)], args := [d] }
  | _ => none }
def fnPatchHalfRow : OpenClaim := { program := "ytechafkfchmggaagreat", sum := "79899d778998a27e8d20bc8872b0d86c015ba7918664e840a2bc78d3bb709e8d", func := "loop.example/keelson/laws.FnPatchHalf", spec := "fnPatchHalf", unfollowed := true, recurses := true, apart := false }
def FnPatchHalfSaid : Prop := fnPatchHalfRow.holds Tryz.pinned (OpenSpec.ofChange fnPatchHalfSpec)

/-- ITS FALSE NEIGHBOUR: 'it returns false'. Refute it at one input. -/
def fnPatchHalfWrong : ChangeSpec := { name := "fnPatchHalf", fn := fun _ => fun
  | [d] => { results := [.lit (.bool false)], args := [d] }
  | _ => none }
def FnPatchHalfWrongFalsely : Prop := fnPatchHalfRow.holds Tryz.pinned (OpenSpec.ofChange fnPatchHalfWrong)

/-- 'laws.FnExactKeepOk': WHATEVER THE INPUT: true; the input reads as it did. -/
def fnExactKeepOkSpec : ChangeSpec := { name := "fnExactKeepOk", fn := fun _ => fun
  | [d] => { results := [.lit (.bool true)], args := [d] }
  | _ => none }
def fnExactKeepOkRow : OpenClaim := { program := "ytechafkfchmggaagreat", sum := "79899d778998a27e8d20bc8872b0d86c015ba7918664e840a2bc78d3bb709e8d", func := "loop.example/keelson/laws.FnExactKeepOk", spec := "fnExactKeepOk", unfollowed := true, recurses := true, apart := false }
def FnExactKeepOkSaid : Prop := fnExactKeepOkRow.holds Tryz.pinned (OpenSpec.ofChange fnExactKeepOkSpec)

/-- ITS FALSE NEIGHBOUR: 'it returns false'. Refute it at one input. -/
def fnExactKeepOkWrong : ChangeSpec := { name := "fnExactKeepOk", fn := fun _ => fun
  | [d] => { results := [.lit (.bool false)], args := [d] }
  | _ => none }
def FnExactKeepOkWrongFalsely : Prop := fnExactKeepOkRow.holds Tryz.pinned (OpenSpec.ofChange fnExactKeepOkWrong)

/-- 'laws.FnExactTurnLeft': WHATEVER THE INPUT: true; the input reads as it did. -/
def fnExactTurnLeftSpec : ChangeSpec := { name := "fnExactTurnLeft", fn := fun _ => fun
  | [d] => { results := [.lit (.bool true)], args := [d] }
  | _ => none }
def fnExactTurnLeftRow : OpenClaim := { program := "ytechafkfchmggaagreat", sum := "79899d778998a27e8d20bc8872b0d86c015ba7918664e840a2bc78d3bb709e8d", func := "loop.example/keelson/laws.FnExactTurnLeft", spec := "fnExactTurnLeft", unfollowed := true, recurses := true, apart := false }
def FnExactTurnLeftSaid : Prop := fnExactTurnLeftRow.holds Tryz.pinned (OpenSpec.ofChange fnExactTurnLeftSpec)

/-- ITS FALSE NEIGHBOUR: 'it returns false'. Refute it at one input. -/
def fnExactTurnLeftWrong : ChangeSpec := { name := "fnExactTurnLeft", fn := fun _ => fun
  | [d] => { results := [.lit (.bool false)], args := [d] }
  | _ => none }
def FnExactTurnLeftWrongFalsely : Prop := fnExactTurnLeftRow.holds Tryz.pinned (OpenSpec.ofChange fnExactTurnLeftWrong)

/-- 'laws.FnExactKeepBegin': WHATEVER THE INPUT: true; the input reads as it did. -/
def fnExactKeepBeginSpec : ChangeSpec := { name := "fnExactKeepBegin", fn := fun _ => fun
  | [d1, d2, d3] => { results := [.lit (.bool true)], args := [d1, d2, d3] }
  | _ => none }
def fnExactKeepBeginRow : OpenClaim := { program := "ytechafkfchmggaagreat", sum := "79899d778998a27e8d20bc8872b0d86c015ba7918664e840a2bc78d3bb709e8d", func := "loop.example/keelson/laws.FnExactKeepBegin", spec := "fnExactKeepBegin", unfollowed := true, recurses := true, apart := false }
def FnExactKeepBeginSaid : Prop := fnExactKeepBeginRow.holds Tryz.pinned (OpenSpec.ofChange fnExactKeepBeginSpec)

/-- ITS FALSE NEIGHBOUR: 'it returns false'. Refute it at one input. -/
def fnExactKeepBeginWrong : ChangeSpec := { name := "fnExactKeepBegin", fn := fun _ => fun
  | [d1, d2, d3] => { results := [.lit (.bool false)], args := [d1, d2, d3] }
  | _ => none }
def FnExactKeepBeginWrongFalsely : Prop := fnExactKeepBeginRow.holds Tryz.pinned (OpenSpec.ofChange fnExactKeepBeginWrong)

/-- 'laws.FnExactKeepRead': WHATEVER THE INPUT: true; the input reads as it did. -/
def fnExactKeepReadSpec : ChangeSpec := { name := "fnExactKeepRead", fn := fun _ => fun
  | [d] => { results := [.lit (.bool true)], args := [d] }
  | _ => none }
def fnExactKeepReadRow : OpenClaim := { program := "ytechafkfchmggaagreat", sum := "79899d778998a27e8d20bc8872b0d86c015ba7918664e840a2bc78d3bb709e8d", func := "loop.example/keelson/laws.FnExactKeepRead", spec := "fnExactKeepRead", unfollowed := true, recurses := true, apart := false }
def FnExactKeepReadSaid : Prop := fnExactKeepReadRow.holds Tryz.pinned (OpenSpec.ofChange fnExactKeepReadSpec)

/-- ITS FALSE NEIGHBOUR: 'it returns false'. Refute it at one input. -/
def fnExactKeepReadWrong : ChangeSpec := { name := "fnExactKeepRead", fn := fun _ => fun
  | [d] => { results := [.lit (.bool false)], args := [d] }
  | _ => none }
def FnExactKeepReadWrongFalsely : Prop := fnExactKeepReadRow.holds Tryz.pinned (OpenSpec.ofChange fnExactKeepReadWrong)

/-- 'laws.FnExactKeepLose': WHATEVER THE INPUT: true; the input reads as it did. -/
def fnExactKeepLoseSpec : ChangeSpec := { name := "fnExactKeepLose", fn := fun _ => fun
  | [d1, d2] => { results := [.lit (.bool true)], args := [d1, d2] }
  | _ => none }
def fnExactKeepLoseRow : OpenClaim := { program := "ytechafkfchmggaagreat", sum := "79899d778998a27e8d20bc8872b0d86c015ba7918664e840a2bc78d3bb709e8d", func := "loop.example/keelson/laws.FnExactKeepLose", spec := "fnExactKeepLose", unfollowed := true, recurses := true, apart := false }
def FnExactKeepLoseSaid : Prop := fnExactKeepLoseRow.holds Tryz.pinned (OpenSpec.ofChange fnExactKeepLoseSpec)

/-- ITS FALSE NEIGHBOUR: 'it returns false'. Refute it at one input. -/
def fnExactKeepLoseWrong : ChangeSpec := { name := "fnExactKeepLose", fn := fun _ => fun
  | [d1, d2] => { results := [.lit (.bool false)], args := [d1, d2] }
  | _ => none }
def FnExactKeepLoseWrongFalsely : Prop := fnExactKeepLoseRow.holds Tryz.pinned (OpenSpec.ofChange fnExactKeepLoseWrong)

/- THE SECOND FORM. 'bulk': how many values and letters a reading holds, each counted each time it is reached (what is shared counts as often as it is met; a slice's spare places count too). A statement '..UptoSaid' is the law's where the arguments, and the package variables that the reading takes, are together of bulk at most 1048576: NARROWER than '..Said'. Prove '..Said' where nothing that the law and all that it calls make is longer than what came in: it says more and counts as full. Else prove '..UptoSaid'. A law counts once. -/
mutual
def uptoBulk {H : Type} : DataW H → Nat
  | .lit (.string bytes) => bytes.length + 1
  | .lit _ => 1
  | .nil => 1
  | .ptr d => uptoBulk d + 1
  | .slice elems spare => uptoBulkAll elems + uptoBulkAll spare + 1
  | .agg parts => uptoBulkAll parts + 1
  | .iface _ d => uptoBulk d + 1
  | .map entries => uptoBulkEntries entries + 1
  | .held _ => 1
def uptoBulkAll {H : Type} : List (DataW H) → Nat
  | [] => 0
  | d :: r => uptoBulk d + uptoBulkAll r
def uptoBulkEntries {H : Type} : List (Lit × DataW H) → Nat
  | [] => 0
  | x :: r => uptoBulkEntry x + uptoBulkEntries r
def uptoBulkEntry {H : Type} : Lit × DataW H → Nat
  | (.string bytes, d) => bytes.length + uptoBulk d + 1
  | (_, d) => uptoBulk d + 1
 end
def uptoSmall : (H : Type) → List (DataW H) → Bool := fun _ ds => decide (uptoBulkAll ds ≤ 1048576)
def OpenSpec.upto (s : _root_.Go.ChangeSpec) : _root_.Go.OpenSpec := { _root_.Go.OpenSpec.ofChange s with cond := some uptoSmall }

/-- 'laws.FnExactStripeWrite', WHERE WHAT IT READS IS OF BULK AT MOST 1048576: true; the input reads as it did. -/
def fnExactStripeWriteUptoRow : OpenClaim := { program := "ytechafkfchmggaagreat", sum := "79899d778998a27e8d20bc8872b0d86c015ba7918664e840a2bc78d3bb709e8d", func := "loop.example/keelson/laws.FnExactStripeWrite", spec := "fnExactStripeWrite", unfollowed := true, recurses := true, apart := false, narrowed := true }
def FnExactStripeWriteUptoSaid : Prop := fnExactStripeWriteUptoRow.holds Tryz.pinned (OpenSpec.upto fnExactStripeWriteSpec)

/-- 'laws.FnRotWrite', WHERE WHAT IT READS IS OF BULK AT MOST 1048576: true; the input reads as it did. -/
def fnRotWriteUptoRow : OpenClaim := { program := "ytechafkfchmggaagreat", sum := "79899d778998a27e8d20bc8872b0d86c015ba7918664e840a2bc78d3bb709e8d", func := "loop.example/keelson/laws.FnRotWrite", spec := "fnRotWrite", unfollowed := true, recurses := true, apart := false, narrowed := true }
def FnRotWriteUptoSaid : Prop := fnRotWriteUptoRow.holds Tryz.pinned (OpenSpec.upto fnRotWriteSpec)

/-- 'laws.FnRotRead', WHERE WHAT IT READS IS OF BULK AT MOST 1048576: true; the input reads as it did. -/
def fnRotReadUptoRow : OpenClaim := { program := "ytechafkfchmggaagreat", sum := "79899d778998a27e8d20bc8872b0d86c015ba7918664e840a2bc78d3bb709e8d", func := "loop.example/keelson/laws.FnRotRead", spec := "fnRotRead", unfollowed := true, recurses := true, apart := false, narrowed := true }
def FnRotReadUptoSaid : Prop := fnRotReadUptoRow.holds Tryz.pinned (OpenSpec.upto fnRotReadSpec)

/-- 'laws.FnRotOne', WHERE WHAT IT READS IS OF BULK AT MOST 1048576: true; the input reads as it did. -/
def fnRotOneUptoRow : OpenClaim := { program := "ytechafkfchmggaagreat", sum := "79899d778998a27e8d20bc8872b0d86c015ba7918664e840a2bc78d3bb709e8d", func := "loop.example/keelson/laws.FnRotOne", spec := "fnRotOne", unfollowed := true, recurses := true, apart := false, narrowed := true }
def FnRotOneUptoSaid : Prop := fnRotOneUptoRow.holds Tryz.pinned (OpenSpec.upto fnRotOneSpec)

/-- 'laws.FnStripeForm', WHERE WHAT IT READS IS OF BULK AT MOST 1048576: true; the input reads as it did. -/
def fnStripeFormUptoRow : OpenClaim := { program := "ytechafkfchmggaagreat", sum := "79899d778998a27e8d20bc8872b0d86c015ba7918664e840a2bc78d3bb709e8d", func := "loop.example/keelson/laws.FnStripeForm", spec := "fnStripeForm", unfollowed := true, recurses := true, apart := false, narrowed := true }
def FnStripeFormUptoSaid : Prop := fnStripeFormUptoRow.holds Tryz.pinned (OpenSpec.upto fnStripeFormSpec)

/-- 'laws.FnWrite', WHERE WHAT IT READS IS OF BULK AT MOST 1048576: true; the input reads as it did. -/
def fnWriteUptoRow : OpenClaim := { program := "ytechafkfchmggaagreat", sum := "79899d778998a27e8d20bc8872b0d86c015ba7918664e840a2bc78d3bb709e8d", func := "loop.example/keelson/laws.FnWrite", spec := "fnWrite", unfollowed := true, recurses := true, apart := false, narrowed := true }
def FnWriteUptoSaid : Prop := fnWriteUptoRow.holds Tryz.pinned (OpenSpec.upto fnWriteSpec)

/-- 'laws.FnLose', WHERE WHAT IT READS IS OF BULK AT MOST 1048576: true; the input reads as it did. -/
def fnLoseUptoRow : OpenClaim := { program := "ytechafkfchmggaagreat", sum := "79899d778998a27e8d20bc8872b0d86c015ba7918664e840a2bc78d3bb709e8d", func := "loop.example/keelson/laws.FnLose", spec := "fnLose", unfollowed := true, recurses := true, apart := false, narrowed := true }
def FnLoseUptoSaid : Prop := fnLoseUptoRow.holds Tryz.pinned (OpenSpec.upto fnLoseSpec)

/-- 'laws.FnWriteRead', WHERE WHAT IT READS IS OF BULK AT MOST 1048576: true; the input reads as it did. -/
def fnWriteReadUptoRow : OpenClaim := { program := "ytechafkfchmggaagreat", sum := "79899d778998a27e8d20bc8872b0d86c015ba7918664e840a2bc78d3bb709e8d", func := "loop.example/keelson/laws.FnWriteRead", spec := "fnWriteRead", unfollowed := true, recurses := true, apart := false, narrowed := true }
def FnWriteReadUptoSaid : Prop := fnWriteReadUptoRow.holds Tryz.pinned (OpenSpec.upto fnWriteReadSpec)

/-- 'laws.FnWriteTwo', WHERE WHAT IT READS IS OF BULK AT MOST 1048576: true; the input reads as it did. -/
def fnWriteTwoUptoRow : OpenClaim := { program := "ytechafkfchmggaagreat", sum := "79899d778998a27e8d20bc8872b0d86c015ba7918664e840a2bc78d3bb709e8d", func := "loop.example/keelson/laws.FnWriteTwo", spec := "fnWriteTwo", unfollowed := true, recurses := true, apart := false, narrowed := true }
def FnWriteTwoUptoSaid : Prop := fnWriteTwoUptoRow.holds Tryz.pinned (OpenSpec.upto fnWriteTwoSpec)

/-- 'laws.FnExactPatchDo', WHERE WHAT IT READS IS OF BULK AT MOST 1048576: true; the input reads as it did. -/
def fnExactPatchDoUptoRow : OpenClaim := { program := "ytechafkfchmggaagreat", sum := "79899d778998a27e8d20bc8872b0d86c015ba7918664e840a2bc78d3bb709e8d", func := "loop.example/keelson/laws.FnExactPatchDo", spec := "fnExactPatchDo", unfollowed := true, recurses := true, apart := false, narrowed := true }
def FnExactPatchDoUptoSaid : Prop := fnExactPatchDoUptoRow.holds Tryz.pinned (OpenSpec.upto fnExactPatchDoSpec)

/-- 'laws.FnPatchDo', WHERE WHAT IT READS IS OF BULK AT MOST 1048576: true; the input reads as it did. -/
def fnPatchDoUptoRow : OpenClaim := { program := "ytechafkfchmggaagreat", sum := "79899d778998a27e8d20bc8872b0d86c015ba7918664e840a2bc78d3bb709e8d", func := "loop.example/keelson/laws.FnPatchDo", spec := "fnPatchDo", unfollowed := true, recurses := true, apart := false, narrowed := true }
def FnPatchDoUptoSaid : Prop := fnPatchDoUptoRow.holds Tryz.pinned (OpenSpec.upto fnPatchDoSpec)

/-- 'laws.FnPatchHalf', WHERE WHAT IT READS IS OF BULK AT MOST 1048576: true; the input reads as it did. -/
def fnPatchHalfUptoRow : OpenClaim := { program := "ytechafkfchmggaagreat", sum := "79899d778998a27e8d20bc8872b0d86c015ba7918664e840a2bc78d3bb709e8d", func := "loop.example/keelson/laws.FnPatchHalf", spec := "fnPatchHalf", unfollowed := true, recurses := true, apart := false, narrowed := true }
def FnPatchHalfUptoSaid : Prop := fnPatchHalfUptoRow.holds Tryz.pinned (OpenSpec.upto fnPatchHalfSpec)

/-- 'laws.FnExactKeepOk', WHERE WHAT IT READS IS OF BULK AT MOST 1048576: true; the input reads as it did. -/
def fnExactKeepOkUptoRow : OpenClaim := { program := "ytechafkfchmggaagreat", sum := "79899d778998a27e8d20bc8872b0d86c015ba7918664e840a2bc78d3bb709e8d", func := "loop.example/keelson/laws.FnExactKeepOk", spec := "fnExactKeepOk", unfollowed := true, recurses := true, apart := false, narrowed := true }
def FnExactKeepOkUptoSaid : Prop := fnExactKeepOkUptoRow.holds Tryz.pinned (OpenSpec.upto fnExactKeepOkSpec)

/-- 'laws.FnExactTurnLeft', WHERE WHAT IT READS IS OF BULK AT MOST 1048576: true; the input reads as it did. -/
def fnExactTurnLeftUptoRow : OpenClaim := { program := "ytechafkfchmggaagreat", sum := "79899d778998a27e8d20bc8872b0d86c015ba7918664e840a2bc78d3bb709e8d", func := "loop.example/keelson/laws.FnExactTurnLeft", spec := "fnExactTurnLeft", unfollowed := true, recurses := true, apart := false, narrowed := true }
def FnExactTurnLeftUptoSaid : Prop := fnExactTurnLeftUptoRow.holds Tryz.pinned (OpenSpec.upto fnExactTurnLeftSpec)

/-- 'laws.FnExactKeepBegin', WHERE WHAT IT READS IS OF BULK AT MOST 1048576: true; the input reads as it did. -/
def fnExactKeepBeginUptoRow : OpenClaim := { program := "ytechafkfchmggaagreat", sum := "79899d778998a27e8d20bc8872b0d86c015ba7918664e840a2bc78d3bb709e8d", func := "loop.example/keelson/laws.FnExactKeepBegin", spec := "fnExactKeepBegin", unfollowed := true, recurses := true, apart := false, narrowed := true }
def FnExactKeepBeginUptoSaid : Prop := fnExactKeepBeginUptoRow.holds Tryz.pinned (OpenSpec.upto fnExactKeepBeginSpec)

/-- 'laws.FnExactKeepRead', WHERE WHAT IT READS IS OF BULK AT MOST 1048576: true; the input reads as it did. -/
def fnExactKeepReadUptoRow : OpenClaim := { program := "ytechafkfchmggaagreat", sum := "79899d778998a27e8d20bc8872b0d86c015ba7918664e840a2bc78d3bb709e8d", func := "loop.example/keelson/laws.FnExactKeepRead", spec := "fnExactKeepRead", unfollowed := true, recurses := true, apart := false, narrowed := true }
def FnExactKeepReadUptoSaid : Prop := fnExactKeepReadUptoRow.holds Tryz.pinned (OpenSpec.upto fnExactKeepReadSpec)

/-- 'laws.FnExactKeepLose', WHERE WHAT IT READS IS OF BULK AT MOST 1048576: true; the input reads as it did. -/
def fnExactKeepLoseUptoRow : OpenClaim := { program := "ytechafkfchmggaagreat", sum := "79899d778998a27e8d20bc8872b0d86c015ba7918664e840a2bc78d3bb709e8d", func := "loop.example/keelson/laws.FnExactKeepLose", spec := "fnExactKeepLose", unfollowed := true, recurses := true, apart := false, narrowed := true }
def FnExactKeepLoseUptoSaid : Prop := fnExactKeepLoseUptoRow.holds Tryz.pinned (OpenSpec.upto fnExactKeepLoseSpec)

end Rows
end Go.Proofs.YtechafkfchmggaaGreat
