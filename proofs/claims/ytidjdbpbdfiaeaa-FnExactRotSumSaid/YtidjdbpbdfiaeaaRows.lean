/-
  No cell of these rows narrows 'for every input' (looked for: loops, veiled, ifaces, maps, wideKeys, modest, calm, conditions, laid).
  DERIVED. THE GIVEN ROWS OF THIS SEAT. 12 by the template 'for every input the law returns true; each argument reads behind the call as it read before'; 0 by the template 'total and deterministic' (their statements: YtidjdbpbdfiaeaaTotals.lean).
  GIVEN WITH THE SEED: the statements are not yours to turn. If you find one false, say at which input.
  Laid BY PROGRAM, IN A SANDBOX (cutbox-rows.mjs): the forced cells as the released guide's own fill.sh prints them over the translation 1800059b7cec05ab… (all of the seat's roots in one cut). By AI agents, Wed Nov 11 2026. No macro, syntax, notation, axiom, sorry.
-/
import Derived.Test.YtidjdbpbdfiaeaaChecked
import GoSem.Claim
import GoSem.ClaimJoined
import GoSem.ClaimMapViews
import Derived.JoinedTies
import Derived.KernelRfl
namespace Go.Proofs.Ytidjdbpbdfiaeaa
/- THE CELL 'sum', in the pinned program and in every row, IS THE sha256 OF THE DUMP (.gsa) THAT YtidjdbpbdfiaeaaProg.lean LOADS. Nothing in Lean hashes anything: it is a label: what it is worth is what the hold of that sum in a sandbox is worth. -/
noncomputable def Try.pinned : Pinned := { name := "ytidjdbpbdfiaeaa", sum := "1800059b7cec05ab9750d629d87f3f161d1bf1b8b9f827dfb0bf16655fbfb1be", checked := Try.checked }
namespace Rows
def none {H : Type} : Left H := { results := [], args := [] }

/-- 'laws.FnExactTextOk': WHATEVER THE INPUT: true; the input reads as it did. -/
def fnExactTextOkSpec : ChangeSpec := { name := "fnExactTextOk", fn := fun _ => fun
  | [d] => { results := [.lit (.bool true)], args := [d] }
  | _ => none }
def fnExactTextOkRow : OpenClaim := { program := "ytidjdbpbdfiaeaa", sum := "1800059b7cec05ab9750d629d87f3f161d1bf1b8b9f827dfb0bf16655fbfb1be", func := "loop.example/keelson/laws.FnExactTextOk", spec := "fnExactTextOk", apart := false }
def FnExactTextOkSaid : Prop := fnExactTextOkRow.holds Try.pinned (OpenSpec.ofChange fnExactTextOkSpec)

/-- ITS FALSE NEIGHBOUR: 'it returns false'. Refute it at one input. -/
def fnExactTextOkWrong : ChangeSpec := { name := "fnExactTextOk", fn := fun _ => fun
  | [d] => { results := [.lit (.bool false)], args := [d] }
  | _ => none }
def FnExactTextOkWrongFalsely : Prop := fnExactTextOkRow.holds Try.pinned (OpenSpec.ofChange fnExactTextOkWrong)

/-- 'laws.FnExactRotSum': WHATEVER THE INPUT: true; the input reads as it did. -/
def fnExactRotSumSpec : ChangeSpec := { name := "fnExactRotSum", fn := fun _ => fun
  | [d1, d2, d3] => { results := [.lit (.bool true)], args := [d1, d2, d3] }
  | _ => none }
def fnExactRotSumRow : OpenClaim := { program := "ytidjdbpbdfiaeaa", sum := "1800059b7cec05ab9750d629d87f3f161d1bf1b8b9f827dfb0bf16655fbfb1be", func := "loop.example/keelson/laws.FnExactRotSum", spec := "fnExactRotSum", apart := false }
def FnExactRotSumSaid : Prop := fnExactRotSumRow.holds Try.pinned (OpenSpec.ofChange fnExactRotSumSpec)

/-- ITS FALSE NEIGHBOUR: 'it returns false'. Refute it at one input. -/
def fnExactRotSumWrong : ChangeSpec := { name := "fnExactRotSum", fn := fun _ => fun
  | [d1, d2, d3] => { results := [.lit (.bool false)], args := [d1, d2, d3] }
  | _ => none }
def FnExactRotSumWrongFalsely : Prop := fnExactRotSumRow.holds Try.pinned (OpenSpec.ofChange fnExactRotSumWrong)

/-- 'laws.FnTextForm': WHATEVER THE INPUT: true; the input reads as it did. -/
def fnTextFormSpec : ChangeSpec := { name := "fnTextForm", fn := fun _ => fun
  | [d] => { results := [.lit (.bool true)], args := [d] }
  | _ => none }
def fnTextFormRow : OpenClaim := { program := "ytidjdbpbdfiaeaa", sum := "1800059b7cec05ab9750d629d87f3f161d1bf1b8b9f827dfb0bf16655fbfb1be", func := "loop.example/keelson/laws.FnTextForm", spec := "fnTextForm", apart := false }
def FnTextFormSaid : Prop := fnTextFormRow.holds Try.pinned (OpenSpec.ofChange fnTextFormSpec)

/-- ITS FALSE NEIGHBOUR: 'it returns false'. Refute it at one input. -/
def fnTextFormWrong : ChangeSpec := { name := "fnTextForm", fn := fun _ => fun
  | [d] => { results := [.lit (.bool false)], args := [d] }
  | _ => none }
def FnTextFormWrongFalsely : Prop := fnTextFormRow.holds Try.pinned (OpenSpec.ofChange fnTextFormWrong)

/-- 'laws.FnRotTurn': WHATEVER THE INPUT: true; the input reads as it did. -/
def fnRotTurnSpec : ChangeSpec := { name := "fnRotTurn", fn := fun _ => fun
  | [d1, d2] => { results := [.lit (.bool true)], args := [d1, d2] }
  | _ => none }
def fnRotTurnRow : OpenClaim := { program := "ytidjdbpbdfiaeaa", sum := "1800059b7cec05ab9750d629d87f3f161d1bf1b8b9f827dfb0bf16655fbfb1be", func := "loop.example/keelson/laws.FnRotTurn", spec := "fnRotTurn", apart := false }
def FnRotTurnSaid : Prop := fnRotTurnRow.holds Try.pinned (OpenSpec.ofChange fnRotTurnSpec)

/-- ITS FALSE NEIGHBOUR: 'it returns false'. Refute it at one input. -/
def fnRotTurnWrong : ChangeSpec := { name := "fnRotTurn", fn := fun _ => fun
  | [d1, d2] => { results := [.lit (.bool false)], args := [d1, d2] }
  | _ => none }
def FnRotTurnWrongFalsely : Prop := fnRotTurnRow.holds Try.pinned (OpenSpec.ofChange fnRotTurnWrong)

/-- 'laws.FnRotSum': WHATEVER THE INPUT: true; the input reads as it did. -/
def fnRotSumSpec : ChangeSpec := { name := "fnRotSum", fn := fun _ => fun
  | [d1, d2] => { results := [.lit (.bool true)], args := [d1, d2] }
  | _ => none }
def fnRotSumRow : OpenClaim := { program := "ytidjdbpbdfiaeaa", sum := "1800059b7cec05ab9750d629d87f3f161d1bf1b8b9f827dfb0bf16655fbfb1be", func := "loop.example/keelson/laws.FnRotSum", spec := "fnRotSum", apart := false }
def FnRotSumSaid : Prop := fnRotSumRow.holds Try.pinned (OpenSpec.ofChange fnRotSumSpec)

/-- ITS FALSE NEIGHBOUR: 'it returns false'. Refute it at one input. -/
def fnRotSumWrong : ChangeSpec := { name := "fnRotSum", fn := fun _ => fun
  | [d1, d2] => { results := [.lit (.bool false)], args := [d1, d2] }
  | _ => none }
def FnRotSumWrongFalsely : Prop := fnRotSumRow.holds Try.pinned (OpenSpec.ofChange fnRotSumWrong)

/-- 'laws.FnExactTextRows': WHATEVER THE INPUT: true; the input reads as it did. -/
def fnExactTextRowsSpec : ChangeSpec := { name := "fnExactTextRows", fn := fun _ => fun
  | [d] => { results := [.lit (.bool true)], args := [d] }
  | _ => none }
def fnExactTextRowsRow : OpenClaim := { program := "ytidjdbpbdfiaeaa", sum := "1800059b7cec05ab9750d629d87f3f161d1bf1b8b9f827dfb0bf16655fbfb1be", func := "loop.example/keelson/laws.FnExactTextRows", spec := "fnExactTextRows", unfollowed := true, recurses := true, apart := false }
def FnExactTextRowsSaid : Prop := fnExactTextRowsRow.holds Try.pinned (OpenSpec.ofChange fnExactTextRowsSpec)

/-- ITS FALSE NEIGHBOUR: 'it returns false'. Refute it at one input. -/
def fnExactTextRowsWrong : ChangeSpec := { name := "fnExactTextRows", fn := fun _ => fun
  | [d] => { results := [.lit (.bool false)], args := [d] }
  | _ => none }
def FnExactTextRowsWrongFalsely : Prop := fnExactTextRowsRow.holds Try.pinned (OpenSpec.ofChange fnExactTextRowsWrong)

/-- 'laws.FnTextRows': WHATEVER THE INPUT: true; the input reads as it did. -/
def fnTextRowsSpec : ChangeSpec := { name := "fnTextRows", fn := fun _ => fun
  | [d1, d2] => { results := [.lit (.bool true)], args := [d1, d2] }
  | _ => none }
def fnTextRowsRow : OpenClaim := { program := "ytidjdbpbdfiaeaa", sum := "1800059b7cec05ab9750d629d87f3f161d1bf1b8b9f827dfb0bf16655fbfb1be", func := "loop.example/keelson/laws.FnTextRows", spec := "fnTextRows", unfollowed := true, recurses := true, apart := false }
def FnTextRowsSaid : Prop := fnTextRowsRow.holds Try.pinned (OpenSpec.ofChange fnTextRowsSpec)

/-- ITS FALSE NEIGHBOUR: 'it returns false'. Refute it at one input. -/
def fnTextRowsWrong : ChangeSpec := { name := "fnTextRows", fn := fun _ => fun
  | [d1, d2] => { results := [.lit (.bool false)], args := [d1, d2] }
  | _ => none }
def FnTextRowsWrongFalsely : Prop := fnTextRowsRow.holds Try.pinned (OpenSpec.ofChange fnTextRowsWrong)

/-- 'laws.FnExactTextCut': WHATEVER THE INPUT: true; the input reads as it did. -/
def fnExactTextCutSpec : ChangeSpec := { name := "fnExactTextCut", fn := fun _ => fun
  | [d] => { results := [.lit (.bool true)], args := [d] }
  | _ => none }
def fnExactTextCutRow : OpenClaim := { program := "ytidjdbpbdfiaeaa", sum := "1800059b7cec05ab9750d629d87f3f161d1bf1b8b9f827dfb0bf16655fbfb1be", func := "loop.example/keelson/laws.FnExactTextCut", spec := "fnExactTextCut", unfollowed := true, recurses := true, apart := false }
def FnExactTextCutSaid : Prop := fnExactTextCutRow.holds Try.pinned (OpenSpec.ofChange fnExactTextCutSpec)

/-- ITS FALSE NEIGHBOUR: 'it returns false'. Refute it at one input. -/
def fnExactTextCutWrong : ChangeSpec := { name := "fnExactTextCut", fn := fun _ => fun
  | [d] => { results := [.lit (.bool false)], args := [d] }
  | _ => none }
def FnExactTextCutWrongFalsely : Prop := fnExactTextCutRow.holds Try.pinned (OpenSpec.ofChange fnExactTextCutWrong)

/-- 'laws.FnExactRotFind': WHATEVER THE INPUT: true; the input reads as it did. -/
def fnExactRotFindSpec : ChangeSpec := { name := "fnExactRotFind", fn := fun _ => fun
  | [d] => { results := [.lit (.bool true)], args := [d] }
  | _ => none }
def fnExactRotFindRow : OpenClaim := { program := "ytidjdbpbdfiaeaa", sum := "1800059b7cec05ab9750d629d87f3f161d1bf1b8b9f827dfb0bf16655fbfb1be", func := "loop.example/keelson/laws.FnExactRotFind", spec := "fnExactRotFind", apart := false }
def FnExactRotFindSaid : Prop := fnExactRotFindRow.holds Try.pinned (OpenSpec.ofChange fnExactRotFindSpec)

/-- ITS FALSE NEIGHBOUR: 'it returns false'. Refute it at one input. -/
def fnExactRotFindWrong : ChangeSpec := { name := "fnExactRotFind", fn := fun _ => fun
  | [d] => { results := [.lit (.bool false)], args := [d] }
  | _ => none }
def FnExactRotFindWrongFalsely : Prop := fnExactRotFindRow.holds Try.pinned (OpenSpec.ofChange fnExactRotFindWrong)

/-- 'laws.FnExactPlanDo': WHATEVER THE INPUT: true; the input reads as it did. -/
def fnExactPlanDoSpec : ChangeSpec := { name := "fnExactPlanDo", fn := fun _ => fun
  | [d1, d2] => { results := [.lit (.bool true)], args := [d1, d2] }
  | _ => none }
def fnExactPlanDoRow : OpenClaim := { program := "ytidjdbpbdfiaeaa", sum := "1800059b7cec05ab9750d629d87f3f161d1bf1b8b9f827dfb0bf16655fbfb1be", func := "loop.example/keelson/laws.FnExactPlanDo", spec := "fnExactPlanDo", unfollowed := true, recurses := true, apart := false }
def FnExactPlanDoSaid : Prop := fnExactPlanDoRow.holds Try.pinned (OpenSpec.ofChange fnExactPlanDoSpec)

/-- ITS FALSE NEIGHBOUR: 'it returns false'. Refute it at one input. -/
def fnExactPlanDoWrong : ChangeSpec := { name := "fnExactPlanDo", fn := fun _ => fun
  | [d1, d2] => { results := [.lit (.bool false)], args := [d1, d2] }
  | _ => none }
def FnExactPlanDoWrongFalsely : Prop := fnExactPlanDoRow.holds Try.pinned (OpenSpec.ofChange fnExactPlanDoWrong)

/-- 'laws.FnExactTurnSame': WHATEVER THE INPUT: true; the input reads as it did. -/
def fnExactTurnSameSpec : ChangeSpec := { name := "fnExactTurnSame", fn := fun _ => fun
  | [d1, d2, d3] => { results := [.lit (.bool true)], args := [d1, d2, d3] }
  | _ => none }
def fnExactTurnSameRow : OpenClaim := { program := "ytidjdbpbdfiaeaa", sum := "1800059b7cec05ab9750d629d87f3f161d1bf1b8b9f827dfb0bf16655fbfb1be", func := "loop.example/keelson/laws.FnExactTurnSame", spec := "fnExactTurnSame", unfollowed := true, recurses := true, apart := false }
def FnExactTurnSameSaid : Prop := fnExactTurnSameRow.holds Try.pinned (OpenSpec.ofChange fnExactTurnSameSpec)

/-- ITS FALSE NEIGHBOUR: 'it returns false'. Refute it at one input. -/
def fnExactTurnSameWrong : ChangeSpec := { name := "fnExactTurnSame", fn := fun _ => fun
  | [d1, d2, d3] => { results := [.lit (.bool false)], args := [d1, d2, d3] }
  | _ => none }
def FnExactTurnSameWrongFalsely : Prop := fnExactTurnSameRow.holds Try.pinned (OpenSpec.ofChange fnExactTurnSameWrong)

/-- 'laws.FnTextBack': WHATEVER THE INPUT: true; the input reads as it did. -/
def fnTextBackSpec : ChangeSpec := { name := "fnTextBack", fn := fun _ => fun
  | [d] => { results := [.lit (.bool true)], args := [d] }
  | _ => none }
def fnTextBackRow : OpenClaim := { program := "ytidjdbpbdfiaeaa", sum := "1800059b7cec05ab9750d629d87f3f161d1bf1b8b9f827dfb0bf16655fbfb1be", func := "loop.example/keelson/laws.FnTextBack", spec := "fnTextBack", unfollowed := true, recurses := true, apart := false }
def FnTextBackSaid : Prop := fnTextBackRow.holds Try.pinned (OpenSpec.ofChange fnTextBackSpec)

/-- ITS FALSE NEIGHBOUR: 'it returns false'. Refute it at one input. -/
def fnTextBackWrong : ChangeSpec := { name := "fnTextBack", fn := fun _ => fun
  | [d] => { results := [.lit (.bool false)], args := [d] }
  | _ => none }
def FnTextBackWrongFalsely : Prop := fnTextBackRow.holds Try.pinned (OpenSpec.ofChange fnTextBackWrong)

/- THE SECOND FORM. 'bulk': how many values and letters a reading holds, each counted each time it is reached (what is shared counts as often as it is met; a slice's spare places count too). A statement '..UptoSaid' is the law's where the arguments, and the package variables that the reading takes, are together of bulk at most 1048576: NARROWER than '..Said'. Prove '..Said' where nothing that the law and all that it calls make is longer than what came in: it says more and counts as full. Else prove '..UptoSaid'. A law counts once. -/
mutual
def uptoBulk {H : Type} : DataW H → Nat
  | .lit (.string bytes) => bytes.length + 1
  | .lit _ => 1
  | .nil => 1
  | .ptr d => uptoBulk d + 1
  | .slice elems spare => uptoBulkAll elems + uptoBulkAll spare + 1
  | .agg parts => uptoBulkAll parts + 1
  | .iface _ d => uptoBulk d + 1
  | .map entries => uptoBulkEntries entries + 1
  | .held _ => 1
def uptoBulkAll {H : Type} : List (DataW H) → Nat
  | [] => 0
  | d :: r => uptoBulk d + uptoBulkAll r
def uptoBulkEntries {H : Type} : List (Lit × DataW H) → Nat
  | [] => 0
  | x :: r => uptoBulkEntry x + uptoBulkEntries r
def uptoBulkEntry {H : Type} : Lit × DataW H → Nat
  | (.string bytes, d) => bytes.length + uptoBulk d + 1
  | (_, d) => uptoBulk d + 1
 end
def uptoSmall : (H : Type) → List (DataW H) → Bool := fun _ ds => decide (uptoBulkAll ds ≤ 1048576)
def OpenSpec.upto (s : _root_.Go.ChangeSpec) : _root_.Go.OpenSpec := { _root_.Go.OpenSpec.ofChange s with cond := some uptoSmall }

/-- 'laws.FnExactTextOk', WHERE WHAT IT READS IS OF BULK AT MOST 1048576: true; the input reads as it did. -/
def fnExactTextOkUptoRow : OpenClaim := { program := "ytidjdbpbdfiaeaa", sum := "1800059b7cec05ab9750d629d87f3f161d1bf1b8b9f827dfb0bf16655fbfb1be", func := "loop.example/keelson/laws.FnExactTextOk", spec := "fnExactTextOk", apart := false, narrowed := true }
def FnExactTextOkUptoSaid : Prop := fnExactTextOkUptoRow.holds Try.pinned (OpenSpec.upto fnExactTextOkSpec)

/-- 'laws.FnExactRotSum', WHERE WHAT IT READS IS OF BULK AT MOST 1048576: true; the input reads as it did. -/
def fnExactRotSumUptoRow : OpenClaim := { program := "ytidjdbpbdfiaeaa", sum := "1800059b7cec05ab9750d629d87f3f161d1bf1b8b9f827dfb0bf16655fbfb1be", func := "loop.example/keelson/laws.FnExactRotSum", spec := "fnExactRotSum", apart := false, narrowed := true }
def FnExactRotSumUptoSaid : Prop := fnExactRotSumUptoRow.holds Try.pinned (OpenSpec.upto fnExactRotSumSpec)

/-- 'laws.FnTextForm', WHERE WHAT IT READS IS OF BULK AT MOST 1048576: true; the input reads as it did. -/
def fnTextFormUptoRow : OpenClaim := { program := "ytidjdbpbdfiaeaa", sum := "1800059b7cec05ab9750d629d87f3f161d1bf1b8b9f827dfb0bf16655fbfb1be", func := "loop.example/keelson/laws.FnTextForm", spec := "fnTextForm", apart := false, narrowed := true }
def FnTextFormUptoSaid : Prop := fnTextFormUptoRow.holds Try.pinned (OpenSpec.upto fnTextFormSpec)

/-- 'laws.FnRotTurn', WHERE WHAT IT READS IS OF BULK AT MOST 1048576: true; the input reads as it did. -/
def fnRotTurnUptoRow : OpenClaim := { program := "ytidjdbpbdfiaeaa", sum := "1800059b7cec05ab9750d629d87f3f161d1bf1b8b9f827dfb0bf16655fbfb1be", func := "loop.example/keelson/laws.FnRotTurn", spec := "fnRotTurn", apart := false, narrowed := true }
def FnRotTurnUptoSaid : Prop := fnRotTurnUptoRow.holds Try.pinned (OpenSpec.upto fnRotTurnSpec)

/-- 'laws.FnRotSum', WHERE WHAT IT READS IS OF BULK AT MOST 1048576: true; the input reads as it did. -/
def fnRotSumUptoRow : OpenClaim := { program := "ytidjdbpbdfiaeaa", sum := "1800059b7cec05ab9750d629d87f3f161d1bf1b8b9f827dfb0bf16655fbfb1be", func := "loop.example/keelson/laws.FnRotSum", spec := "fnRotSum", apart := false, narrowed := true }
def FnRotSumUptoSaid : Prop := fnRotSumUptoRow.holds Try.pinned (OpenSpec.upto fnRotSumSpec)

/-- 'laws.FnExactTextRows', WHERE WHAT IT READS IS OF BULK AT MOST 1048576: true; the input reads as it did. -/
def fnExactTextRowsUptoRow : OpenClaim := { program := "ytidjdbpbdfiaeaa", sum := "1800059b7cec05ab9750d629d87f3f161d1bf1b8b9f827dfb0bf16655fbfb1be", func := "loop.example/keelson/laws.FnExactTextRows", spec := "fnExactTextRows", unfollowed := true, recurses := true, apart := false, narrowed := true }
def FnExactTextRowsUptoSaid : Prop := fnExactTextRowsUptoRow.holds Try.pinned (OpenSpec.upto fnExactTextRowsSpec)

/-- 'laws.FnTextRows', WHERE WHAT IT READS IS OF BULK AT MOST 1048576: true; the input reads as it did. -/
def fnTextRowsUptoRow : OpenClaim := { program := "ytidjdbpbdfiaeaa", sum := "1800059b7cec05ab9750d629d87f3f161d1bf1b8b9f827dfb0bf16655fbfb1be", func := "loop.example/keelson/laws.FnTextRows", spec := "fnTextRows", unfollowed := true, recurses := true, apart := false, narrowed := true }
def FnTextRowsUptoSaid : Prop := fnTextRowsUptoRow.holds Try.pinned (OpenSpec.upto fnTextRowsSpec)

/-- 'laws.FnExactTextCut', WHERE WHAT IT READS IS OF BULK AT MOST 1048576: true; the input reads as it did. -/
def fnExactTextCutUptoRow : OpenClaim := { program := "ytidjdbpbdfiaeaa", sum := "1800059b7cec05ab9750d629d87f3f161d1bf1b8b9f827dfb0bf16655fbfb1be", func := "loop.example/keelson/laws.FnExactTextCut", spec := "fnExactTextCut", unfollowed := true, recurses := true, apart := false, narrowed := true }
def FnExactTextCutUptoSaid : Prop := fnExactTextCutUptoRow.holds Try.pinned (OpenSpec.upto fnExactTextCutSpec)

/-- 'laws.FnExactRotFind', WHERE WHAT IT READS IS OF BULK AT MOST 1048576: true; the input reads as it did. -/
def fnExactRotFindUptoRow : OpenClaim := { program := "ytidjdbpbdfiaeaa", sum := "1800059b7cec05ab9750d629d87f3f161d1bf1b8b9f827dfb0bf16655fbfb1be", func := "loop.example/keelson/laws.FnExactRotFind", spec := "fnExactRotFind", apart := false, narrowed := true }
def FnExactRotFindUptoSaid : Prop := fnExactRotFindUptoRow.holds Try.pinned (OpenSpec.upto fnExactRotFindSpec)

/-- 'laws.FnExactPlanDo', WHERE WHAT IT READS IS OF BULK AT MOST 1048576: true; the input reads as it did. -/
def fnExactPlanDoUptoRow : OpenClaim := { program := "ytidjdbpbdfiaeaa", sum := "1800059b7cec05ab9750d629d87f3f161d1bf1b8b9f827dfb0bf16655fbfb1be", func := "loop.example/keelson/laws.FnExactPlanDo", spec := "fnExactPlanDo", unfollowed := true, recurses := true, apart := false, narrowed := true }
def FnExactPlanDoUptoSaid : Prop := fnExactPlanDoUptoRow.holds Try.pinned (OpenSpec.upto fnExactPlanDoSpec)

/-- 'laws.FnExactTurnSame', WHERE WHAT IT READS IS OF BULK AT MOST 1048576: true; the input reads as it did. -/
def fnExactTurnSameUptoRow : OpenClaim := { program := "ytidjdbpbdfiaeaa", sum := "1800059b7cec05ab9750d629d87f3f161d1bf1b8b9f827dfb0bf16655fbfb1be", func := "loop.example/keelson/laws.FnExactTurnSame", spec := "fnExactTurnSame", unfollowed := true, recurses := true, apart := false, narrowed := true }
def FnExactTurnSameUptoSaid : Prop := fnExactTurnSameUptoRow.holds Try.pinned (OpenSpec.upto fnExactTurnSameSpec)

/-- 'laws.FnTextBack', WHERE WHAT IT READS IS OF BULK AT MOST 1048576: true; the input reads as it did. -/
def fnTextBackUptoRow : OpenClaim := { program := "ytidjdbpbdfiaeaa", sum := "1800059b7cec05ab9750d629d87f3f161d1bf1b8b9f827dfb0bf16655fbfb1be", func := "loop.example/keelson/laws.FnTextBack", spec := "fnTextBack", unfollowed := true, recurses := true, apart := false, narrowed := true }
def FnTextBackUptoSaid : Prop := fnTextBackUptoRow.holds Try.pinned (OpenSpec.upto fnTextBackSpec)

end Rows
end Go.Proofs.Ytidjdbpbdfiaeaa
