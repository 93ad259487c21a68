/-
  No cell of these rows narrows 'for every input' (looked for: loops, veiled, ifaces, maps, wideKeys, modest, calm, conditions, laid).
  DERIVED. THE GIVEN ROWS OF THIS SEAT. 10 by the template 'for every input the law returns true; each argument reads behind the call as it read before'; 0 by the template 'total and deterministic' (their statements: YtbfkcfmhlanlnaaTotals.lean).
  GIVEN WITH THE SEED: the statements are not yours to turn. If you find one false, say at which input.
  Laid BY PROGRAM, IN A SANDBOX (cutbox-rows.mjs): the forced cells as the released guide's own fill.sh prints them over the translation e698ed9668ff8fb4… (all of the seat's roots in one cut). By AI agents, Wed Nov 11 2026. No macro, syntax, notation, axiom, sorry.
-/
import Derived.Test.YtbfkcfmhlanlnaaChecked
import GoSem.Claim
import GoSem.ClaimJoined
import GoSem.ClaimMapViews
import Derived.JoinedTies
import Derived.KernelRfl
namespace Go.Proofs.Ytbfkcfmhlanlnaa
/- THE CELL 'sum', in the pinned program and in every row, IS THE sha256 OF THE DUMP (.gsa) THAT YtbfkcfmhlanlnaaProg.lean LOADS. Nothing in Lean hashes anything: it is a label: what it is worth is what the hold of that sum in a sandbox is worth. -/
noncomputable def Try.pinned : Pinned := { name := "ytbfkcfmhlanlnaa", sum := "e698ed9668ff8fb4460ec0785f82918ce1d3d25e3e11987016bb498ec5e30903", checked := Try.checked }
namespace Rows
def none {H : Type} : Left H := { results := [], args := [] }

/-- 'laws.FnExactTextRows': WHATEVER THE INPUT: true; the input reads as it did. -/
def fnExactTextRowsSpec : ChangeSpec := { name := "fnExactTextRows", fn := fun _ => fun
  | [d] => { results := [.lit (.bool true)], args := [d] }
  | _ => none }
def fnExactTextRowsRow : OpenClaim := { program := "ytbfkcfmhlanlnaa", sum := "e698ed9668ff8fb4460ec0785f82918ce1d3d25e3e11987016bb498ec5e30903", func := "loop.example/keelson/laws.FnExactTextRows", spec := "fnExactTextRows", unfollowed := true, recurses := true, apart := false }
def FnExactTextRowsSaid : Prop := fnExactTextRowsRow.holds Try.pinned (OpenSpec.ofChange fnExactTextRowsSpec)

/-- ITS FALSE NEIGHBOUR: 'it returns false'. Refute it at one input. -/
def fnExactTextRowsWrong : ChangeSpec := { name := "fnExactTextRows", fn := fun _ => fun
  | [d] => { results := [.lit (.bool false)], args := [d] }
  | _ => none }
def FnExactTextRowsWrongFalsely : Prop := fnExactTextRowsRow.holds Try.pinned (OpenSpec.ofChange fnExactTextRowsWrong)

/-- 'laws.FnTextRows': WHATEVER THE INPUT: true; the input reads as it did. -/
def fnTextRowsSpec : ChangeSpec := { name := "fnTextRows", fn := fun _ => fun
  | [d1, d2] => { results := [.lit (.bool true)], args := [d1, d2] }
  | _ => none }
def fnTextRowsRow : OpenClaim := { program := "ytbfkcfmhlanlnaa", sum := "e698ed9668ff8fb4460ec0785f82918ce1d3d25e3e11987016bb498ec5e30903", func := "loop.example/keelson/laws.FnTextRows", spec := "fnTextRows", unfollowed := true, recurses := true, apart := false }
def FnTextRowsSaid : Prop := fnTextRowsRow.holds Try.pinned (OpenSpec.ofChange fnTextRowsSpec)

/-- ITS FALSE NEIGHBOUR: 'it returns false'. Refute it at one input. -/
def fnTextRowsWrong : ChangeSpec := { name := "fnTextRows", fn := fun _ => fun
  | [d1, d2] => { results := [.lit (.bool false)], args := [d1, d2] }
  | _ => none }
def FnTextRowsWrongFalsely : Prop := fnTextRowsRow.holds Try.pinned (OpenSpec.ofChange fnTextRowsWrong)

/-- 'laws.FnExactTextCut': WHATEVER THE INPUT: true; the input reads as it did. -/
def fnExactTextCutSpec : ChangeSpec := { name := "fnExactTextCut", fn := fun _ => fun
  | [d] => { results := [.lit (.bool true)], args := [d] }
  | _ => none }
def fnExactTextCutRow : OpenClaim := { program := "ytbfkcfmhlanlnaa", sum := "e698ed9668ff8fb4460ec0785f82918ce1d3d25e3e11987016bb498ec5e30903", func := "loop.example/keelson/laws.FnExactTextCut", spec := "fnExactTextCut", unfollowed := true, recurses := true, apart := false }
def FnExactTextCutSaid : Prop := fnExactTextCutRow.holds Try.pinned (OpenSpec.ofChange fnExactTextCutSpec)

/-- ITS FALSE NEIGHBOUR: 'it returns false'. Refute it at one input. -/
def fnExactTextCutWrong : ChangeSpec := { name := "fnExactTextCut", fn := fun _ => fun
  | [d] => { results := [.lit (.bool false)], args := [d] }
  | _ => none }
def FnExactTextCutWrongFalsely : Prop := fnExactTextCutRow.holds Try.pinned (OpenSpec.ofChange fnExactTextCutWrong)

/-- 'laws.FnExactRotFind': WHATEVER THE INPUT: true; the input reads as it did. -/
def fnExactRotFindSpec : ChangeSpec := { name := "fnExactRotFind", fn := fun _ => fun
  | [d] => { results := [.lit (.bool true)], args := [d] }
  | _ => none }
def fnExactRotFindRow : OpenClaim := { program := "ytbfkcfmhlanlnaa", sum := "e698ed9668ff8fb4460ec0785f82918ce1d3d25e3e11987016bb498ec5e30903", func := "loop.example/keelson/laws.FnExactRotFind", spec := "fnExactRotFind", apart := false }
def FnExactRotFindSaid : Prop := fnExactRotFindRow.holds Try.pinned (OpenSpec.ofChange fnExactRotFindSpec)

/-- ITS FALSE NEIGHBOUR: 'it returns false'. Refute it at one input. -/
def fnExactRotFindWrong : ChangeSpec := { name := "fnExactRotFind", fn := fun _ => fun
  | [d] => { results := [.lit (.bool false)], args := [d] }
  | _ => none }
def FnExactRotFindWrongFalsely : Prop := fnExactRotFindRow.holds Try.pinned (OpenSpec.ofChange fnExactRotFindWrong)

/-- 'laws.FnTextBack': WHATEVER THE INPUT: true; the input reads as it did. -/
def fnTextBackSpec : ChangeSpec := { name := "fnTextBack", fn := fun _ => fun
  | [d] => { results := [.lit (.bool true)], args := [d] }
  | _ => none }
def fnTextBackRow : OpenClaim := { program := "ytbfkcfmhlanlnaa", sum := "e698ed9668ff8fb4460ec0785f82918ce1d3d25e3e11987016bb498ec5e30903", func := "loop.example/keelson/laws.FnTextBack", spec := "fnTextBack", unfollowed := true, recurses := true, apart := false }
def FnTextBackSaid : Prop := fnTextBackRow.holds Try.pinned (OpenSpec.ofChange fnTextBackSpec)

/-- ITS FALSE NEIGHBOUR: 'it returns false'. Refute it at one input. -/
def fnTextBackWrong : ChangeSpec := { name := "fnTextBack", fn := fun _ => fun
  | [d] => { results := [.lit (.bool false)], args := [d] }
  | _ => none }
def FnTextBackWrongFalsely : Prop := fnTextBackRow.holds Try.pinned (OpenSpec.ofChange fnTextBackWrong)

/-- 'laws.FnExactTextJoin': WHATEVER THE INPUT: true; the input reads as it did. -/
def fnExactTextJoinSpec : ChangeSpec := { name := "fnExactTextJoin", fn := fun _ => fun
  | [d] => { results := [.lit (.bool true)], args := [d] }
  | _ => none }
def fnExactTextJoinRow : OpenClaim := { program := "ytbfkcfmhlanlnaa", sum := "e698ed9668ff8fb4460ec0785f82918ce1d3d25e3e11987016bb498ec5e30903", func := "loop.example/keelson/laws.FnExactTextJoin", spec := "fnExactTextJoin", unfollowed := true, recurses := true, apart := false }
def FnExactTextJoinSaid : Prop := fnExactTextJoinRow.holds Try.pinned (OpenSpec.ofChange fnExactTextJoinSpec)

/-- ITS FALSE NEIGHBOUR: 'it returns false'. Refute it at one input. -/
def fnExactTextJoinWrong : ChangeSpec := { name := "fnExactTextJoin", fn := fun _ => fun
  | [d] => { results := [.lit (.bool false)], args := [d] }
  | _ => none }
def FnExactTextJoinWrongFalsely : Prop := fnExactTextJoinRow.holds Try.pinned (OpenSpec.ofChange fnExactTextJoinWrong)

/-- 'laws.FnTextStrict': WHATEVER THE INPUT: true; the input reads as it did. -/
def fnTextStrictSpec : ChangeSpec := { name := "fnTextStrict", fn := fun _ => fun
  | [d] => { results := [.lit (.bool true)], args := [d] }
  | _ => none }
def fnTextStrictRow : OpenClaim := { program := "ytbfkcfmhlanlnaa", sum := "e698ed9668ff8fb4460ec0785f82918ce1d3d25e3e11987016bb498ec5e30903", func := "loop.example/keelson/laws.FnTextStrict", spec := "fnTextStrict", unfollowed := true, recurses := true, apart := false }
def FnTextStrictSaid : Prop := fnTextStrictRow.holds Try.pinned (OpenSpec.ofChange fnTextStrictSpec)

/-- ITS FALSE NEIGHBOUR: 'it returns false'. Refute it at one input. -/
def fnTextStrictWrong : ChangeSpec := { name := "fnTextStrict", fn := fun _ => fun
  | [d] => { results := [.lit (.bool false)], args := [d] }
  | _ => none }
def FnTextStrictWrongFalsely : Prop := fnTextStrictRow.holds Try.pinned (OpenSpec.ofChange fnTextStrictWrong)

/-- 'laws.FnRotFind': WHATEVER THE INPUT: true; the input reads as it did. -/
def fnRotFindSpec : ChangeSpec := { name := "fnRotFind", fn := fun _ => fun
  | [d] => { results := [.lit (.bool true)], args := [d] }
  | _ => none }
def fnRotFindRow : OpenClaim := { program := "ytbfkcfmhlanlnaa", sum := "e698ed9668ff8fb4460ec0785f82918ce1d3d25e3e11987016bb498ec5e30903", func := "loop.example/keelson/laws.FnRotFind", spec := "fnRotFind", apart := false }
def FnRotFindSaid : Prop := fnRotFindRow.holds Try.pinned (OpenSpec.ofChange fnRotFindSpec)

/-- ITS FALSE NEIGHBOUR: 'it returns false'. Refute it at one input. -/
def fnRotFindWrong : ChangeSpec := { name := "fnRotFind", fn := fun _ => fun
  | [d] => { results := [.lit (.bool false)], args := [d] }
  | _ => none }
def FnRotFindWrongFalsely : Prop := fnRotFindRow.holds Try.pinned (OpenSpec.ofChange fnRotFindWrong)

/-- 'laws.FnExactPlanDo': WHATEVER THE INPUT: true; the input reads as it did. -/
def fnExactPlanDoSpec : ChangeSpec := { name := "fnExactPlanDo", fn := fun _ => fun
  | [d1, d2] => { results := [.lit (.bool true)], args := [d1, d2] }
  | _ => none }
def fnExactPlanDoRow : OpenClaim := { program := "ytbfkcfmhlanlnaa", sum := "e698ed9668ff8fb4460ec0785f82918ce1d3d25e3e11987016bb498ec5e30903", func := "loop.example/keelson/laws.FnExactPlanDo", spec := "fnExactPlanDo", unfollowed := true, recurses := true, apart := false }
def FnExactPlanDoSaid : Prop := fnExactPlanDoRow.holds Try.pinned (OpenSpec.ofChange fnExactPlanDoSpec)

/-- ITS FALSE NEIGHBOUR: 'it returns false'. Refute it at one input. -/
def fnExactPlanDoWrong : ChangeSpec := { name := "fnExactPlanDo", fn := fun _ => fun
  | [d1, d2] => { results := [.lit (.bool false)], args := [d1, d2] }
  | _ => none }
def FnExactPlanDoWrongFalsely : Prop := fnExactPlanDoRow.holds Try.pinned (OpenSpec.ofChange fnExactPlanDoWrong)

/-- 'laws.FnExactWorldNew': WHATEVER THE INPUT: true; the input reads as it did. -/
def fnExactWorldNewSpec : ChangeSpec := { name := "fnExactWorldNew", fn := fun _ => fun
  | [d] => { results := [.lit (.bool true)], args := [d] }
  | _ => none }
def fnExactWorldNewRow : OpenClaim := { program := "ytbfkcfmhlanlnaa", sum := "e698ed9668ff8fb4460ec0785f82918ce1d3d25e3e11987016bb498ec5e30903", func := "loop.example/keelson/laws.FnExactWorldNew", spec := "fnExactWorldNew", apart := false }
def FnExactWorldNewSaid : Prop := fnExactWorldNewRow.holds Try.pinned (OpenSpec.ofChange fnExactWorldNewSpec)

/-- ITS FALSE NEIGHBOUR: 'it returns false'. Refute it at one input. -/
def fnExactWorldNewWrong : ChangeSpec := { name := "fnExactWorldNew", fn := fun _ => fun
  | [d] => { results := [.lit (.bool false)], args := [d] }
  | _ => none }
def FnExactWorldNewWrongFalsely : Prop := fnExactWorldNewRow.holds Try.pinned (OpenSpec.ofChange fnExactWorldNewWrong)

/- THE SECOND FORM. 'bulk': how many values and letters a reading holds, each counted each time it is reached (what is shared counts as often as it is met; a slice's spare places count too). A statement '..UptoSaid' is the law's where the arguments, and the package variables that the reading takes, are together of bulk at most 1048576: NARROWER than '..Said'. Prove '..Said' where nothing that the law and all that it calls make is longer than what came in: it says more and counts as full. Else prove '..UptoSaid'. A law counts once. -/
mutual
def uptoBulk {H : Type} : DataW H → Nat
  | .lit (.string bytes) => bytes.length + 1
  | .lit _ => 1
  | .nil => 1
  | .ptr d => uptoBulk d + 1
  | .slice elems spare => uptoBulkAll elems + uptoBulkAll spare + 1
  | .agg parts => uptoBulkAll parts + 1
  | .iface _ d => uptoBulk d + 1
  | .map entries => uptoBulkEntries entries + 1
  | .held _ => 1
def uptoBulkAll {H : Type} : List (DataW H) → Nat
  | [] => 0
  | d :: r => uptoBulk d + uptoBulkAll r
def uptoBulkEntries {H : Type} : List (Lit × DataW H) → Nat
  | [] => 0
  | x :: r => uptoBulkEntry x + uptoBulkEntries r
def uptoBulkEntry {H : Type} : Lit × DataW H → Nat
  | (.string bytes, d) => bytes.length + uptoBulk d + 1
  | (_, d) => uptoBulk d + 1
 end
def uptoSmall : (H : Type) → List (DataW H) → Bool := fun _ ds => decide (uptoBulkAll ds ≤ 1048576)
def OpenSpec.upto (s : _root_.Go.ChangeSpec) : _root_.Go.OpenSpec := { _root_.Go.OpenSpec.ofChange s with cond := some uptoSmall }

/-- 'laws.FnExactTextRows', WHERE WHAT IT READS IS OF BULK AT MOST 1048576: true; the input reads as it did. -/
def fnExactTextRowsUptoRow : OpenClaim := { program := "ytbfkcfmhlanlnaa", sum := "e698ed9668ff8fb4460ec0785f82918ce1d3d25e3e11987016bb498ec5e30903", func := "loop.example/keelson/laws.FnExactTextRows", spec := "fnExactTextRows", unfollowed := true, recurses := true, apart := false, narrowed := true }
def FnExactTextRowsUptoSaid : Prop := fnExactTextRowsUptoRow.holds Try.pinned (OpenSpec.upto fnExactTextRowsSpec)

/-- 'laws.FnTextRows', WHERE WHAT IT READS IS OF BULK AT MOST 1048576: true; the input reads as it did. -/
def fnTextRowsUptoRow : OpenClaim := { program := "ytbfkcfmhlanlnaa", sum := "e698ed9668ff8fb4460ec0785f82918ce1d3d25e3e11987016bb498ec5e30903", func := "loop.example/keelson/laws.FnTextRows", spec := "fnTextRows", unfollowed := true, recurses := true, apart := false, narrowed := true }
def FnTextRowsUptoSaid : Prop := fnTextRowsUptoRow.holds Try.pinned (OpenSpec.upto fnTextRowsSpec)

/-- 'laws.FnExactTextCut', WHERE WHAT IT READS IS OF BULK AT MOST 1048576: true; the input reads as it did. -/
def fnExactTextCutUptoRow : OpenClaim := { program := "ytbfkcfmhlanlnaa", sum := "e698ed9668ff8fb4460ec0785f82918ce1d3d25e3e11987016bb498ec5e30903", func := "loop.example/keelson/laws.FnExactTextCut", spec := "fnExactTextCut", unfollowed := true, recurses := true, apart := false, narrowed := true }
def FnExactTextCutUptoSaid : Prop := fnExactTextCutUptoRow.holds Try.pinned (OpenSpec.upto fnExactTextCutSpec)

/-- 'laws.FnExactRotFind', WHERE WHAT IT READS IS OF BULK AT MOST 1048576: true; the input reads as it did. -/
def fnExactRotFindUptoRow : OpenClaim := { program := "ytbfkcfmhlanlnaa", sum := "e698ed9668ff8fb4460ec0785f82918ce1d3d25e3e11987016bb498ec5e30903", func := "loop.example/keelson/laws.FnExactRotFind", spec := "fnExactRotFind", apart := false, narrowed := true }
def FnExactRotFindUptoSaid : Prop := fnExactRotFindUptoRow.holds Try.pinned (OpenSpec.upto fnExactRotFindSpec)

/-- 'laws.FnTextBack', WHERE WHAT IT READS IS OF BULK AT MOST 1048576: true; the input reads as it did. -/
def fnTextBackUptoRow : OpenClaim := { program := "ytbfkcfmhlanlnaa", sum := "e698ed9668ff8fb4460ec0785f82918ce1d3d25e3e11987016bb498ec5e30903", func := "loop.example/keelson/laws.FnTextBack", spec := "fnTextBack", unfollowed := true, recurses := true, apart := false, narrowed := true }
def FnTextBackUptoSaid : Prop := fnTextBackUptoRow.holds Try.pinned (OpenSpec.upto fnTextBackSpec)

/-- 'laws.FnExactTextJoin', WHERE WHAT IT READS IS OF BULK AT MOST 1048576: true; the input reads as it did. -/
def fnExactTextJoinUptoRow : OpenClaim := { program := "ytbfkcfmhlanlnaa", sum := "e698ed9668ff8fb4460ec0785f82918ce1d3d25e3e11987016bb498ec5e30903", func := "loop.example/keelson/laws.FnExactTextJoin", spec := "fnExactTextJoin", unfollowed := true, recurses := true, apart := false, narrowed := true }
def FnExactTextJoinUptoSaid : Prop := fnExactTextJoinUptoRow.holds Try.pinned (OpenSpec.upto fnExactTextJoinSpec)

/-- 'laws.FnTextStrict', WHERE WHAT IT READS IS OF BULK AT MOST 1048576: true; the input reads as it did. -/
def fnTextStrictUptoRow : OpenClaim := { program := "ytbfkcfmhlanlnaa", sum := "e698ed9668ff8fb4460ec0785f82918ce1d3d25e3e11987016bb498ec5e30903", func := "loop.example/keelson/laws.FnTextStrict", spec := "fnTextStrict", unfollowed := true, recurses := true, apart := false, narrowed := true }
def FnTextStrictUptoSaid : Prop := fnTextStrictUptoRow.holds Try.pinned (OpenSpec.upto fnTextStrictSpec)

/-- 'laws.FnRotFind', WHERE WHAT IT READS IS OF BULK AT MOST 1048576: true; the input reads as it did. -/
def fnRotFindUptoRow : OpenClaim := { program := "ytbfkcfmhlanlnaa", sum := "e698ed9668ff8fb4460ec0785f82918ce1d3d25e3e11987016bb498ec5e30903", func := "loop.example/keelson/laws.FnRotFind", spec := "fnRotFind", apart := false, narrowed := true }
def FnRotFindUptoSaid : Prop := fnRotFindUptoRow.holds Try.pinned (OpenSpec.upto fnRotFindSpec)

/-- 'laws.FnExactPlanDo', WHERE WHAT IT READS IS OF BULK AT MOST 1048576: true; the input reads as it did. -/
def fnExactPlanDoUptoRow : OpenClaim := { program := "ytbfkcfmhlanlnaa", sum := "e698ed9668ff8fb4460ec0785f82918ce1d3d25e3e11987016bb498ec5e30903", func := "loop.example/keelson/laws.FnExactPlanDo", spec := "fnExactPlanDo", unfollowed := true, recurses := true, apart := false, narrowed := true }
def FnExactPlanDoUptoSaid : Prop := fnExactPlanDoUptoRow.holds Try.pinned (OpenSpec.upto fnExactPlanDoSpec)

/-- 'laws.FnExactWorldNew', WHERE WHAT IT READS IS OF BULK AT MOST 1048576: true; the input reads as it did. -/
def fnExactWorldNewUptoRow : OpenClaim := { program := "ytbfkcfmhlanlnaa", sum := "e698ed9668ff8fb4460ec0785f82918ce1d3d25e3e11987016bb498ec5e30903", func := "loop.example/keelson/laws.FnExactWorldNew", spec := "fnExactWorldNew", apart := false, narrowed := true }
def FnExactWorldNewUptoSaid : Prop := fnExactWorldNewUptoRow.holds Try.pinned (OpenSpec.upto fnExactWorldNewSpec)

end Rows
end Go.Proofs.Ytbfkcfmhlanlnaa
