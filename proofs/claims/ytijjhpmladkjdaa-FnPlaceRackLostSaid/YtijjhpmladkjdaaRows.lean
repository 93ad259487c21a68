/-
  No cell of these rows narrows 'for every input' (looked for: loops, veiled, ifaces, maps, wideKeys, modest, calm, conditions, laid).
  DERIVED. THE GIVEN ROWS OF THIS SEAT. 4 by the template 'for every input the law returns true; each argument reads behind the call as it read before'; 0 by the template 'total and deterministic' (their statements: YtijjhpmladkjdaaTotals.lean).
  GIVEN WITH THE SEED: the statements are not yours to turn. If you find one false, say at which input.
  Laid BY PROGRAM, IN A SANDBOX (cutbox-rows.mjs): the forced cells as the released guide's own fill.sh prints them over the translation 2b33506a0a546a7d… (all of the seat's roots in one cut). By AI agents, Wed Nov 11 2026. No macro, syntax, notation, axiom, sorry.
-/
import Derived.Test.YtijjhpmladkjdaaChecked
import GoSem.Claim
import GoSem.ClaimJoined
import GoSem.ClaimMapViews
import Derived.JoinedTies
import Derived.KernelRfl
namespace Go.Proofs.Ytijjhpmladkjdaa
/- THE CELL 'sum', in the pinned program and in every row, IS THE sha256 OF THE DUMP (.gsa) THAT YtijjhpmladkjdaaProg.lean LOADS. Nothing in Lean hashes anything: it is a label: what it is worth is what the hold of that sum in a sandbox is worth. -/
noncomputable def Try.pinned : Pinned := { name := "ytijjhpmladkjdaa", sum := "2b33506a0a546a7d35b44bfaa018e836298501578bb3f014b380dc1764cb9a68", checked := Try.checked }
namespace Rows
def none {H : Type} : Left H := { results := [], args := [] }

/-- 'laws.FnTextStrict': WHATEVER THE INPUT: true; the input reads as it did. -/
def fnTextStrictSpec : ChangeSpec := { name := "fnTextStrict", fn := fun _ => fun
  | [d] => { results := [.lit (.bool true)], args := [d] }
  | _ => none }
def fnTextStrictRow : OpenClaim := { program := "ytijjhpmladkjdaa", sum := "2b33506a0a546a7d35b44bfaa018e836298501578bb3f014b380dc1764cb9a68", func := "loop.example/keelson/laws.FnTextStrict", spec := "fnTextStrict", unfollowed := true, recurses := true, apart := false }
def FnTextStrictSaid : Prop := fnTextStrictRow.holds Try.pinned (OpenSpec.ofChange fnTextStrictSpec)

/-- ITS FALSE NEIGHBOUR: 'it returns false'. Refute it at one input. -/
def fnTextStrictWrong : ChangeSpec := { name := "fnTextStrict", fn := fun _ => fun
  | [d] => { results := [.lit (.bool false)], args := [d] }
  | _ => none }
def FnTextStrictWrongFalsely : Prop := fnTextStrictRow.holds Try.pinned (OpenSpec.ofChange fnTextStrictWrong)

/-- 'laws.FnProgOf': WHATEVER THE INPUT: true; the input reads as it did. -/
def fnProgOfSpec : ChangeSpec := { name := "fnProgOf", fn := fun _ => fun
  | [d1, d2] => { results := [.lit (.bool true)], args := [d1, d2] }
  | _ => none }
def fnProgOfRow : OpenClaim := { program := "ytijjhpmladkjdaa", sum := "2b33506a0a546a7d35b44bfaa018e836298501578bb3f014b380dc1764cb9a68", func := "loop.example/keelson/laws.FnProgOf", spec := "fnProgOf", unfollowed := true, recurses := true, apart := false }
def FnProgOfSaid : Prop := fnProgOfRow.holds Try.pinned (OpenSpec.ofChange fnProgOfSpec)

/-- ITS FALSE NEIGHBOUR: 'it returns false'. Refute it at one input. -/
def fnProgOfWrong : ChangeSpec := { name := "fnProgOf", fn := fun _ => fun
  | [d1, d2] => { results := [.lit (.bool false)], args := [d1, d2] }
  | _ => none }
def FnProgOfWrongFalsely : Prop := fnProgOfRow.holds Try.pinned (OpenSpec.ofChange fnProgOfWrong)

/-- 'laws.FnPlaceLess': WHATEVER THE INPUT: true; the input reads as it did. -/
def fnPlaceLessSpec : ChangeSpec := { name := "fnPlaceLess", fn := fun _ => fun
  | [d1, d2] => { results := [.lit (.bool true)], args := [d1, d2] }
  | _ => none }
def fnPlaceLessRow : OpenClaim := { program := "ytijjhpmladkjdaa", sum := "2b33506a0a546a7d35b44bfaa018e836298501578bb3f014b380dc1764cb9a68", func := "loop.example/keelson/laws.FnPlaceLess", spec := "fnPlaceLess", unfollowed := true, recurses := true, apart := false }
def FnPlaceLessSaid : Prop := fnPlaceLessRow.holds Try.pinned (OpenSpec.ofChange fnPlaceLessSpec)

/-- ITS FALSE NEIGHBOUR: 'it returns false'. Refute it at one input. -/
def fnPlaceLessWrong : ChangeSpec := { name := "fnPlaceLess", fn := fun _ => fun
  | [d1, d2] => { results := [.lit (.bool false)], args := [d1, d2] }
  | _ => none }
def FnPlaceLessWrongFalsely : Prop := fnPlaceLessRow.holds Try.pinned (OpenSpec.ofChange fnPlaceLessWrong)

/-- 'laws.FnPlaceRackLost': WHATEVER THE INPUT: true; the input reads as it did. -/
def fnPlaceRackLostSpec : ChangeSpec := { name := "fnPlaceRackLost", fn := fun _ => fun
  | [d1, d2] => { results := [.lit (.bool true)], args := [d1, d2] }
  | _ => none }
def fnPlaceRackLostRow : OpenClaim := { program := "ytijjhpmladkjdaa", sum := "2b33506a0a546a7d35b44bfaa018e836298501578bb3f014b380dc1764cb9a68", func := "loop.example/keelson/laws.FnPlaceRackLost", spec := "fnPlaceRackLost", unfollowed := true, recurses := true, apart := false }
def FnPlaceRackLostSaid : Prop := fnPlaceRackLostRow.holds Try.pinned (OpenSpec.ofChange fnPlaceRackLostSpec)

/-- ITS FALSE NEIGHBOUR: 'it returns false'. Refute it at one input. -/
def fnPlaceRackLostWrong : ChangeSpec := { name := "fnPlaceRackLost", fn := fun _ => fun
  | [d1, d2] => { results := [.lit (.bool false)], args := [d1, d2] }
  | _ => none }
def FnPlaceRackLostWrongFalsely : Prop := fnPlaceRackLostRow.holds Try.pinned (OpenSpec.ofChange fnPlaceRackLostWrong)

/- THE SECOND FORM. 'bulk': how many values and letters a reading holds, each counted each time it is reached (what is shared counts as often as it is met; a slice's spare places count too). A statement '..UptoSaid' is the law's where the arguments, and the package variables that the reading takes, are together of bulk at most 1048576: NARROWER than '..Said'. Prove '..Said' where nothing that the law and all that it calls make is longer than what came in: it says more and counts as full. Else prove '..UptoSaid'. A law counts once. -/
mutual
def uptoBulk {H : Type} : DataW H → Nat
  | .lit (.string bytes) => bytes.length + 1
  | .lit _ => 1
  | .nil => 1
  | .ptr d => uptoBulk d + 1
  | .slice elems spare => uptoBulkAll elems + uptoBulkAll spare + 1
  | .agg parts => uptoBulkAll parts + 1
  | .iface _ d => uptoBulk d + 1
  | .map entries => uptoBulkEntries entries + 1
  | .held _ => 1
def uptoBulkAll {H : Type} : List (DataW H) → Nat
  | [] => 0
  | d :: r => uptoBulk d + uptoBulkAll r
def uptoBulkEntries {H : Type} : List (Lit × DataW H) → Nat
  | [] => 0
  | x :: r => uptoBulkEntry x + uptoBulkEntries r
def uptoBulkEntry {H : Type} : Lit × DataW H → Nat
  | (.string bytes, d) => bytes.length + uptoBulk d + 1
  | (_, d) => uptoBulk d + 1
 end
def uptoSmall : (H : Type) → List (DataW H) → Bool := fun _ ds => decide (uptoBulkAll ds ≤ 1048576)
def OpenSpec.upto (s : _root_.Go.ChangeSpec) : _root_.Go.OpenSpec := { _root_.Go.OpenSpec.ofChange s with cond := some uptoSmall }

/-- 'laws.FnTextStrict', WHERE WHAT IT READS IS OF BULK AT MOST 1048576: true; the input reads as it did. -/
def fnTextStrictUptoRow : OpenClaim := { program := "ytijjhpmladkjdaa", sum := "2b33506a0a546a7d35b44bfaa018e836298501578bb3f014b380dc1764cb9a68", func := "loop.example/keelson/laws.FnTextStrict", spec := "fnTextStrict", unfollowed := true, recurses := true, apart := false, narrowed := true }
def FnTextStrictUptoSaid : Prop := fnTextStrictUptoRow.holds Try.pinned (OpenSpec.upto fnTextStrictSpec)

/-- 'laws.FnProgOf', WHERE WHAT IT READS IS OF BULK AT MOST 1048576: true; the input reads as it did. -/
def fnProgOfUptoRow : OpenClaim := { program := "ytijjhpmladkjdaa", sum := "2b33506a0a546a7d35b44bfaa018e836298501578bb3f014b380dc1764cb9a68", func := "loop.example/keelson/laws.FnProgOf", spec := "fnProgOf", unfollowed := true, recurses := true, apart := false, narrowed := true }
def FnProgOfUptoSaid : Prop := fnProgOfUptoRow.holds Try.pinned (OpenSpec.upto fnProgOfSpec)

/-- 'laws.FnPlaceLess', WHERE WHAT IT READS IS OF BULK AT MOST 1048576: true; the input reads as it did. -/
def fnPlaceLessUptoRow : OpenClaim := { program := "ytijjhpmladkjdaa", sum := "2b33506a0a546a7d35b44bfaa018e836298501578bb3f014b380dc1764cb9a68", func := "loop.example/keelson/laws.FnPlaceLess", spec := "fnPlaceLess", unfollowed := true, recurses := true, apart := false, narrowed := true }
def FnPlaceLessUptoSaid : Prop := fnPlaceLessUptoRow.holds Try.pinned (OpenSpec.upto fnPlaceLessSpec)

/-- 'laws.FnPlaceRackLost', WHERE WHAT IT READS IS OF BULK AT MOST 1048576: true; the input reads as it did. -/
def fnPlaceRackLostUptoRow : OpenClaim := { program := "ytijjhpmladkjdaa", sum := "2b33506a0a546a7d35b44bfaa018e836298501578bb3f014b380dc1764cb9a68", func := "loop.example/keelson/laws.FnPlaceRackLost", spec := "fnPlaceRackLost", unfollowed := true, recurses := true, apart := false, narrowed := true }
def FnPlaceRackLostUptoSaid : Prop := fnPlaceRackLostUptoRow.holds Try.pinned (OpenSpec.upto fnPlaceRackLostSpec)

end Rows
end Go.Proofs.Ytijjhpmladkjdaa
