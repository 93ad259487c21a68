/-
  No cell of these rows narrows 'for every input' (looked for: loops, veiled, ifaces, maps, wideKeys, modest, calm, conditions, laid).
  DERIVED. THE GIVEN ROWS OF THIS SEAT. 9 by the template 'for every input the law returns true; each argument reads behind the call as it read before'; 0 by the template 'total and deterministic' (their statements: YtmipjlbkcfpkiaaTotals.lean).
  GIVEN WITH THE SEED: the statements are not yours to turn. If you find one false, say at which input.
  Laid BY PROGRAM, IN A SANDBOX (cutbox-rows.mjs): the forced cells as the released guide's own fill.sh prints them over the translation 59039e0dbf88ae57… (all of the seat's roots in one cut). By AI agents, Wed Nov 11 2026. No macro, syntax, notation, axiom, sorry.
-/
import Derived.Test.YtmipjlbkcfpkiaaChecked
import GoSem.Claim
import GoSem.ClaimJoined
import GoSem.ClaimMapViews
import Derived.JoinedTies
import Derived.KernelRfl
namespace Go.Proofs.Ytmipjlbkcfpkiaa
/- THE CELL 'sum', in the pinned program and in every row, IS THE sha256 OF THE DUMP (.gsa) THAT YtmipjlbkcfpkiaaProg.lean LOADS. Nothing in Lean hashes anything: it is a label: what it is worth is what the hold of that sum in a sandbox is worth. -/
noncomputable def Try.pinned : Pinned := { name := "ytmipjlbkcfpkiaa", sum := "59039e0dbf88ae57a25bb91e3650ed3e5eff42e86f8acf84e22b7e1df1b10801", checked := Try.checked }
namespace Rows
def none {H : Type} : Left H := { results := [], args := [] }

/-- 'laws.FnExactPlaceOf': WHATEVER THE INPUT: true; the input reads as it did. -/
def fnExactPlaceOfSpec : ChangeSpec := { name := "fnExactPlaceOf", fn := fun _ => fun
  | [d1, d2] => { results := [.lit (.bool true)], args := [d1, d2] }
  | _ => none }
def fnExactPlaceOfRow : OpenClaim := { program := "ytmipjlbkcfpkiaa", sum := "59039e0dbf88ae57a25bb91e3650ed3e5eff42e86f8acf84e22b7e1df1b10801", func := "loop.example/keelson/laws.FnExactPlaceOf", spec := "fnExactPlaceOf", unfollowed := true, recurses := true, apart := false }
def FnExactPlaceOfSaid : Prop := fnExactPlaceOfRow.holds Try.pinned (OpenSpec.ofChange fnExactPlaceOfSpec)

/-- ITS FALSE NEIGHBOUR: 'it returns false'. Refute it at one input. -/
def fnExactPlaceOfWrong : ChangeSpec := { name := "fnExactPlaceOf", fn := fun _ => fun
  | [d1, d2] => { results := [.lit (.bool false)], args := [d1, d2] }
  | _ => none }
def FnExactPlaceOfWrongFalsely : Prop := fnExactPlaceOfRow.holds Try.pinned (OpenSpec.ofChange fnExactPlaceOfWrong)

/-- 'laws.FnPlaceSame': WHATEVER THE INPUT: true; the input reads as it did. -/
def fnPlaceSameSpec : ChangeSpec := { name := "fnPlaceSame", fn := fun _ => fun
  | [d] => { results := [.lit (.bool true)], args := [d] }
  | _ => none }
def fnPlaceSameRow : OpenClaim := { program := "ytmipjlbkcfpkiaa", sum := "59039e0dbf88ae57a25bb91e3650ed3e5eff42e86f8acf84e22b7e1df1b10801", func := "loop.example/keelson/laws.FnPlaceSame", spec := "fnPlaceSame", unfollowed := true, recurses := true, apart := false }
def FnPlaceSameSaid : Prop := fnPlaceSameRow.holds Try.pinned (OpenSpec.ofChange fnPlaceSameSpec)

/-- ITS FALSE NEIGHBOUR: 'it returns false'. Refute it at one input. -/
def fnPlaceSameWrong : ChangeSpec := { name := "fnPlaceSame", fn := fun _ => fun
  | [d] => { results := [.lit (.bool false)], args := [d] }
  | _ => none }
def FnPlaceSameWrongFalsely : Prop := fnPlaceSameRow.holds Try.pinned (OpenSpec.ofChange fnPlaceSameWrong)

/-- 'laws.FnPlace': WHATEVER THE INPUT: true; the input reads as it did. -/
def fnPlaceSpec : ChangeSpec := { name := "fnPlace", fn := fun _ => fun
  | [d] => { results := [.lit (.bool true)], args := [d] }
  | _ => none }
def fnPlaceRow : OpenClaim := { program := "ytmipjlbkcfpkiaa", sum := "59039e0dbf88ae57a25bb91e3650ed3e5eff42e86f8acf84e22b7e1df1b10801", func := "loop.example/keelson/laws.FnPlace", spec := "fnPlace", unfollowed := true, recurses := true, apart := false }
def FnPlaceSaid : Prop := fnPlaceRow.holds Try.pinned (OpenSpec.ofChange fnPlaceSpec)

/-- ITS FALSE NEIGHBOUR: 'it returns false'. Refute it at one input. -/
def fnPlaceWrong : ChangeSpec := { name := "fnPlace", fn := fun _ => fun
  | [d] => { results := [.lit (.bool false)], args := [d] }
  | _ => none }
def FnPlaceWrongFalsely : Prop := fnPlaceRow.holds Try.pinned (OpenSpec.ofChange fnPlaceWrong)

/-- 'laws.FnPlaceBest': WHATEVER THE INPUT: true; the input reads as it did. -/
def fnPlaceBestSpec : ChangeSpec := { name := "fnPlaceBest", fn := fun _ => fun
  | [d] => { results := [.lit (.bool true)], args := [d] }
  | _ => none }
def fnPlaceBestRow : OpenClaim := { program := "ytmipjlbkcfpkiaa", sum := "59039e0dbf88ae57a25bb91e3650ed3e5eff42e86f8acf84e22b7e1df1b10801", func := "loop.example/keelson/laws.FnPlaceBest", spec := "fnPlaceBest", unfollowed := true, recurses := true, apart := false }
def FnPlaceBestSaid : Prop := fnPlaceBestRow.holds Try.pinned (OpenSpec.ofChange fnPlaceBestSpec)

/-- ITS FALSE NEIGHBOUR: 'it returns false'. Refute it at one input. -/
def fnPlaceBestWrong : ChangeSpec := { name := "fnPlaceBest", fn := fun _ => fun
  | [d] => { results := [.lit (.bool false)], args := [d] }
  | _ => none }
def FnPlaceBestWrongFalsely : Prop := fnPlaceBestRow.holds Try.pinned (OpenSpec.ofChange fnPlaceBestWrong)

/-- 'laws.FnPlaceLess': WHATEVER THE INPUT: true; the input reads as it did. -/
def fnPlaceLessSpec : ChangeSpec := { name := "fnPlaceLess", fn := fun _ => fun
  | [d1, d2] => { results := [.lit (.bool true)], args := [d1, d2] }
  | _ => none }
def fnPlaceLessRow : OpenClaim := { program := "ytmipjlbkcfpkiaa", sum := "59039e0dbf88ae57a25bb91e3650ed3e5eff42e86f8acf84e22b7e1df1b10801", func := "loop.example/keelson/laws.FnPlaceLess", spec := "fnPlaceLess", unfollowed := true, recurses := true, apart := false }
def FnPlaceLessSaid : Prop := fnPlaceLessRow.holds Try.pinned (OpenSpec.ofChange fnPlaceLessSpec)

/-- ITS FALSE NEIGHBOUR: 'it returns false'. Refute it at one input. -/
def fnPlaceLessWrong : ChangeSpec := { name := "fnPlaceLess", fn := fun _ => fun
  | [d1, d2] => { results := [.lit (.bool false)], args := [d1, d2] }
  | _ => none }
def FnPlaceLessWrongFalsely : Prop := fnPlaceLessRow.holds Try.pinned (OpenSpec.ofChange fnPlaceLessWrong)

/-- 'laws.FnPlanSum': WHATEVER THE INPUT: true; the input reads as it did. -/
def fnPlanSumSpec : ChangeSpec := { name := "fnPlanSum", fn := fun _ => fun
  | [d] => { results := [.lit (.bool true)], args := [d] }
  | _ => none }
def fnPlanSumRow : OpenClaim := { program := "ytmipjlbkcfpkiaa", sum := "59039e0dbf88ae57a25bb91e3650ed3e5eff42e86f8acf84e22b7e1df1b10801", func := "loop.example/keelson/laws.FnPlanSum", spec := "fnPlanSum", unfollowed := true, recurses := true, apart := false }
def FnPlanSumSaid : Prop := fnPlanSumRow.holds Try.pinned (OpenSpec.ofChange fnPlanSumSpec)

/-- ITS FALSE NEIGHBOUR: 'it returns false'. Refute it at one input. -/
def fnPlanSumWrong : ChangeSpec := { name := "fnPlanSum", fn := fun _ => fun
  | [d] => { results := [.lit (.bool false)], args := [d] }
  | _ => none }
def FnPlanSumWrongFalsely : Prop := fnPlanSumRow.holds Try.pinned (OpenSpec.ofChange fnPlanSumWrong)

/-- 'laws.FnProgOf': WHATEVER THE INPUT: true; the input reads as it did. -/
def fnProgOfSpec : ChangeSpec := { name := "fnProgOf", fn := fun _ => fun
  | [d1, d2] => { results := [.lit (.bool true)], args := [d1, d2] }
  | _ => none }
def fnProgOfRow : OpenClaim := { program := "ytmipjlbkcfpkiaa", sum := "59039e0dbf88ae57a25bb91e3650ed3e5eff42e86f8acf84e22b7e1df1b10801", func := "loop.example/keelson/laws.FnProgOf", spec := "fnProgOf", unfollowed := true, recurses := true, apart := false }
def FnProgOfSaid : Prop := fnProgOfRow.holds Try.pinned (OpenSpec.ofChange fnProgOfSpec)

/-- ITS FALSE NEIGHBOUR: 'it returns false'. Refute it at one input. -/
def fnProgOfWrong : ChangeSpec := { name := "fnProgOf", fn := fun _ => fun
  | [d1, d2] => { results := [.lit (.bool false)], args := [d1, d2] }
  | _ => none }
def FnProgOfWrongFalsely : Prop := fnProgOfRow.holds Try.pinned (OpenSpec.ofChange fnProgOfWrong)

/-- 'laws.FnPlanDo': WHATEVER THE INPUT: true; the input reads as it did. -/
def fnPlanDoSpec : ChangeSpec := { name := "fnPlanDo", fn := fun _ => fun
  | [d1, d2] => { results := [.lit (.bool true)], args := [d1, d2] }
  | _ => none }
def fnPlanDoRow : OpenClaim := { program := "ytmipjlbkcfpkiaa", sum := "59039e0dbf88ae57a25bb91e3650ed3e5eff42e86f8acf84e22b7e1df1b10801", func := "loop.example/keelson/laws.FnPlanDo", spec := "fnPlanDo", unfollowed := true, recurses := true, apart := false }
def FnPlanDoSaid : Prop := fnPlanDoRow.holds Try.pinned (OpenSpec.ofChange fnPlanDoSpec)

/-- ITS FALSE NEIGHBOUR: 'it returns false'. Refute it at one input. -/
def fnPlanDoWrong : ChangeSpec := { name := "fnPlanDo", fn := fun _ => fun
  | [d1, d2] => { results := [.lit (.bool false)], args := [d1, d2] }
  | _ => none }
def FnPlanDoWrongFalsely : Prop := fnPlanDoRow.holds Try.pinned (OpenSpec.ofChange fnPlanDoWrong)

/-- 'laws.FnPlanNot': WHATEVER THE INPUT: true; the input reads as it did. -/
def fnPlanNotSpec : ChangeSpec := { name := "fnPlanNot", fn := fun _ => fun
  | [d] => { results := [.lit (.bool true)], args := [d] }
  | _ => none }
def fnPlanNotRow : OpenClaim := { program := "ytmipjlbkcfpkiaa", sum := "59039e0dbf88ae57a25bb91e3650ed3e5eff42e86f8acf84e22b7e1df1b10801", func := "loop.example/keelson/laws.FnPlanNot", spec := "fnPlanNot", unfollowed := true, recurses := true, apart := false }
def FnPlanNotSaid : Prop := fnPlanNotRow.holds Try.pinned (OpenSpec.ofChange fnPlanNotSpec)

/-- ITS FALSE NEIGHBOUR: 'it returns false'. Refute it at one input. -/
def fnPlanNotWrong : ChangeSpec := { name := "fnPlanNot", fn := fun _ => fun
  | [d] => { results := [.lit (.bool false)], args := [d] }
  | _ => none }
def FnPlanNotWrongFalsely : Prop := fnPlanNotRow.holds Try.pinned (OpenSpec.ofChange fnPlanNotWrong)

/- THE SECOND FORM. 'bulk': how many values and letters a reading holds, each counted each time it is reached (what is shared counts as often as it is met; a slice's spare places count too). A statement '..UptoSaid' is the law's where the arguments, and the package variables that the reading takes, are together of bulk at most 1048576: NARROWER than '..Said'. Prove '..Said' where nothing that the law and all that it calls make is longer than what came in: it says more and counts as full. Else prove '..UptoSaid'. A law counts once. -/
mutual
def uptoBulk {H : Type} : DataW H → Nat
  | .lit (.string bytes) => bytes.length + 1
  | .lit _ => 1
  | .nil => 1
  | .ptr d => uptoBulk d + 1
  | .slice elems spare => uptoBulkAll elems + uptoBulkAll spare + 1
  | .agg parts => uptoBulkAll parts + 1
  | .iface _ d => uptoBulk d + 1
  | .map entries => uptoBulkEntries entries + 1
  | .held _ => 1
def uptoBulkAll {H : Type} : List (DataW H) → Nat
  | [] => 0
  | d :: r => uptoBulk d + uptoBulkAll r
def uptoBulkEntries {H : Type} : List (Lit × DataW H) → Nat
  | [] => 0
  | x :: r => uptoBulkEntry x + uptoBulkEntries r
def uptoBulkEntry {H : Type} : Lit × DataW H → Nat
  | (.string bytes, d) => bytes.length + uptoBulk d + 1
  | (_, d) => uptoBulk d + 1
 end
def uptoSmall : (H : Type) → List (DataW H) → Bool := fun _ ds => decide (uptoBulkAll ds ≤ 1048576)
def OpenSpec.upto (s : _root_.Go.ChangeSpec) : _root_.Go.OpenSpec := { _root_.Go.OpenSpec.ofChange s with cond := some uptoSmall }

/-- 'laws.FnExactPlaceOf', WHERE WHAT IT READS IS OF BULK AT MOST 1048576: true; the input reads as it did. -/
def fnExactPlaceOfUptoRow : OpenClaim := { program := "ytmipjlbkcfpkiaa", sum := "59039e0dbf88ae57a25bb91e3650ed3e5eff42e86f8acf84e22b7e1df1b10801", func := "loop.example/keelson/laws.FnExactPlaceOf", spec := "fnExactPlaceOf", unfollowed := true, recurses := true, apart := false, narrowed := true }
def FnExactPlaceOfUptoSaid : Prop := fnExactPlaceOfUptoRow.holds Try.pinned (OpenSpec.upto fnExactPlaceOfSpec)

/-- 'laws.FnPlaceSame', WHERE WHAT IT READS IS OF BULK AT MOST 1048576: true; the input reads as it did. -/
def fnPlaceSameUptoRow : OpenClaim := { program := "ytmipjlbkcfpkiaa", sum := "59039e0dbf88ae57a25bb91e3650ed3e5eff42e86f8acf84e22b7e1df1b10801", func := "loop.example/keelson/laws.FnPlaceSame", spec := "fnPlaceSame", unfollowed := true, recurses := true, apart := false, narrowed := true }
def FnPlaceSameUptoSaid : Prop := fnPlaceSameUptoRow.holds Try.pinned (OpenSpec.upto fnPlaceSameSpec)

/-- 'laws.FnPlace', WHERE WHAT IT READS IS OF BULK AT MOST 1048576: true; the input reads as it did. -/
def fnPlaceUptoRow : OpenClaim := { program := "ytmipjlbkcfpkiaa", sum := "59039e0dbf88ae57a25bb91e3650ed3e5eff42e86f8acf84e22b7e1df1b10801", func := "loop.example/keelson/laws.FnPlace", spec := "fnPlace", unfollowed := true, recurses := true, apart := false, narrowed := true }
def FnPlaceUptoSaid : Prop := fnPlaceUptoRow.holds Try.pinned (OpenSpec.upto fnPlaceSpec)

/-- 'laws.FnPlaceBest', WHERE WHAT IT READS IS OF BULK AT MOST 1048576: true; the input reads as it did. -/
def fnPlaceBestUptoRow : OpenClaim := { program := "ytmipjlbkcfpkiaa", sum := "59039e0dbf88ae57a25bb91e3650ed3e5eff42e86f8acf84e22b7e1df1b10801", func := "loop.example/keelson/laws.FnPlaceBest", spec := "fnPlaceBest", unfollowed := true, recurses := true, apart := false, narrowed := true }
def FnPlaceBestUptoSaid : Prop := fnPlaceBestUptoRow.holds Try.pinned (OpenSpec.upto fnPlaceBestSpec)

/-- 'laws.FnPlaceLess', WHERE WHAT IT READS IS OF BULK AT MOST 1048576: true; the input reads as it did. -/
def fnPlaceLessUptoRow : OpenClaim := { program := "ytmipjlbkcfpkiaa", sum := "59039e0dbf88ae57a25bb91e3650ed3e5eff42e86f8acf84e22b7e1df1b10801", func := "loop.example/keelson/laws.FnPlaceLess", spec := "fnPlaceLess", unfollowed := true, recurses := true, apart := false, narrowed := true }
def FnPlaceLessUptoSaid : Prop := fnPlaceLessUptoRow.holds Try.pinned (OpenSpec.upto fnPlaceLessSpec)

/-- 'laws.FnPlanSum', WHERE WHAT IT READS IS OF BULK AT MOST 1048576: true; the input reads as it did. -/
def fnPlanSumUptoRow : OpenClaim := { program := "ytmipjlbkcfpkiaa", sum := "59039e0dbf88ae57a25bb91e3650ed3e5eff42e86f8acf84e22b7e1df1b10801", func := "loop.example/keelson/laws.FnPlanSum", spec := "fnPlanSum", unfollowed := true, recurses := true, apart := false, narrowed := true }
def FnPlanSumUptoSaid : Prop := fnPlanSumUptoRow.holds Try.pinned (OpenSpec.upto fnPlanSumSpec)

/-- 'laws.FnProgOf', WHERE WHAT IT READS IS OF BULK AT MOST 1048576: true; the input reads as it did. -/
def fnProgOfUptoRow : OpenClaim := { program := "ytmipjlbkcfpkiaa", sum := "59039e0dbf88ae57a25bb91e3650ed3e5eff42e86f8acf84e22b7e1df1b10801", func := "loop.example/keelson/laws.FnProgOf", spec := "fnProgOf", unfollowed := true, recurses := true, apart := false, narrowed := true }
def FnProgOfUptoSaid : Prop := fnProgOfUptoRow.holds Try.pinned (OpenSpec.upto fnProgOfSpec)

/-- 'laws.FnPlanDo', WHERE WHAT IT READS IS OF BULK AT MOST 1048576: true; the input reads as it did. -/
def fnPlanDoUptoRow : OpenClaim := { program := "ytmipjlbkcfpkiaa", sum := "59039e0dbf88ae57a25bb91e3650ed3e5eff42e86f8acf84e22b7e1df1b10801", func := "loop.example/keelson/laws.FnPlanDo", spec := "fnPlanDo", unfollowed := true, recurses := true, apart := false, narrowed := true }
def FnPlanDoUptoSaid : Prop := fnPlanDoUptoRow.holds Try.pinned (OpenSpec.upto fnPlanDoSpec)

/-- 'laws.FnPlanNot', WHERE WHAT IT READS IS OF BULK AT MOST 1048576: true; the input reads as it did. -/
def fnPlanNotUptoRow : OpenClaim := { program := "ytmipjlbkcfpkiaa", sum := "59039e0dbf88ae57a25bb91e3650ed3e5eff42e86f8acf84e22b7e1df1b10801", func := "loop.example/keelson/laws.FnPlanNot", spec := "fnPlanNot", unfollowed := true, recurses := true, apart := false, narrowed := true }
def FnPlanNotUptoSaid : Prop := fnPlanNotUptoRow.holds Try.pinned (OpenSpec.upto fnPlanNotSpec)

end Rows
end Go.Proofs.Ytmipjlbkcfpkiaa
