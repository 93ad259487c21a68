/-
  No cell of these rows narrows 'for every input' (looked for: loops, veiled, ifaces, maps, wideKeys, modest, calm, conditions, laid).
  DERIVED. THE GIVEN ROWS OF THIS SEAT. 21 by the template 'for every input the law returns true; each argument reads behind the call as it read before'; 0 by the template 'total and deterministic' (their statements: YthcddjbfolhijaaTotals.lean).
  GIVEN WITH THE SEED: the statements are not yours to turn. If you find one false, say at which input.
  Laid BY PROGRAM, IN A SANDBOX (cutbox-rows.mjs): the forced cells as the released guide's own fill.sh prints them over the translation f3e7eec08605f34b… (all of the seat's roots in one cut). By AI agents, Wed Nov 11 2026. No macro, syntax, notation, axiom, sorry.
-/
import Derived.Test.YthcddjbfolhijaaChecked
import GoSem.Claim
import GoSem.ClaimJoined
import GoSem.ClaimMapViews
import Derived.JoinedTies
import Derived.KernelRfl
namespace Go.Proofs.Ythcddjbfolhijaa
/- THE CELL 'sum', in the pinned program and in every row, IS THE sha256 OF THE DUMP (.gsa) THAT YthcddjbfolhijaaProg.lean LOADS. Nothing in Lean hashes anything: it is a label: what it is worth is what the hold of that sum in a sandbox is worth. -/
noncomputable def Try.pinned : Pinned := { name := "ythcddjbfolhijaa", sum := "f3e7eec08605f34b1a177f143dbc3f15e0fc6e0af3441acdbae4d996639625a7", checked := Try.checked }
namespace Rows
def none {H : Type} : Left H := { results := [], args := [] }

/-- 'laws.FnExactTextRows': WHATEVER THE INPUT: true; the input reads as it did. -/
def fnExactTextRowsSpec : ChangeSpec := { name := "fnExactTextRows", fn := fun _ => fun
  | [d] => { results := [.lit (.bool true)], args := [d] }
  | _ => none }
def fnExactTextRowsRow : OpenClaim := { program := "ythcddjbfolhijaa", sum := "f3e7eec08605f34b1a177f143dbc3f15e0fc6e0af3441acdbae4d996639625a7", func := "loop.example/keelson/laws.FnExactTextRows", spec := "fnExactTextRows", unfollowed := true, recurses := true, apart := false }
def FnExactTextRowsSaid : Prop := fnExactTextRowsRow.holds Try.pinned (OpenSpec.ofChange fnExactTextRowsSpec)

/-- ITS FALSE NEIGHBOUR: 'it returns false'. Refute it at one input. -/
def fnExactTextRowsWrong : ChangeSpec := { name := "fnExactTextRows", fn := fun _ => fun
  | [d] => { results := [.lit (.bool false)], args := [d] }
  | _ => none }
def FnExactTextRowsWrongFalsely : Prop := fnExactTextRowsRow.holds Try.pinned (OpenSpec.ofChange fnExactTextRowsWrong)

/-- 'laws.FnTextRows': WHATEVER THE INPUT: true; the input reads as it did. -/
def fnTextRowsSpec : ChangeSpec := { name := "fnTextRows", fn := fun _ => fun
  | [d1, d2] => { results := [.lit (.bool true)], args := [d1, d2] }
  | _ => none }
def fnTextRowsRow : OpenClaim := { program := "ythcddjbfolhijaa", sum := "f3e7eec08605f34b1a177f143dbc3f15e0fc6e0af3441acdbae4d996639625a7", func := "loop.example/keelson/laws.FnTextRows", spec := "fnTextRows", unfollowed := true, recurses := true, apart := false }
def FnTextRowsSaid : Prop := fnTextRowsRow.holds Try.pinned (OpenSpec.ofChange fnTextRowsSpec)

/-- ITS FALSE NEIGHBOUR: 'it returns false'. Refute it at one input. -/
def fnTextRowsWrong : ChangeSpec := { name := "fnTextRows", fn := fun _ => fun
  | [d1, d2] => { results := [.lit (.bool false)], args := [d1, d2] }
  | _ => none }
def FnTextRowsWrongFalsely : Prop := fnTextRowsRow.holds Try.pinned (OpenSpec.ofChange fnTextRowsWrong)

/-- 'laws.FnExactTextCut': WHATEVER THE INPUT: true; the input reads as it did. -/
def fnExactTextCutSpec : ChangeSpec := { name := "fnExactTextCut", fn := fun _ => fun
  | [d] => { results := [.lit (.bool true)], args := [d] }
  | _ => none }
def fnExactTextCutRow : OpenClaim := { program := "ythcddjbfolhijaa", sum := "f3e7eec08605f34b1a177f143dbc3f15e0fc6e0af3441acdbae4d996639625a7", func := "loop.example/keelson/laws.FnExactTextCut", spec := "fnExactTextCut", unfollowed := true, recurses := true, apart := false }
def FnExactTextCutSaid : Prop := fnExactTextCutRow.holds Try.pinned (OpenSpec.ofChange fnExactTextCutSpec)

/-- ITS FALSE NEIGHBOUR: 'it returns false'. Refute it at one input. -/
def fnExactTextCutWrong : ChangeSpec := { name := "fnExactTextCut", fn := fun _ => fun
  | [d] => { results := [.lit (.bool false)], args := [d] }
  | _ => none }
def FnExactTextCutWrongFalsely : Prop := fnExactTextCutRow.holds Try.pinned (OpenSpec.ofChange fnExactTextCutWrong)

/-- 'laws.FnExactRotFind': WHATEVER THE INPUT: true; the input reads as it did. -/
def fnExactRotFindSpec : ChangeSpec := { name := "fnExactRotFind", fn := fun _ => fun
  | [d] => { results := [.lit (.bool true)], args := [d] }
  | _ => none }
def fnExactRotFindRow : OpenClaim := { program := "ythcddjbfolhijaa", sum := "f3e7eec08605f34b1a177f143dbc3f15e0fc6e0af3441acdbae4d996639625a7", func := "loop.example/keelson/laws.FnExactRotFind", spec := "fnExactRotFind", apart := false }
def FnExactRotFindSaid : Prop := fnExactRotFindRow.holds Try.pinned (OpenSpec.ofChange fnExactRotFindSpec)

/-- ITS FALSE NEIGHBOUR: 'it returns false'. Refute it at one input. -/
def fnExactRotFindWrong : ChangeSpec := { name := "fnExactRotFind", fn := fun _ => fun
  | [d] => { results := [.lit (.bool false)], args := [d] }
  | _ => none }
def FnExactRotFindWrongFalsely : Prop := fnExactRotFindRow.holds Try.pinned (OpenSpec.ofChange fnExactRotFindWrong)

/-- 'laws.FnExactPlanDo': WHATEVER THE INPUT: true; the input reads as it did. -/
def fnExactPlanDoSpec : ChangeSpec := { name := "fnExactPlanDo", fn := fun _ => fun
  | [d1, d2] => { results := [.lit (.bool true)], args := [d1, d2] }
  | _ => none }
def fnExactPlanDoRow : OpenClaim := { program := "ythcddjbfolhijaa", sum := "f3e7eec08605f34b1a177f143dbc3f15e0fc6e0af3441acdbae4d996639625a7", func := "loop.example/keelson/laws.FnExactPlanDo", spec := "fnExactPlanDo", unfollowed := true, recurses := true, apart := false }
def FnExactPlanDoSaid : Prop := fnExactPlanDoRow.holds Try.pinned (OpenSpec.ofChange fnExactPlanDoSpec)

/-- ITS FALSE NEIGHBOUR: 'it returns false'. Refute it at one input. -/
def fnExactPlanDoWrong : ChangeSpec := { name := "fnExactPlanDo", fn := fun _ => fun
  | [d1, d2] => { results := [.lit (.bool false)], args := [d1, d2] }
  | _ => none }
def FnExactPlanDoWrongFalsely : Prop := fnExactPlanDoRow.holds Try.pinned (OpenSpec.ofChange fnExactPlanDoWrong)

/-- 'laws.FnExactTurnSame': WHATEVER THE INPUT: true; the input reads as it did. -/
def fnExactTurnSameSpec : ChangeSpec := { name := "fnExactTurnSame", fn := fun _ => fun
  | [d1, d2, d3] => { results := [.lit (.bool true)], args := [d1, d2, d3] }
  | _ => none }
def fnExactTurnSameRow : OpenClaim := { program := "ythcddjbfolhijaa", sum := "f3e7eec08605f34b1a177f143dbc3f15e0fc6e0af3441acdbae4d996639625a7", func := "loop.example/keelson/laws.FnExactTurnSame", spec := "fnExactTurnSame", unfollowed := true, recurses := true, apart := false }
def FnExactTurnSameSaid : Prop := fnExactTurnSameRow.holds Try.pinned (OpenSpec.ofChange fnExactTurnSameSpec)

/-- ITS FALSE NEIGHBOUR: 'it returns false'. Refute it at one input. -/
def fnExactTurnSameWrong : ChangeSpec := { name := "fnExactTurnSame", fn := fun _ => fun
  | [d1, d2, d3] => { results := [.lit (.bool false)], args := [d1, d2, d3] }
  | _ => none }
def FnExactTurnSameWrongFalsely : Prop := fnExactTurnSameRow.holds Try.pinned (OpenSpec.ofChange fnExactTurnSameWrong)

/-- 'laws.FnTextBack': WHATEVER THE INPUT: true; the input reads as it did. -/
def fnTextBackSpec : ChangeSpec := { name := "fnTextBack", fn := fun _ => fun
  | [d] => { results := [.lit (.bool true)], args := [d] }
  | _ => none }
def fnTextBackRow : OpenClaim := { program := "ythcddjbfolhijaa", sum := "f3e7eec08605f34b1a177f143dbc3f15e0fc6e0af3441acdbae4d996639625a7", func := "loop.example/keelson/laws.FnTextBack", spec := "fnTextBack", unfollowed := true, recurses := true, apart := false }
def FnTextBackSaid : Prop := fnTextBackRow.holds Try.pinned (OpenSpec.ofChange fnTextBackSpec)

/-- ITS FALSE NEIGHBOUR: 'it returns false'. Refute it at one input. -/
def fnTextBackWrong : ChangeSpec := { name := "fnTextBack", fn := fun _ => fun
  | [d] => { results := [.lit (.bool false)], args := [d] }
  | _ => none }
def FnTextBackWrongFalsely : Prop := fnTextBackRow.holds Try.pinned (OpenSpec.ofChange fnTextBackWrong)

/-- 'laws.FnTurnSame': WHATEVER THE INPUT: true; the input reads as it did. -/
def fnTurnSameSpec : ChangeSpec := { name := "fnTurnSame", fn := fun _ => fun
  | [d] => { results := [.lit (.bool true)], args := [d] }
  | _ => none }
def fnTurnSameRow : OpenClaim := { program := "ythcddjbfolhijaa", sum := "f3e7eec08605f34b1a177f143dbc3f15e0fc6e0af3441acdbae4d996639625a7", func := "loop.example/keelson/laws.FnTurnSame", spec := "fnTurnSame", unfollowed := true, recurses := true, apart := false }
def FnTurnSameSaid : Prop := fnTurnSameRow.holds Try.pinned (OpenSpec.ofChange fnTurnSameSpec)

/-- ITS FALSE NEIGHBOUR: 'it returns false'. Refute it at one input. -/
def fnTurnSameWrong : ChangeSpec := { name := "fnTurnSame", fn := fun _ => fun
  | [d] => { results := [.lit (.bool false)], args := [d] }
  | _ => none }
def FnTurnSameWrongFalsely : Prop := fnTurnSameRow.holds Try.pinned (OpenSpec.ofChange fnTurnSameWrong)

/-- 'laws.FnExactTextJoin': WHATEVER THE INPUT: true; the input reads as it did. -/
def fnExactTextJoinSpec : ChangeSpec := { name := "fnExactTextJoin", fn := fun _ => fun
  | [d] => { results := [.lit (.bool true)], args := [d] }
  | _ => none }
def fnExactTextJoinRow : OpenClaim := { program := "ythcddjbfolhijaa", sum := "f3e7eec08605f34b1a177f143dbc3f15e0fc6e0af3441acdbae4d996639625a7", func := "loop.example/keelson/laws.FnExactTextJoin", spec := "fnExactTextJoin", unfollowed := true, recurses := true, apart := false }
def FnExactTextJoinSaid : Prop := fnExactTextJoinRow.holds Try.pinned (OpenSpec.ofChange fnExactTextJoinSpec)

/-- ITS FALSE NEIGHBOUR: 'it returns false'. Refute it at one input. -/
def fnExactTextJoinWrong : ChangeSpec := { name := "fnExactTextJoin", fn := fun _ => fun
  | [d] => { results := [.lit (.bool false)], args := [d] }
  | _ => none }
def FnExactTextJoinWrongFalsely : Prop := fnExactTextJoinRow.holds Try.pinned (OpenSpec.ofChange fnExactTextJoinWrong)

/-- 'laws.FnTextStrict': WHATEVER THE INPUT: true; the input reads as it did. -/
def fnTextStrictSpec : ChangeSpec := { name := "fnTextStrict", fn := fun _ => fun
  | [d] => { results := [.lit (.bool true)], args := [d] }
  | _ => none }
def fnTextStrictRow : OpenClaim := { program := "ythcddjbfolhijaa", sum := "f3e7eec08605f34b1a177f143dbc3f15e0fc6e0af3441acdbae4d996639625a7", func := "loop.example/keelson/laws.FnTextStrict", spec := "fnTextStrict", unfollowed := true, recurses := true, apart := false }
def FnTextStrictSaid : Prop := fnTextStrictRow.holds Try.pinned (OpenSpec.ofChange fnTextStrictSpec)

/-- ITS FALSE NEIGHBOUR: 'it returns false'. Refute it at one input. -/
def fnTextStrictWrong : ChangeSpec := { name := "fnTextStrict", fn := fun _ => fun
  | [d] => { results := [.lit (.bool false)], args := [d] }
  | _ => none }
def FnTextStrictWrongFalsely : Prop := fnTextStrictRow.holds Try.pinned (OpenSpec.ofChange fnTextStrictWrong)

/-- 'laws.FnExactWorldNew': WHATEVER THE INPUT: true; the input reads as it did. -/
def fnExactWorldNewSpec : ChangeSpec := { name := "fnExactWorldNew", fn := fun _ => fun
  | [d] => { results := [.lit (.bool true)], args := [d] }
  | _ => none }
def fnExactWorldNewRow : OpenClaim := { program := "ythcddjbfolhijaa", sum := "f3e7eec08605f34b1a177f143dbc3f15e0fc6e0af3441acdbae4d996639625a7", func := "loop.example/keelson/laws.FnExactWorldNew", spec := "fnExactWorldNew", apart := false }
def FnExactWorldNewSaid : Prop := fnExactWorldNewRow.holds Try.pinned (OpenSpec.ofChange fnExactWorldNewSpec)

/-- ITS FALSE NEIGHBOUR: 'it returns false'. Refute it at one input. -/
def fnExactWorldNewWrong : ChangeSpec := { name := "fnExactWorldNew", fn := fun _ => fun
  | [d] => { results := [.lit (.bool false)], args := [d] }
  | _ => none }
def FnExactWorldNewWrongFalsely : Prop := fnExactWorldNewRow.holds Try.pinned (OpenSpec.ofChange fnExactWorldNewWrong)

/-- 'laws.FnPlanSum': WHATEVER THE INPUT: true; the input reads as it did. -/
def fnPlanSumSpec : ChangeSpec := { name := "fnPlanSum", fn := fun _ => fun
  | [d] => { results := [.lit (.bool true)], args := [d] }
  | _ => none }
def fnPlanSumRow : OpenClaim := { program := "ythcddjbfolhijaa", sum := "f3e7eec08605f34b1a177f143dbc3f15e0fc6e0af3441acdbae4d996639625a7", func := "loop.example/keelson/laws.FnPlanSum", spec := "fnPlanSum", unfollowed := true, recurses := true, apart := false }
def FnPlanSumSaid : Prop := fnPlanSumRow.holds Try.pinned (OpenSpec.ofChange fnPlanSumSpec)

/-- ITS FALSE NEIGHBOUR: 'it returns false'. Refute it at one input. -/
def fnPlanSumWrong : ChangeSpec := { name := "fnPlanSum", fn := fun _ => fun
  | [d] => { results := [.lit (.bool false)], args := [d] }
  | _ => none }
def FnPlanSumWrongFalsely : Prop := fnPlanSumRow.holds Try.pinned (OpenSpec.ofChange fnPlanSumWrong)

/-- 'laws.FnProgOf': WHATEVER THE INPUT: true; the input reads as it did. -/
def fnProgOfSpec : ChangeSpec := { name := "fnProgOf", fn := fun _ => fun
  | [d1, d2] => { results := [.lit (.bool true)], args := [d1, d2] }
  | _ => none }
def fnProgOfRow : OpenClaim := { program := "ythcddjbfolhijaa", sum := "f3e7eec08605f34b1a177f143dbc3f15e0fc6e0af3441acdbae4d996639625a7", func := "loop.example/keelson/laws.FnProgOf", spec := "fnProgOf", unfollowed := true, recurses := true, apart := false }
def FnProgOfSaid : Prop := fnProgOfRow.holds Try.pinned (OpenSpec.ofChange fnProgOfSpec)

/-- ITS FALSE NEIGHBOUR: 'it returns false'. Refute it at one input. -/
def fnProgOfWrong : ChangeSpec := { name := "fnProgOf", fn := fun _ => fun
  | [d1, d2] => { results := [.lit (.bool false)], args := [d1, d2] }
  | _ => none }
def FnProgOfWrongFalsely : Prop := fnProgOfRow.holds Try.pinned (OpenSpec.ofChange fnProgOfWrong)

/-- 'laws.FnPlanDo': WHATEVER THE INPUT: true; the input reads as it did. -/
def fnPlanDoSpec : ChangeSpec := { name := "fnPlanDo", fn := fun _ => fun
  | [d1, d2] => { results := [.lit (.bool true)], args := [d1, d2] }
  | _ => none }
def fnPlanDoRow : OpenClaim := { program := "ythcddjbfolhijaa", sum := "f3e7eec08605f34b1a177f143dbc3f15e0fc6e0af3441acdbae4d996639625a7", func := "loop.example/keelson/laws.FnPlanDo", spec := "fnPlanDo", unfollowed := true, recurses := true, apart := false }
def FnPlanDoSaid : Prop := fnPlanDoRow.holds Try.pinned (OpenSpec.ofChange fnPlanDoSpec)

/-- ITS FALSE NEIGHBOUR: 'it returns false'. Refute it at one input. -/
def fnPlanDoWrong : ChangeSpec := { name := "fnPlanDo", fn := fun _ => fun
  | [d1, d2] => { results := [.lit (.bool false)], args := [d1, d2] }
  | _ => none }
def FnPlanDoWrongFalsely : Prop := fnPlanDoRow.holds Try.pinned (OpenSpec.ofChange fnPlanDoWrong)

/-- 'laws.FnPlanNot': WHATEVER THE INPUT: true; the input reads as it did. -/
def fnPlanNotSpec : ChangeSpec := { name := "fnPlanNot", fn := fun _ => fun
  | [d] => { results := [.lit (.bool true)], args := [d] }
  | _ => none }
def fnPlanNotRow : OpenClaim := { program := "ythcddjbfolhijaa", sum := "f3e7eec08605f34b1a177f143dbc3f15e0fc6e0af3441acdbae4d996639625a7", func := "loop.example/keelson/laws.FnPlanNot", spec := "fnPlanNot", unfollowed := true, recurses := true, apart := false }
def FnPlanNotSaid : Prop := fnPlanNotRow.holds Try.pinned (OpenSpec.ofChange fnPlanNotSpec)

/-- ITS FALSE NEIGHBOUR: 'it returns false'. Refute it at one input. -/
def fnPlanNotWrong : ChangeSpec := { name := "fnPlanNot", fn := fun _ => fun
  | [d] => { results := [.lit (.bool false)], args := [d] }
  | _ => none }
def FnPlanNotWrongFalsely : Prop := fnPlanNotRow.holds Try.pinned (OpenSpec.ofChange fnPlanNotWrong)

/-- 'laws.FnRotFind': WHATEVER THE INPUT: true; the input reads as it did. -/
def fnRotFindSpec : ChangeSpec := { name := "fnRotFind", fn := fun _ => fun
  | [d] => { results := [.lit (.bool true)], args := [d] }
  | _ => none }
def fnRotFindRow : OpenClaim := { program := "ythcddjbfolhijaa", sum := "f3e7eec08605f34b1a177f143dbc3f15e0fc6e0af3441acdbae4d996639625a7", func := "loop.example/keelson/laws.FnRotFind", spec := "fnRotFind", apart := false }
def FnRotFindSaid : Prop := fnRotFindRow.holds Try.pinned (OpenSpec.ofChange fnRotFindSpec)

/-- ITS FALSE NEIGHBOUR: 'it returns false'. Refute it at one input. -/
def fnRotFindWrong : ChangeSpec := { name := "fnRotFind", fn := fun _ => fun
  | [d] => { results := [.lit (.bool false)], args := [d] }
  | _ => none }
def FnRotFindWrongFalsely : Prop := fnRotFindRow.holds Try.pinned (OpenSpec.ofChange fnRotFindWrong)

/-- 'laws.FnPlaceSame': WHATEVER THE INPUT: true; the input reads as it did. -/
def fnPlaceSameSpec : ChangeSpec := { name := "fnPlaceSame", fn := fun _ => fun
  | [d] => { results := [.lit (.bool true)], args := [d] }
  | _ => none }
def fnPlaceSameRow : OpenClaim := { program := "ythcddjbfolhijaa", sum := "f3e7eec08605f34b1a177f143dbc3f15e0fc6e0af3441acdbae4d996639625a7", func := "loop.example/keelson/laws.FnPlaceSame", spec := "fnPlaceSame", unfollowed := true, recurses := true, apart := false }
def FnPlaceSameSaid : Prop := fnPlaceSameRow.holds Try.pinned (OpenSpec.ofChange fnPlaceSameSpec)

/-- ITS FALSE NEIGHBOUR: 'it returns false'. Refute it at one input. -/
def fnPlaceSameWrong : ChangeSpec := { name := "fnPlaceSame", fn := fun _ => fun
  | [d] => { results := [.lit (.bool false)], args := [d] }
  | _ => none }
def FnPlaceSameWrongFalsely : Prop := fnPlaceSameRow.holds Try.pinned (OpenSpec.ofChange fnPlaceSameWrong)

/-- 'laws.FnPlace': WHATEVER THE INPUT: true; the input reads as it did. -/
def fnPlaceSpec : ChangeSpec := { name := "fnPlace", fn := fun _ => fun
  | [d] => { results := [.lit (.bool true)], args := [d] }
  | _ => none }
def fnPlaceRow : OpenClaim := { program := "ythcddjbfolhijaa", sum := "f3e7eec08605f34b1a177f143dbc3f15e0fc6e0af3441acdbae4d996639625a7", func := "loop.example/keelson/laws.FnPlace", spec := "fnPlace", unfollowed := true, recurses := true, apart := false }
def FnPlaceSaid : Prop := fnPlaceRow.holds Try.pinned (OpenSpec.ofChange fnPlaceSpec)

/-- ITS FALSE NEIGHBOUR: 'it returns false'. Refute it at one input. -/
def fnPlaceWrong : ChangeSpec := { name := "fnPlace", fn := fun _ => fun
  | [d] => { results := [.lit (.bool false)], args := [d] }
  | _ => none }
def FnPlaceWrongFalsely : Prop := fnPlaceRow.holds Try.pinned (OpenSpec.ofChange fnPlaceWrong)

/-- 'laws.FnPlaceBest': WHATEVER THE INPUT: true; the input reads as it did. -/
def fnPlaceBestSpec : ChangeSpec := { name := "fnPlaceBest", fn := fun _ => fun
  | [d] => { results := [.lit (.bool true)], args := [d] }
  | _ => none }
def fnPlaceBestRow : OpenClaim := { program := "ythcddjbfolhijaa", sum := "f3e7eec08605f34b1a177f143dbc3f15e0fc6e0af3441acdbae4d996639625a7", func := "loop.example/keelson/laws.FnPlaceBest", spec := "fnPlaceBest", unfollowed := true, recurses := true, apart := false }
def FnPlaceBestSaid : Prop := fnPlaceBestRow.holds Try.pinned (OpenSpec.ofChange fnPlaceBestSpec)

/-- ITS FALSE NEIGHBOUR: 'it returns false'. Refute it at one input. -/
def fnPlaceBestWrong : ChangeSpec := { name := "fnPlaceBest", fn := fun _ => fun
  | [d] => { results := [.lit (.bool false)], args := [d] }
  | _ => none }
def FnPlaceBestWrongFalsely : Prop := fnPlaceBestRow.holds Try.pinned (OpenSpec.ofChange fnPlaceBestWrong)

/-- 'laws.FnExactPlaceOf': WHATEVER THE INPUT: true; the input reads as it did. -/
def fnExactPlaceOfSpec : ChangeSpec := { name := "fnExactPlaceOf", fn := fun _ => fun
  | [d1, d2] => { results := [.lit (.bool true)], args := [d1, d2] }
  | _ => none }
def fnExactPlaceOfRow : OpenClaim := { program := "ythcddjbfolhijaa", sum := "f3e7eec08605f34b1a177f143dbc3f15e0fc6e0af3441acdbae4d996639625a7", func := "loop.example/keelson/laws.FnExactPlaceOf", spec := "fnExactPlaceOf", unfollowed := true, recurses := true, apart := false }
def FnExactPlaceOfSaid : Prop := fnExactPlaceOfRow.holds Try.pinned (OpenSpec.ofChange fnExactPlaceOfSpec)

/-- ITS FALSE NEIGHBOUR: 'it returns false'. Refute it at one input. -/
def fnExactPlaceOfWrong : ChangeSpec := { name := "fnExactPlaceOf", fn := fun _ => fun
  | [d1, d2] => { results := [.lit (.bool false)], args := [d1, d2] }
  | _ => none }
def FnExactPlaceOfWrongFalsely : Prop := fnExactPlaceOfRow.holds Try.pinned (OpenSpec.ofChange fnExactPlaceOfWrong)

/-- 'laws.FnPlaceLess': WHATEVER THE INPUT: true; the input reads as it did. -/
def fnPlaceLessSpec : ChangeSpec := { name := "fnPlaceLess", fn := fun _ => fun
  | [d1, d2] => { results := [.lit (.bool true)], args := [d1, d2] }
  | _ => none }
def fnPlaceLessRow : OpenClaim := { program := "ythcddjbfolhijaa", sum := "f3e7eec08605f34b1a177f143dbc3f15e0fc6e0af3441acdbae4d996639625a7", func := "loop.example/keelson/laws.FnPlaceLess", spec := "fnPlaceLess", unfollowed := true, recurses := true, apart := false }
def FnPlaceLessSaid : Prop := fnPlaceLessRow.holds Try.pinned (OpenSpec.ofChange fnPlaceLessSpec)

/-- ITS FALSE NEIGHBOUR: 'it returns false'. Refute it at one input. -/
def fnPlaceLessWrong : ChangeSpec := { name := "fnPlaceLess", fn := fun _ => fun
  | [d1, d2] => { results := [.lit (.bool false)], args := [d1, d2] }
  | _ => none }
def FnPlaceLessWrongFalsely : Prop := fnPlaceLessRow.holds Try.pinned (OpenSpec.ofChange fnPlaceLessWrong)

/- THE SECOND FORM. 'bulk': how many values and letters a reading holds, each counted each time it is reached (what is shared counts as often as it is met; a slice's spare places count too). A statement '..UptoSaid' is the law's where the arguments, and the package variables that the reading takes, are together of bulk at most 1048576: NARROWER than '..Said'. Prove '..Said' where nothing that the law and all that it calls make is longer than what came in: it says more and counts as full. Else prove '..UptoSaid'. A law counts once. -/
mutual
def uptoBulk {H : Type} : DataW H → Nat
  | .lit (.string bytes) => bytes.length + 1
  | .lit _ => 1
  | .nil => 1
  | .ptr d => uptoBulk d + 1
  | .slice elems spare => uptoBulkAll elems + uptoBulkAll spare + 1
  | .agg parts => uptoBulkAll parts + 1
  | .iface _ d => uptoBulk d + 1
  | .map entries => uptoBulkEntries entries + 1
  | .held _ => 1
def uptoBulkAll {H : Type} : List (DataW H) → Nat
  | [] => 0
  | d :: r => uptoBulk d + uptoBulkAll r
def uptoBulkEntries {H : Type} : List (Lit × DataW H) → Nat
  | [] => 0
  | x :: r => uptoBulkEntry x + uptoBulkEntries r
def uptoBulkEntry {H : Type} : Lit × DataW H → Nat
  | (.string bytes, d) => bytes.length + uptoBulk d + 1
  | (_, d) => uptoBulk d + 1
 end
def uptoSmall : (H : Type) → List (DataW H) → Bool := fun _ ds => decide (uptoBulkAll ds ≤ 1048576)
def OpenSpec.upto (s : _root_.Go.ChangeSpec) : _root_.Go.OpenSpec := { _root_.Go.OpenSpec.ofChange s with cond := some uptoSmall }

/-- 'laws.FnExactTextRows', WHERE WHAT IT READS IS OF BULK AT MOST 1048576: true; the input reads as it did. -/
def fnExactTextRowsUptoRow : OpenClaim := { program := "ythcddjbfolhijaa", sum := "f3e7eec08605f34b1a177f143dbc3f15e0fc6e0af3441acdbae4d996639625a7", func := "loop.example/keelson/laws.FnExactTextRows", spec := "fnExactTextRows", unfollowed := true, recurses := true, apart := false, narrowed := true }
def FnExactTextRowsUptoSaid : Prop := fnExactTextRowsUptoRow.holds Try.pinned (OpenSpec.upto fnExactTextRowsSpec)

/-- 'laws.FnTextRows', WHERE WHAT IT READS IS OF BULK AT MOST 1048576: true; the input reads as it did. -/
def fnTextRowsUptoRow : OpenClaim := { program := "ythcddjbfolhijaa", sum := "f3e7eec08605f34b1a177f143dbc3f15e0fc6e0af3441acdbae4d996639625a7", func := "loop.example/keelson/laws.FnTextRows", spec := "fnTextRows", unfollowed := true, recurses := true, apart := false, narrowed := true }
def FnTextRowsUptoSaid : Prop := fnTextRowsUptoRow.holds Try.pinned (OpenSpec.upto fnTextRowsSpec)

/-- 'laws.FnExactTextCut', WHERE WHAT IT READS IS OF BULK AT MOST 1048576: true; the input reads as it did. -/
def fnExactTextCutUptoRow : OpenClaim := { program := "ythcddjbfolhijaa", sum := "f3e7eec08605f34b1a177f143dbc3f15e0fc6e0af3441acdbae4d996639625a7", func := "loop.example/keelson/laws.FnExactTextCut", spec := "fnExactTextCut", unfollowed := true, recurses := true, apart := false, narrowed := true }
def FnExactTextCutUptoSaid : Prop := fnExactTextCutUptoRow.holds Try.pinned (OpenSpec.upto fnExactTextCutSpec)

/-- 'laws.FnExactRotFind', WHERE WHAT IT READS IS OF BULK AT MOST 1048576: true; the input reads as it did. -/
def fnExactRotFindUptoRow : OpenClaim := { program := "ythcddjbfolhijaa", sum := "f3e7eec08605f34b1a177f143dbc3f15e0fc6e0af3441acdbae4d996639625a7", func := "loop.example/keelson/laws.FnExactRotFind", spec := "fnExactRotFind", apart := false, narrowed := true }
def FnExactRotFindUptoSaid : Prop := fnExactRotFindUptoRow.holds Try.pinned (OpenSpec.upto fnExactRotFindSpec)

/-- 'laws.FnExactPlanDo', WHERE WHAT IT READS IS OF BULK AT MOST 1048576: true; the input reads as it did. -/
def fnExactPlanDoUptoRow : OpenClaim := { program := "ythcddjbfolhijaa", sum := "f3e7eec08605f34b1a177f143dbc3f15e0fc6e0af3441acdbae4d996639625a7", func := "loop.example/keelson/laws.FnExactPlanDo", spec := "fnExactPlanDo", unfollowed := true, recurses := true, apart := false, narrowed := true }
def FnExactPlanDoUptoSaid : Prop := fnExactPlanDoUptoRow.holds Try.pinned (OpenSpec.upto fnExactPlanDoSpec)

/-- 'laws.FnExactTurnSame', WHERE WHAT IT READS IS OF BULK AT MOST 1048576: true; the input reads as it did. -/
def fnExactTurnSameUptoRow : OpenClaim := { program := "ythcddjbfolhijaa", sum := "f3e7eec08605f34b1a177f143dbc3f15e0fc6e0af3441acdbae4d996639625a7", func := "loop.example/keelson/laws.FnExactTurnSame", spec := "fnExactTurnSame", unfollowed := true, recurses := true, apart := false, narrowed := true }
def FnExactTurnSameUptoSaid : Prop := fnExactTurnSameUptoRow.holds Try.pinned (OpenSpec.upto fnExactTurnSameSpec)

/-- 'laws.FnTextBack', WHERE WHAT IT READS IS OF BULK AT MOST 1048576: true; the input reads as it did. -/
def fnTextBackUptoRow : OpenClaim := { program := "ythcddjbfolhijaa", sum := "f3e7eec08605f34b1a177f143dbc3f15e0fc6e0af3441acdbae4d996639625a7", func := "loop.example/keelson/laws.FnTextBack", spec := "fnTextBack", unfollowed := true, recurses := true, apart := false, narrowed := true }
def FnTextBackUptoSaid : Prop := fnTextBackUptoRow.holds Try.pinned (OpenSpec.upto fnTextBackSpec)

/-- 'laws.FnTurnSame', WHERE WHAT IT READS IS OF BULK AT MOST 1048576: true; the input reads as it did. -/
def fnTurnSameUptoRow : OpenClaim := { program := "ythcddjbfolhijaa", sum := "f3e7eec08605f34b1a177f143dbc3f15e0fc6e0af3441acdbae4d996639625a7", func := "loop.example/keelson/laws.FnTurnSame", spec := "fnTurnSame", unfollowed := true, recurses := true, apart := false, narrowed := true }
def FnTurnSameUptoSaid : Prop := fnTurnSameUptoRow.holds Try.pinned (OpenSpec.upto fnTurnSameSpec)

/-- 'laws.FnExactTextJoin', WHERE WHAT IT READS IS OF BULK AT MOST 1048576: true; the input reads as it did. -/
def fnExactTextJoinUptoRow : OpenClaim := { program := "ythcddjbfolhijaa", sum := "f3e7eec08605f34b1a177f143dbc3f15e0fc6e0af3441acdbae4d996639625a7", func := "loop.example/keelson/laws.FnExactTextJoin", spec := "fnExactTextJoin", unfollowed := true, recurses := true, apart := false, narrowed := true }
def FnExactTextJoinUptoSaid : Prop := fnExactTextJoinUptoRow.holds Try.pinned (OpenSpec.upto fnExactTextJoinSpec)

/-- 'laws.FnTextStrict', WHERE WHAT IT READS IS OF BULK AT MOST 1048576: true; the input reads as it did. -/
def fnTextStrictUptoRow : OpenClaim := { program := "ythcddjbfolhijaa", sum := "f3e7eec08605f34b1a177f143dbc3f15e0fc6e0af3441acdbae4d996639625a7", func := "loop.example/keelson/laws.FnTextStrict", spec := "fnTextStrict", unfollowed := true, recurses := true, apart := false, narrowed := true }
def FnTextStrictUptoSaid : Prop := fnTextStrictUptoRow.holds Try.pinned (OpenSpec.upto fnTextStrictSpec)

/-- 'laws.FnExactWorldNew', WHERE WHAT IT READS IS OF BULK AT MOST 1048576: true; the input reads as it did. -/
def fnExactWorldNewUptoRow : OpenClaim := { program := "ythcddjbfolhijaa", sum := "f3e7eec08605f34b1a177f143dbc3f15e0fc6e0af3441acdbae4d996639625a7", func := "loop.example/keelson/laws.FnExactWorldNew", spec := "fnExactWorldNew", apart := false, narrowed := true }
def FnExactWorldNewUptoSaid : Prop := fnExactWorldNewUptoRow.holds Try.pinned (OpenSpec.upto fnExactWorldNewSpec)

/-- 'laws.FnPlanSum', WHERE WHAT IT READS IS OF BULK AT MOST 1048576: true; the input reads as it did. -/
def fnPlanSumUptoRow : OpenClaim := { program := "ythcddjbfolhijaa", sum := "f3e7eec08605f34b1a177f143dbc3f15e0fc6e0af3441acdbae4d996639625a7", func := "loop.example/keelson/laws.FnPlanSum", spec := "fnPlanSum", unfollowed := true, recurses := true, apart := false, narrowed := true }
def FnPlanSumUptoSaid : Prop := fnPlanSumUptoRow.holds Try.pinned (OpenSpec.upto fnPlanSumSpec)

/-- 'laws.FnProgOf', WHERE WHAT IT READS IS OF BULK AT MOST 1048576: true; the input reads as it did. -/
def fnProgOfUptoRow : OpenClaim := { program := "ythcddjbfolhijaa", sum := "f3e7eec08605f34b1a177f143dbc3f15e0fc6e0af3441acdbae4d996639625a7", func := "loop.example/keelson/laws.FnProgOf", spec := "fnProgOf", unfollowed := true, recurses := true, apart := false, narrowed := true }
def FnProgOfUptoSaid : Prop := fnProgOfUptoRow.holds Try.pinned (OpenSpec.upto fnProgOfSpec)

/-- 'laws.FnPlanDo', WHERE WHAT IT READS IS OF BULK AT MOST 1048576: true; the input reads as it did. -/
def fnPlanDoUptoRow : OpenClaim := { program := "ythcddjbfolhijaa", sum := "f3e7eec08605f34b1a177f143dbc3f15e0fc6e0af3441acdbae4d996639625a7", func := "loop.example/keelson/laws.FnPlanDo", spec := "fnPlanDo", unfollowed := true, recurses := true, apart := false, narrowed := true }
def FnPlanDoUptoSaid : Prop := fnPlanDoUptoRow.holds Try.pinned (OpenSpec.upto fnPlanDoSpec)

/-- 'laws.FnPlanNot', WHERE WHAT IT READS IS OF BULK AT MOST 1048576: true; the input reads as it did. -/
def fnPlanNotUptoRow : OpenClaim := { program := "ythcddjbfolhijaa", sum := "f3e7eec08605f34b1a177f143dbc3f15e0fc6e0af3441acdbae4d996639625a7", func := "loop.example/keelson/laws.FnPlanNot", spec := "fnPlanNot", unfollowed := true, recurses := true, apart := false, narrowed := true }
def FnPlanNotUptoSaid : Prop := fnPlanNotUptoRow.holds Try.pinned (OpenSpec.upto fnPlanNotSpec)

/-- 'laws.FnRotFind', WHERE WHAT IT READS IS OF BULK AT MOST 1048576: true; the input reads as it did. -/
def fnRotFindUptoRow : OpenClaim := { program := "ythcddjbfolhijaa", sum := "f3e7eec08605f34b1a177f143dbc3f15e0fc6e0af3441acdbae4d996639625a7", func := "loop.example/keelson/laws.FnRotFind", spec := "fnRotFind", apart := false, narrowed := true }
def FnRotFindUptoSaid : Prop := fnRotFindUptoRow.holds Try.pinned (OpenSpec.upto fnRotFindSpec)

/-- 'laws.FnPlaceSame', WHERE WHAT IT READS IS OF BULK AT MOST 1048576: true; the input reads as it did. -/
def fnPlaceSameUptoRow : OpenClaim := { program := "ythcddjbfolhijaa", sum := "f3e7eec08605f34b1a177f143dbc3f15e0fc6e0af3441acdbae4d996639625a7", func := "loop.example/keelson/laws.FnPlaceSame", spec := "fnPlaceSame", unfollowed := true, recurses := true, apart := false, narrowed := true }
def FnPlaceSameUptoSaid : Prop := fnPlaceSameUptoRow.holds Try.pinned (OpenSpec.upto fnPlaceSameSpec)

/-- 'laws.FnPlace', WHERE WHAT IT READS IS OF BULK AT MOST 1048576: true; the input reads as it did. -/
def fnPlaceUptoRow : OpenClaim := { program := "ythcddjbfolhijaa", sum := "f3e7eec08605f34b1a177f143dbc3f15e0fc6e0af3441acdbae4d996639625a7", func := "loop.example/keelson/laws.FnPlace", spec := "fnPlace", unfollowed := true, recurses := true, apart := false, narrowed := true }
def FnPlaceUptoSaid : Prop := fnPlaceUptoRow.holds Try.pinned (OpenSpec.upto fnPlaceSpec)

/-- 'laws.FnPlaceBest', WHERE WHAT IT READS IS OF BULK AT MOST 1048576: true; the input reads as it did. -/
def fnPlaceBestUptoRow : OpenClaim := { program := "ythcddjbfolhijaa", sum := "f3e7eec08605f34b1a177f143dbc3f15e0fc6e0af3441acdbae4d996639625a7", func := "loop.example/keelson/laws.FnPlaceBest", spec := "fnPlaceBest", unfollowed := true, recurses := true, apart := false, narrowed := true }
def FnPlaceBestUptoSaid : Prop := fnPlaceBestUptoRow.holds Try.pinned (OpenSpec.upto fnPlaceBestSpec)

/-- 'laws.FnExactPlaceOf', WHERE WHAT IT READS IS OF BULK AT MOST 1048576: true; the input reads as it did. -/
def fnExactPlaceOfUptoRow : OpenClaim := { program := "ythcddjbfolhijaa", sum := "f3e7eec08605f34b1a177f143dbc3f15e0fc6e0af3441acdbae4d996639625a7", func := "loop.example/keelson/laws.FnExactPlaceOf", spec := "fnExactPlaceOf", unfollowed := true, recurses := true, apart := false, narrowed := true }
def FnExactPlaceOfUptoSaid : Prop := fnExactPlaceOfUptoRow.holds Try.pinned (OpenSpec.upto fnExactPlaceOfSpec)

/-- 'laws.FnPlaceLess', WHERE WHAT IT READS IS OF BULK AT MOST 1048576: true; the input reads as it did. -/
def fnPlaceLessUptoRow : OpenClaim := { program := "ythcddjbfolhijaa", sum := "f3e7eec08605f34b1a177f143dbc3f15e0fc6e0af3441acdbae4d996639625a7", func := "loop.example/keelson/laws.FnPlaceLess", spec := "fnPlaceLess", unfollowed := true, recurses := true, apart := false, narrowed := true }
def FnPlaceLessUptoSaid : Prop := fnPlaceLessUptoRow.holds Try.pinned (OpenSpec.upto fnPlaceLessSpec)

end Rows
end Go.Proofs.Ythcddjbfolhijaa
