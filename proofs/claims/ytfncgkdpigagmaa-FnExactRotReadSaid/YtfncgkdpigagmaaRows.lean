/-
  No cell of these rows narrows 'for every input' (looked for: loops, veiled, ifaces, maps, wideKeys, modest, calm, conditions, laid).
  DERIVED. THE GIVEN ROWS OF THIS SEAT. 4 by the template 'for every input the law returns true; each argument reads behind the call as it read before'; 0 by the template 'total and deterministic' (their statements: YtfncgkdpigagmaaTotals.lean).
  GIVEN WITH THE SEED: the statements are not yours to turn. If you find one false, say at which input.
  Laid BY PROGRAM, IN A SANDBOX (cutbox-rows.mjs): the forced cells as the released guide's own fill.sh prints them over the translation 98bd0d592141ef9c… (all of the seat's roots in one cut). By AI agents, Wed Nov 11 2026. No macro, syntax, notation, axiom, sorry.
-/
import Derived.Test.YtfncgkdpigagmaaChecked
import GoSem.Claim
import GoSem.ClaimJoined
import GoSem.ClaimMapViews
import Derived.JoinedTies
import Derived.KernelRfl
namespace Go.Proofs.Ytfncgkdpigagmaa
/- THE CELL 'sum', in the pinned program and in every row, IS THE sha256 OF THE DUMP (.gsa) THAT YtfncgkdpigagmaaProg.lean LOADS. Nothing in Lean hashes anything: it is a label: what it is worth is what the hold of that sum in a sandbox is worth. -/
noncomputable def Try.pinned : Pinned := { name := "ytfncgkdpigagmaa", sum := "98bd0d592141ef9cca422e9e19137b46fbada66d0776b143b8a5905cb86c2e37", checked := Try.checked }
namespace Rows
def none {H : Type} : Left H := { results := [], args := [] }

/-- 'laws.FnRotFind': WHATEVER THE INPUT: true; the input reads as it did. -/
def fnRotFindSpec : ChangeSpec := { name := "fnRotFind", fn := fun _ => fun
  | [d] => { results := [.lit (.bool true)], args := [d] }
  | _ => none }
def fnRotFindRow : OpenClaim := { program := "ytfncgkdpigagmaa", sum := "98bd0d592141ef9cca422e9e19137b46fbada66d0776b143b8a5905cb86c2e37", func := "loop.example/keelson/laws.FnRotFind", spec := "fnRotFind", apart := false }
def FnRotFindSaid : Prop := fnRotFindRow.holds Try.pinned (OpenSpec.ofChange fnRotFindSpec)

/-- ITS FALSE NEIGHBOUR: 'it returns false'. Refute it at one input. -/
def fnRotFindWrong : ChangeSpec := { name := "fnRotFind", fn := fun _ => fun
  | [d] => { results := [.lit (.bool false)], args := [d] }
  | _ => none }
def FnRotFindWrongFalsely : Prop := fnRotFindRow.holds Try.pinned (OpenSpec.ofChange fnRotFindWrong)

/-- 'laws.FnExactStripeLose': WHATEVER THE INPUT: true; the input reads as it did. -/
def fnExactStripeLoseSpec : ChangeSpec := { name := "fnExactStripeLose", fn := fun _ => fun
  | [d1, d2] => { results := [.lit (.bool true)], args := [d1, d2] }
  | _ => none }
def fnExactStripeLoseRow : OpenClaim := { program := "ytfncgkdpigagmaa", sum := "98bd0d592141ef9cca422e9e19137b46fbada66d0776b143b8a5905cb86c2e37", func := "loop.example/keelson/laws.FnExactStripeLose", spec := "fnExactStripeLose", unfollowed := true, recurses := true, apart := false }
def FnExactStripeLoseSaid : Prop := fnExactStripeLoseRow.holds Try.pinned (OpenSpec.ofChange fnExactStripeLoseSpec)

/-- ITS FALSE NEIGHBOUR: 'it returns false'. Refute it at one input. -/
def fnExactStripeLoseWrong : ChangeSpec := { name := "fnExactStripeLose", fn := fun _ => fun
  | [d1, d2] => { results := [.lit (.bool false)], args := [d1, d2] }
  | _ => none }
def FnExactStripeLoseWrongFalsely : Prop := fnExactStripeLoseRow.holds Try.pinned (OpenSpec.ofChange fnExactStripeLoseWrong)

/-- 'laws.FnExactRotWrite': WHATEVER THE INPUT: true; the input reads as it did. -/
def fnExactRotWriteSpec : ChangeSpec := { name := "fnExactRotWrite", fn := fun _ => fun
  | [d] => { results := [.lit (.bool true)], args := [d] }
  | _ => none }
def fnExactRotWriteRow : OpenClaim := { program := "ytfncgkdpigagmaa", sum := "98bd0d592141ef9cca422e9e19137b46fbada66d0776b143b8a5905cb86c2e37", func := "loop.example/keelson/laws.FnExactRotWrite", spec := "fnExactRotWrite", unfollowed := true, recurses := true, apart := false }
def FnExactRotWriteSaid : Prop := fnExactRotWriteRow.holds Try.pinned (OpenSpec.ofChange fnExactRotWriteSpec)

/-- ITS FALSE NEIGHBOUR: 'it returns false'. Refute it at one input. -/
def fnExactRotWriteWrong : ChangeSpec := { name := "fnExactRotWrite", fn := fun _ => fun
  | [d] => { results := [.lit (.bool false)], args := [d] }
  | _ => none }
def FnExactRotWriteWrongFalsely : Prop := fnExactRotWriteRow.holds Try.pinned (OpenSpec.ofChange fnExactRotWriteWrong)

/-- 'laws.FnExactRotRead': WHATEVER THE INPUT: true; the input reads as it did. -/
def fnExactRotReadSpec : ChangeSpec := { name := "fnExactRotRead", fn := fun _ => fun
  | [d1, d2] => { results := [.lit (.bool true)], args := [d1, d2] }
  | _ => none }
def fnExactRotReadRow : OpenClaim := { program := "ytfncgkdpigagmaa", sum := "98bd0d592141ef9cca422e9e19137b46fbada66d0776b143b8a5905cb86c2e37", func := "loop.example/keelson/laws.FnExactRotRead", spec := "fnExactRotRead", unfollowed := true, recurses := true, apart := false }
def FnExactRotReadSaid : Prop := fnExactRotReadRow.holds Try.pinned (OpenSpec.ofChange fnExactRotReadSpec)

/-- ITS FALSE NEIGHBOUR: 'it returns false'. Refute it at one input. -/
def fnExactRotReadWrong : ChangeSpec := { name := "fnExactRotRead", fn := fun _ => fun
  | [d1, d2] => { results := [.lit (.bool false)], args := [d1, d2] }
  | _ => none }
def FnExactRotReadWrongFalsely : Prop := fnExactRotReadRow.holds Try.pinned (OpenSpec.ofChange fnExactRotReadWrong)

/- THE SECOND FORM. 'bulk': how many values and letters a reading holds, each counted each time it is reached (what is shared counts as often as it is met; a slice's spare places count too). A statement '..UptoSaid' is the law's where the arguments, and the package variables that the reading takes, are together of bulk at most 1048576: NARROWER than '..Said'. Prove '..Said' where nothing that the law and all that it calls make is longer than what came in: it says more and counts as full. Else prove '..UptoSaid'. A law counts once. -/
mutual
def uptoBulk {H : Type} : DataW H → Nat
  | .lit (.string bytes) => bytes.length + 1
  | .lit _ => 1
  | .nil => 1
  | .ptr d => uptoBulk d + 1
  | .slice elems spare => uptoBulkAll elems + uptoBulkAll spare + 1
  | .agg parts => uptoBulkAll parts + 1
  | .iface _ d => uptoBulk d + 1
  | .map entries => uptoBulkEntries entries + 1
  | .held _ => 1
def uptoBulkAll {H : Type} : List (DataW H) → Nat
  | [] => 0
  | d :: r => uptoBulk d + uptoBulkAll r
def uptoBulkEntries {H : Type} : List (Lit × DataW H) → Nat
  | [] => 0
  | x :: r => uptoBulkEntry x + uptoBulkEntries r
def uptoBulkEntry {H : Type} : Lit × DataW H → Nat
  | (.string bytes, d) => bytes.length + uptoBulk d + 1
  | (_, d) => uptoBulk d + 1
 end
def uptoSmall : (H : Type) → List (DataW H) → Bool := fun _ ds => decide (uptoBulkAll ds ≤ 1048576)
def OpenSpec.upto (s : _root_.Go.ChangeSpec) : _root_.Go.OpenSpec := { _root_.Go.OpenSpec.ofChange s with cond := some uptoSmall }

/-- 'laws.FnRotFind', WHERE WHAT IT READS IS OF BULK AT MOST 1048576: true; the input reads as it did. -/
def fnRotFindUptoRow : OpenClaim := { program := "ytfncgkdpigagmaa", sum := "98bd0d592141ef9cca422e9e19137b46fbada66d0776b143b8a5905cb86c2e37", func := "loop.example/keelson/laws.FnRotFind", spec := "fnRotFind", apart := false, narrowed := true }
def FnRotFindUptoSaid : Prop := fnRotFindUptoRow.holds Try.pinned (OpenSpec.upto fnRotFindSpec)

/-- 'laws.FnExactStripeLose', WHERE WHAT IT READS IS OF BULK AT MOST 1048576: true; the input reads as it did. -/
def fnExactStripeLoseUptoRow : OpenClaim := { program := "ytfncgkdpigagmaa", sum := "98bd0d592141ef9cca422e9e19137b46fbada66d0776b143b8a5905cb86c2e37", func := "loop.example/keelson/laws.FnExactStripeLose", spec := "fnExactStripeLose", unfollowed := true, recurses := true, apart := false, narrowed := true }
def FnExactStripeLoseUptoSaid : Prop := fnExactStripeLoseUptoRow.holds Try.pinned (OpenSpec.upto fnExactStripeLoseSpec)

/-- 'laws.FnExactRotWrite', WHERE WHAT IT READS IS OF BULK AT MOST 1048576: true; the input reads as it did. -/
def fnExactRotWriteUptoRow : OpenClaim := { program := "ytfncgkdpigagmaa", sum := "98bd0d592141ef9cca422e9e19137b46fbada66d0776b143b8a5905cb86c2e37", func := "loop.example/keelson/laws.FnExactRotWrite", spec := "fnExactRotWrite", unfollowed := true, recurses := true, apart := false, narrowed := true }
def FnExactRotWriteUptoSaid : Prop := fnExactRotWriteUptoRow.holds Try.pinned (OpenSpec.upto fnExactRotWriteSpec)

/-- 'laws.FnExactRotRead', WHERE WHAT IT READS IS OF BULK AT MOST 1048576: true; the input reads as it did. -/
def fnExactRotReadUptoRow : OpenClaim := { program := "ytfncgkdpigagmaa", sum := "98bd0d592141ef9cca422e9e19137b46fbada66d0776b143b8a5905cb86c2e37", func := "loop.example/keelson/laws.FnExactRotRead", spec := "fnExactRotRead", unfollowed := true, recurses := true, apart := false, narrowed := true }
def FnExactRotReadUptoSaid : Prop := fnExactRotReadUptoRow.holds Try.pinned (OpenSpec.upto fnExactRotReadSpec)

end Rows
end Go.Proofs.Ytfncgkdpigagmaa
