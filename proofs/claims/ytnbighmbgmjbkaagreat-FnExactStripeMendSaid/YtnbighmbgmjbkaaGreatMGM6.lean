/- What the functions of several statements compute, step by step. No condition. -/
import Derived.Test.YtnbighmbgmjbkaaGreatMGM4
set_option linter.unusedVariables false
set_option linter.unusedSimpArgs false
section
namespace Go.Proofs.YtnbighmbgmjbkaaGreat.E
open Go Go.RowKit
set_option maxRecDepth 100000
noncomputable def tidyN (kind:Int) (sh:List Nat):Option Nat:=spec_l3Tidy_.G sl1 (rowsF kind sh) fun _ t=>some t.length
def eqN:List Nat→List Nat→Bool
 | [], [] => true
 | a :: s, b :: t => Nat.beq a b && eqN s t
 | _, _ => false
theorem eqN_eq:∀ {s t:List Nat},eqN s t=true→s=t
 | [], [], _ => rfl
 | [], _ :: _, h => by cases h
 | _ :: _, [], h => by cases h
 | a :: s, b :: t, h => by
  rw [eqN,Bool.and_eq_true] at h
  rw [Nat.eq_of_beq_eq_true h.1,eqN_eq h.2]
noncomputable def leafT (kind:Int) (sh I:List Nat):Bool:=
 (match tidyN kind sh with
  | some n => bif Nat.beq n 4 then covL kind sh else !covL kind sh
  | none => false) && (bif covL kind sh then (invT kind).any (fun e => eqN e.1 I) else true)
noncomputable def walkT (kind:Int):Nat→Nat→List Nat→List Nat→Bool
 | 0, _, sh, I => leafT kind sh I
 | d + 1, i, sh, I => walkT kind d (i + 1) sh I && (match hasF kind sh i with
  | some true => walkT kind d (i + 1) (sh ++ [i]) I
  | some false => walkT kind d (i + 1) (sh ++ [i]) (I ++ [i])
  | none => false)
theorem walkT_step {kind:Int} {d i:Nat} {sh I:List Nat} (h1:hasF kind sh i=some false) (h3:walkT kind d (i+1) sh I=true) (h4:walkT kind d (i+1) (sh ++ [i]) (I ++ [i])=true):walkT kind (d+1) i sh I=true:=by
 unfold walkT
 rw [h1,h3,h4]; rfl
def eqZ:List Int→List Int→Bool
 | [], [] => true
 | a :: s, b :: t => (a == b) && eqZ s t
 | _, _ => false
theorem eqZ_eq:∀ {s t:List Int},eqZ s t=true→s=t
 | [], [], _ => rfl
 | [], _ :: _, h => by cases h
 | _ :: _, [], h => by cases h
 | a :: s, b :: t, h => by
  rw [eqZ,Bool.and_eq_true] at h
  rw [beq_iff_eq.1 h.1,eqZ_eq h.2]
def unit4 (i:Nat):List Int:=(List.replicate 4 0).set i 1
noncomputable def byE (kind:Int) (e:List Nat×List (List Int)):Bool:=[0,1,2,3].all fun i=>match spec_l3By.G sl1 (rowsF kind e.1) (unit4 i) (fun a b=>some (a,b)) with
 | some (r, b) => b && eqZ r (e.2.getD i [])
 | none => false
end Go.Proofs.YtnbighmbgmjbkaaGreat.E
end
