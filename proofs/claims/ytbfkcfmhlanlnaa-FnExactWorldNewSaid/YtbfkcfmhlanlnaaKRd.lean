/- How the struct types of the laws' parameters are read. -/
import Derived.Test.YtbfkcfmhlanlnaaKRead
namespace Go.Proofs.Ytbfkcfmhlanlnaa.K
set_option linter.unusedVariables false
open Go.RowKit Go.ChangeShapes Go.WideShapes Go.Proofs.YtbfkcfmhlanlnaaW.PrintWords Go.Proofs.YtbfkcfmhlanlnaaW.PrintLast Go.Proofs.YtbfkcfmhlanlnaaW.PrintMore
def q84 (x : S84) : Prop := (Lit.int .i64 x.f0).wf = true ∧ (Lit.int .i64 x.f1).wf = true ∧ (Lit.int .i64 x.f2).wf = true
theorem rd84 {H : Type} {enc : TypeId × Value → H} {w : World} {spare : Nat → Bool} {held : Bool} : Rd enc Try.prog w spare held k84 q84 84 :=
  Rd_imp (Rd_struct (G := fun a => (⟨a.1, a.2.1, a.2.2⟩ : S84)) Try.underlying84 (by kernel_rfl) (fun _ => rfl) (RdF_cons rfl (Rd_int Try.underlying3 (by kernel_rfl)) (RdF_cons rfl (Rd_int Try.underlying3 (by kernel_rfl)) (RdF_one rfl (Rd_int Try.underlying3 (by kernel_rfl)))))) (fun _ h => h)
structure S56 where
  f0 : Int
  f1 : (List Int)
  f2 : (List Int)
def k56 : Kd S56 := Kd.iso (Kd.pair (Kd.int .i64) (Kd.pair (Kd.slice 3 (Kd.int .i64)) (Kd.slice 3 (Kd.int .i64)))) (fun x : S56 => (x.f0, x.f1, x.f2))
theorem k56_open {w : World} {x : S56} {cs : List Value} (h : k56.K w x cs) : ∃ A1 c1 A2 c2, cs = [.int .i64 x.f0, .slice A1 x.f1.length c1, .slice A2 x.f2.length c2] ∧ x.f1.length ≤ c1 ∧ Kd.C (Kd.int .i64) w A1 x.f1.length x.f1 ∧ x.f2.length ≤ c2 ∧ Kd.C (Kd.int .i64) w A2 x.f2.length x.f2 := by
  obtain ⟨_, _, rfl, rfl, ⟨_, _, rfl, ⟨A1, c1, rfl, l1, g1⟩, ⟨A2, c2, rfl, l2, g2⟩⟩⟩ := h
  exact ⟨A1, c1, A2, c2, rfl, l1, g1, l2, g2⟩
def q56 (x : S56) : Prop := (Lit.int .i64 x.f0).wf = true ∧ (x.f1.length ≤ maxLen ∧ ∀ y_ ∈ x.f1, (Lit.int .i64 y_).wf = true) ∧ (x.f2.length ≤ maxLen ∧ ∀ y_ ∈ x.f2, (Lit.int .i64 y_).wf = true)
theorem rd56 {H : Type} {enc : TypeId × Value → H} {w : World} {spare : Nat → Bool} {held : Bool} : Rd enc Try.prog w spare held k56 q56 56 :=
  Rd_imp (Rd_struct (G := fun a => (⟨a.1, a.2.1, a.2.2⟩ : S56)) Try.underlying56 (by kernel_rfl) (fun _ => rfl) (RdF_cons rfl (Rd_int Try.underlying3 (by kernel_rfl)) (RdF_cons rfl (Rd_slice Try.underlying34 (by kernel_rfl) (Rd_int Try.underlying3 (by kernel_rfl))) (RdF_one rfl (Rd_slice Try.underlying34 (by kernel_rfl) (Rd_int Try.underlying3 (by kernel_rfl))))))) (fun _ h => h)
end Go.Proofs.Ytbfkcfmhlanlnaa.K
