/- Part 1 of the proof of the statement FnKeepNew; the last part states it. No condition. -/
import Derived.Test.YtnbighmbgmjbkaaGreatRows
import Derived.WalkKit
import Derived.ProofKit
import Derived.OpenShut
import Derived.ShutString
import Derived.ChangeOld
import Derived.Below
import Derived.SizedLaws
import Derived.Test.YtnbighmbgmjbkaaGreatMGN2
import Derived.Test.YtnbighmbgmjbkaaGreatMGN3
import Derived.Test.YtnbighmbgmjbkaaGreatMGN4
import Derived.Test.YtnbighmbgmjbkaaGreatMGN5
import Derived.Test.YtnbighmbgmjbkaaGreatMGN21
section
set_option linter.unusedVariables false
set_option linter.unusedSimpArgs false
namespace Go.Proofs.YtnbighmbgmjbkaaGreat.E
open Go Go.RowKit
set_option linter.unusedVariables false
set_option maxRecDepth 100000
namespace impl_KeepNew
def sin : Sig := ⟨[], [.one (.val I false), .one (.val (.sl I) false)]⟩
def sout : Sig := ⟨[.buf I false, .buf I false, .buf .bool false], [.agg [.val I false, .ref (.own 0), .ref (.own 1), .ref (.own 2), .val .bool false, .val I false, .val (.sl I) true, .val I false], .one (.val .bool false)]⟩
noncomputable def G {β : Type} (S : Sl) (a0 : Int) (a1 : (List Int)) (K : (List Int) → (List Int) → (List Bool) → Int → Bool → Int → (List Int) → Int → Bool → Option β) : Option β := impl_StripeNew.G S a0 a1 1 (fun y1 y2 y3 y4 y5 => bif (!y5) then (K [] [] [] 0 false 0 [] 0 false) else (K y1 y2 y3 y4 false 0 [] 0 true))
noncomputable def o : Orac := ⟨52, sin, sout, fun s K => G sl0 s.2.1 s.2.2.1 (fun x0 x1 x2 x3 x4 x5 x6 x7 x8 => K ((x0, (x1, (x2, ()))), ((x3, (x4, (x5, (x6, (x7, ()))))), (x8, ()))))⟩
noncomputable def C : Ctx := ⟨tyT, [impl_StripeNew.o], [], 19, 0⟩
theorem ctx : CtxOk Tryz.prog C := ⟨tyOk, all1 impl_StripeNew.ok (all0)⟩
theorem eG (β : Type) (s : sin.den) (K : sout.den → Option β) : evalFn C Tryz.f52 sin sout s K = o.F s K := by kernel_rfl
theorem ok : OracOk Tryz.prog o := fn_ok mixed Tryz.func52 (by kernel_rfl) ctx (c := bodyC Tryz.f52) (by kernel_rfl) (all0) (by kernel_rfl) (by kernel_rfl) (by kernel_rfl) (Nat.le_of_ble_eq_true (by kernel_rfl)) eG (by kernel_rfl) (Nat.le_of_ble_eq_true (by kernel_rfl))
end impl_KeepNew
end Go.Proofs.YtnbighmbgmjbkaaGreat.E
end
section
set_option linter.unusedVariables false
set_option linter.unusedSimpArgs false
namespace Go.Proofs.YtnbighmbgmjbkaaGreat.E
open Go Go.RowKit
set_option linter.unusedVariables false
set_option maxRecDepth 100000
namespace impl_KeepRead
def sin : Sig := ⟨[], [.agg [.val I false, .val (.sl I) false, .val (.sl I) false, .val (.sl .bool) false, .val .bool false, .val I false, .val (.sl I) false, .val I false]]⟩
def sout : Sig := ⟨[.buf I false], [.one (.ref (.own 0)), .one (.val .bool false)]⟩
noncomputable def G {β : Type} (S : Sl) (a0 : Int) (a1 : (List Int)) (a2 : (List Int)) (a3 : (List Bool)) (a4 : Bool) (a5 : Int) (a6 : (List Int)) (a7 : Int) (K : (List Int) → Bool → Option β) : Option β := impl_KeepOk.G S a0 a1 a2 a3 a4 a5 a6 a7 (fun y1 => bif (!y1) then (K [] false) else (bif a4 then (slices_Clone_Sint_int.G S a6 (fun y2 => slices_Clip_Sint_int_.G S y2 (fun y3 => K y3 true))) else (impl_Stripe_read.G S a0 a1 a2 a3 (fun y4 y5 y6 => K y4 y6))))
noncomputable def o : Orac := ⟨34, sin, sout, fun s K => G sl0 s.2.1.1 s.2.1.2.1 s.2.1.2.2.1 s.2.1.2.2.2.1 s.2.1.2.2.2.2.1 s.2.1.2.2.2.2.2.1 s.2.1.2.2.2.2.2.2.1 s.2.1.2.2.2.2.2.2.2.1 (fun x0 x1 => K ((x0, ()), (x1, ())))⟩
noncomputable def C : Ctx := ⟨tyT, [impl_KeepOk.o, impl_Stripe_read.o, slices_Clip_Sint_int_.o, slices_Clone_Sint_int.o], [], 25, 0⟩
theorem ctx : CtxOk Tryz.prog C := ⟨tyOk, all1 impl_KeepOk.ok (all1 impl_Stripe_read.ok (all1 slices_Clip_Sint_int_.ok (all1 slices_Clone_Sint_int.ok (all0))))⟩
theorem eG (β : Type) (s : sin.den) (K : sout.den → Option β) : evalFn C Tryz.f34 sin sout s K = o.F s K := by kernel_rfl
theorem ok : OracOk Tryz.prog o := fn_ok mixed Tryz.func34 (by kernel_rfl) ctx (c := bodyC Tryz.f34) (by kernel_rfl) (all0) (by kernel_rfl) (by kernel_rfl) (by kernel_rfl) (Nat.le_of_ble_eq_true (by kernel_rfl)) eG (by kernel_rfl) (Nat.le_of_ble_eq_true (by kernel_rfl))
end impl_KeepRead
end Go.Proofs.YtnbighmbgmjbkaaGreat.E
end
section
set_option linter.unusedVariables false
set_option linter.unusedSimpArgs false
namespace Go.Proofs.YtnbighmbgmjbkaaGreat.E
open Go Go.RowKit
set_option linter.unusedVariables false
set_option maxRecDepth 100000
namespace laws_lkKeep
def sin : Sig := ⟨[], [.agg [.val I false, .val (.sl I) false, .val (.sl I) false, .val (.sl .bool) false, .val .bool false, .val I false, .val (.sl I) false, .val I false], .agg [.val I false, .val (.sl I) false, .val (.sl I) false, .val (.sl .bool) false, .val .bool false, .val I false, .val (.sl I) false, .val I false]]⟩
def sout : Sig := ⟨[], [.one (.val .bool false)]⟩
noncomputable def G {β : Type} (S : Sl) (a0 : Int) (a1 : (List Int)) (a2 : (List Int)) (a3 : (List Bool)) (a4 : Bool) (a5 : Int) (a6 : (List Int)) (a7 : Int) (a8 : Int) (a9 : (List Int)) (a10 : (List Int)) (a11 : (List Bool)) (a12 : Bool) (a13 : Int) (a14 : (List Int)) (a15 : Int) (K : Bool → Option β) : Option β := laws_lkStripe.G S a0 a1 a2 a3 a8 a9 a10 a11 (fun y1 => bif y1 then (bif (a4 == a12) then (bif (S.eq a5 a13) then (laws_lkInts.G S a6 a14 (fun y2 => bif y2 then (K (S.eq a7 a15)) else (K false))) else (K false)) else (K false)) else (K false))
noncomputable def o : Orac := ⟨37, sin, sout, fun s K => G sl0 s.2.1.1 s.2.1.2.1 s.2.1.2.2.1 s.2.1.2.2.2.1 s.2.1.2.2.2.2.1 s.2.1.2.2.2.2.2.1 s.2.1.2.2.2.2.2.2.1 s.2.1.2.2.2.2.2.2.2.1 s.2.2.1.1 s.2.2.1.2.1 s.2.2.1.2.2.1 s.2.2.1.2.2.2.1 s.2.2.1.2.2.2.2.1 s.2.2.1.2.2.2.2.2.1 s.2.2.1.2.2.2.2.2.2.1 s.2.2.1.2.2.2.2.2.2.2.1 (fun x0 => K ((), (x0, ())))⟩
noncomputable def C : Ctx := ⟨tyT, [laws_lkInts.o, laws_lkStripe.o], [], 38, 0⟩
theorem ctx : CtxOk Tryz.prog C := ⟨tyOk, all1 laws_lkInts.ok (all1 laws_lkStripe.ok (all0))⟩
theorem eG (β : Type) (s : sin.den) (K : sout.den → Option β) : evalFn C Tryz.f37 sin sout s K = o.F s K := by kernel_rfl
theorem ok : OracOk Tryz.prog o := fn_ok mixed Tryz.func37 (by kernel_rfl) ctx (c := bodyC Tryz.f37) (by kernel_rfl) (all0) (by kernel_rfl) (by kernel_rfl) (by kernel_rfl) (Nat.le_of_ble_eq_true (by kernel_rfl)) eG (by kernel_rfl) (Nat.le_of_ble_eq_true (by kernel_rfl))
end laws_lkKeep
end Go.Proofs.YtnbighmbgmjbkaaGreat.E
end
section
set_option linter.unusedVariables false
set_option linter.unusedSimpArgs false
namespace Go.Proofs.YtnbighmbgmjbkaaGreat.E
open Go Go.RowKit
set_option linter.unusedVariables false
set_option maxRecDepth 100000
namespace spec_DrawKeepNew
def sin : Sig := ⟨[], [.one (.val (.sl (.int .u8)) false)]⟩
def sout : Sig := ⟨[], [.one (.val I false), .one (.val (.sl I) false)]⟩
noncomputable def G {β : Type} (S : Sl) (a0 : (List Int)) (K : Int → (List Int) → Option β) : Option β := spec_l6Open.G S a0 (fun y1 y2 => spec_l91Kind.G S y1 y2 (fun y3 y4 y5 => spec_l91Vec.G S y3 y4 (fun y6 y7 y8 => K y5 y8)))
noncomputable def o : Orac := ⟨50, sin, sout, fun s K => G sl0 s.2.1 (fun x0 x1 => K ((), (x0, (x1, ()))))⟩
noncomputable def C : Ctx := ⟨tyT, [spec_l6Open.o, spec_l91Kind.o, spec_l91Vec.o], [], 11, 0⟩
theorem ctx : CtxOk Tryz.prog C := ⟨tyOk, all1 spec_l6Open.ok (all1 spec_l91Kind.ok (all1 spec_l91Vec.ok (all0)))⟩
theorem eG (β : Type) (s : sin.den) (K : sout.den → Option β) : evalFn C Tryz.f50 sin sout s K = o.F s K := by kernel_rfl
theorem ok : OracOk Tryz.prog o := fn_ok mixed Tryz.func50 (by kernel_rfl) ctx (c := bodyC Tryz.f50) (by kernel_rfl) (all0) (by kernel_rfl) (by kernel_rfl) (by kernel_rfl) (Nat.le_of_ble_eq_true (by kernel_rfl)) eG (by kernel_rfl) (Nat.le_of_ble_eq_true (by kernel_rfl))
end spec_DrawKeepNew
end Go.Proofs.YtnbighmbgmjbkaaGreat.E
end
section
set_option linter.unusedVariables false
set_option linter.unusedSimpArgs false
namespace Go.Proofs.YtnbighmbgmjbkaaGreat.E
open Go Go.RowKit
set_option linter.unusedVariables false
set_option maxRecDepth 100000
namespace spec_KeepNew
def sin : Sig := ⟨[], [.one (.val I false), .one (.val (.sl I) false)]⟩
def sout : Sig := ⟨[.buf I false, .buf I false, .buf .bool false, .buf I false], [.agg [.val I false, .ref (.own 0), .ref (.own 1), .ref (.own 2), .val .bool false, .val I false, .ref (.own 3), .val I false], .one (.val .bool false)]⟩
noncomputable def G {β : Type} (S : Sl) (a0 : Int) (a1 : (List Int)) (K : (List Int) → (List Int) → (List Bool) → (List Int) → Int → Bool → Int → Int → Bool → Option β) : Option β := spec_StripeNew.G S a0 a1 1 (fun y1 y2 y3 y4 y5 => bif (!y5) then (K [] [] [] [] 0 false 0 0 false) else (K y1 y2 y3 [] y4 false 0 0 true))
noncomputable def o : Orac := ⟨51, sin, sout, fun s K => G sl0 s.2.1 s.2.2.1 (fun x0 x1 x2 x3 x4 x5 x6 x7 x8 => K ((x0, (x1, (x2, (x3, ())))), ((x4, (x5, (x6, (x7, ())))), (x8, ()))))⟩
noncomputable def C : Ctx := ⟨tyT, [spec_StripeNew.o], [], 20, 0⟩
theorem ctx : CtxOk Tryz.prog C := ⟨tyOk, all1 spec_StripeNew.ok (all0)⟩
theorem eG (β : Type) (s : sin.den) (K : sout.den → Option β) : evalFn C Tryz.f51 sin sout s K = o.F s K := by kernel_rfl
theorem ok : OracOk Tryz.prog o := fn_ok mixed Tryz.func51 (by kernel_rfl) ctx (c := bodyC Tryz.f51) (by kernel_rfl) (all0) (by kernel_rfl) (by kernel_rfl) (by kernel_rfl) (Nat.le_of_ble_eq_true (by kernel_rfl)) eG (by kernel_rfl) (Nat.le_of_ble_eq_true (by kernel_rfl))
end spec_KeepNew
end Go.Proofs.YtnbighmbgmjbkaaGreat.E
end
section
set_option linter.unusedVariables false
set_option linter.unusedSimpArgs false
namespace Go.Proofs.YtnbighmbgmjbkaaGreat.E
open Go Go.RowKit
set_option linter.unusedVariables false
set_option maxRecDepth 100000
namespace laws_FnKeepNew
def sin : Sig := ⟨[], [.one (.val (.sl (.int .u8)) false)]⟩
def sout : Sig := ⟨[], [.one (.val .bool false)]⟩
noncomputable def G {β : Type} (S : Sl) (a0 : (List Int)) (K : Bool → Option β) : Option β := bif (S.lt 1048576 (a0.length : Int)) then (K true) else (spec_DrawKeepNew.G S a0 (fun y1 y2 => spec_KeepNew.G S y1 y2 (fun y3 y4 y5 y6 y7 y8 y9 y10 y11 => impl_KeepNew.G S y1 y2 (fun y12 y13 y14 y15 y16 y17 y18 y19 y20 => bif (y20 != y11) then (bif (y20 == y11) then (laws_lkKeep.G S y15 y12 y13 y14 y16 y17 y18 y19 y7 y3 y4 y5 y8 y9 y6 y10 (fun y21 => K y21)) else (K false)) else (laws_lkKeep.G S y15 y12 y13 y14 y16 y17 y18 y19 y7 y3 y4 y5 y8 y9 y6 y10 (fun y22 => bif (!y22) then (bif (y20 == y11) then (laws_lkKeep.G S y15 y12 y13 y14 y16 y17 y18 y19 y7 y3 y4 y5 y8 y9 y6 y10 (fun y23 => K y23)) else (K false)) else (bif (!y20) then (bif (y20 == y11) then (laws_lkKeep.G S y15 y12 y13 y14 y16 y17 y18 y19 y7 y3 y4 y5 y8 y9 y6 y10 (fun y24 => K y24)) else (K false)) else (impl_KeepRead.G S y15 y12 y13 y14 y16 y17 y18 y19 (fun y25 y26 => impl_StripeNew.G S y1 y2 1 (fun y27 y28 y29 y30 y31 => impl_KeepOk.G S y15 y12 y13 y14 y16 y17 y18 y19 (fun y32 => bif y32 then (bif (!y16) then (bif y26 then (laws_lkInts.G S y25 y2 (fun y33 => bif y33 then (bif y31 then (laws_lkStripe.G S y15 y12 y13 y14 y30 y27 y28 y29 (fun y34 => K y34)) else (K false)) else (K false))) else (K false)) else (K false)) else (K false))))))))))))
noncomputable def o : Orac := ⟨10, sin, sout, fun s K => G sl0 s.2.1 (fun x0 => K ((), (x0, ())))⟩
noncomputable def C : Ctx := ⟨tyT, [impl_KeepNew.o, impl_KeepOk.o, impl_KeepRead.o, impl_StripeNew.o, laws_lkInts.o, laws_lkKeep.o, laws_lkStripe.o, spec_DrawKeepNew.o, spec_KeepNew.o], [], 89, 0⟩
theorem ctx : CtxOk Tryz.prog C := ⟨tyOk, all1 impl_KeepNew.ok (all1 impl_KeepOk.ok (all1 impl_KeepRead.ok (all1 impl_StripeNew.ok (all1 laws_lkInts.ok (all1 laws_lkKeep.ok (all1 laws_lkStripe.ok (all1 spec_DrawKeepNew.ok (all1 spec_KeepNew.ok (all0)))))))))⟩
noncomputable def Cg (g0 : {β : Type} → (Int) → ((List Int)) → ((List Int) → (List Int) → (List Bool) → Int → Bool → Int → (List Int) → Int → Bool → Option β) → Option β) (g1 : {β : Type} → (Int) → ((List Int)) → ((List Int)) → ((List Bool)) → (Bool) → (Int) → ((List Int)) → (Int) → (Bool → Option β) → Option β) (g2 : {β : Type} → (Int) → ((List Int)) → ((List Int)) → ((List Bool)) → (Bool) → (Int) → ((List Int)) → (Int) → ((List Int) → Bool → Option β) → Option β) (g3 : {β : Type} → (Int) → ((List Int)) → (Int) → ((List Int) → (List Int) → (List Bool) → Int → Bool → Option β) → Option β) (g4 : {β : Type} → ((List Int)) → ((List Int)) → (Bool → Option β) → Option β) (g5 : {β : Type} → (Int) → ((List Int)) → ((List Int)) → ((List Bool)) → (Bool) → (Int) → ((List Int)) → (Int) → (Int) → ((List Int)) → ((List Int)) → ((List Bool)) → (Bool) → (Int) → ((List Int)) → (Int) → (Bool → Option β) → Option β) (g6 : {β : Type} → (Int) → ((List Int)) → ((List Int)) → ((List Bool)) → (Int) → ((List Int)) → ((List Int)) → ((List Bool)) → (Bool → Option β) → Option β) (g7 : {β : Type} → ((List Int)) → (Int → (List Int) → Option β) → Option β) (g8 : {β : Type} → (Int) → ((List Int)) → ((List Int) → (List Int) → (List Bool) → (List Int) → Int → Bool → Int → Int → Bool → Option β) → Option β) : Ctx := ⟨tyT, [⟨52, impl_KeepNew.sin, impl_KeepNew.sout, fun s K => g0 s.2.1 s.2.2.1 (fun x0 x1 x2 x3 x4 x5 x6 x7 x8 => K ((x0, (x1, (x2, ()))), ((x3, (x4, (x5, (x6, (x7, ()))))), (x8, ()))))⟩, ⟨40, impl_KeepOk.sin, impl_KeepOk.sout, fun s K => g1 s.2.1.1 s.2.1.2.1 s.2.1.2.2.1 s.2.1.2.2.2.1 s.2.1.2.2.2.2.1 s.2.1.2.2.2.2.2.1 s.2.1.2.2.2.2.2.2.1 s.2.1.2.2.2.2.2.2.2.1 (fun x0 => K ((), (x0, ())))⟩, ⟨34, impl_KeepRead.sin, impl_KeepRead.sout, fun s K => g2 s.2.1.1 s.2.1.2.1 s.2.1.2.2.1 s.2.1.2.2.2.1 s.2.1.2.2.2.2.1 s.2.1.2.2.2.2.2.1 s.2.1.2.2.2.2.2.2.1 s.2.1.2.2.2.2.2.2.2.1 (fun x0 x1 => K ((x0, ()), (x1, ())))⟩, ⟨53, impl_StripeNew.sin, impl_StripeNew.sout, fun s K => g3 s.2.1 s.2.2.1 s.2.2.2.1 (fun x0 x1 x2 x3 x4 => K ((x0, (x1, (x2, ()))), ((x3, ()), (x4, ()))))⟩, ⟨26, laws_lkInts.sin, laws_lkInts.sout, fun s K => g4 s.2.1 s.2.2.1 (fun x0 => K ((), (x0, ())))⟩, ⟨37, laws_lkKeep.sin, laws_lkKeep.sout, fun s K => g5 s.2.1.1 s.2.1.2.1 s.2.1.2.2.1 s.2.1.2.2.2.1 s.2.1.2.2.2.2.1 s.2.1.2.2.2.2.2.1 s.2.1.2.2.2.2.2.2.1 s.2.1.2.2.2.2.2.2.2.1 s.2.2.1.1 s.2.2.1.2.1 s.2.2.1.2.2.1 s.2.2.1.2.2.2.1 s.2.2.1.2.2.2.2.1 s.2.2.1.2.2.2.2.2.1 s.2.2.1.2.2.2.2.2.2.1 s.2.2.1.2.2.2.2.2.2.2.1 (fun x0 => K ((), (x0, ())))⟩, ⟨23, laws_lkStripe.sin, laws_lkStripe.sout, fun s K => g6 s.2.1.1 s.2.1.2.1 s.2.1.2.2.1 s.2.1.2.2.2.1 s.2.2.1.1 s.2.2.1.2.1 s.2.2.1.2.2.1 s.2.2.1.2.2.2.1 (fun x0 => K ((), (x0, ())))⟩, ⟨50, spec_DrawKeepNew.sin, spec_DrawKeepNew.sout, fun s K => g7 s.2.1 (fun x0 x1 => K ((), (x0, (x1, ()))))⟩, ⟨51, spec_KeepNew.sin, spec_KeepNew.sout, fun s K => g8 s.2.1 s.2.2.1 (fun x0 x1 x2 x3 x4 x5 x6 x7 x8 => K ((x0, (x1, (x2, (x3, ())))), ((x4, (x5, (x6, (x7, ())))), (x8, ()))))⟩], [], 89, 0⟩
noncomputable def bc {α : Type} (b : Bool) (x y : α) : α := Bool.rec (motive := fun _ => α) y x b
noncomputable def Gg (g0 : {β : Type} → (Int) → ((List Int)) → ((List Int) → (List Int) → (List Bool) → Int → Bool → Int → (List Int) → Int → Bool → Option β) → Option β) (g1 : {β : Type} → (Int) → ((List Int)) → ((List Int)) → ((List Bool)) → (Bool) → (Int) → ((List Int)) → (Int) → (Bool → Option β) → Option β) (g2 : {β : Type} → (Int) → ((List Int)) → ((List Int)) → ((List Bool)) → (Bool) → (Int) → ((List Int)) → (Int) → ((List Int) → Bool → Option β) → Option β) (g3 : {β : Type} → (Int) → ((List Int)) → (Int) → ((List Int) → (List Int) → (List Bool) → Int → Bool → Option β) → Option β) (g4 : {β : Type} → ((List Int)) → ((List Int)) → (Bool → Option β) → Option β) (g5 : {β : Type} → (Int) → ((List Int)) → ((List Int)) → ((List Bool)) → (Bool) → (Int) → ((List Int)) → (Int) → (Int) → ((List Int)) → ((List Int)) → ((List Bool)) → (Bool) → (Int) → ((List Int)) → (Int) → (Bool → Option β) → Option β) (g6 : {β : Type} → (Int) → ((List Int)) → ((List Int)) → ((List Bool)) → (Int) → ((List Int)) → ((List Int)) → ((List Bool)) → (Bool → Option β) → Option β) (g7 : {β : Type} → ((List Int)) → (Int → (List Int) → Option β) → Option β) (g8 : {β : Type} → (Int) → ((List Int)) → ((List Int) → (List Int) → (List Bool) → (List Int) → Int → Bool → Int → Int → Bool → Option β) → Option β) {β : Type} (S : Sl) (a0 : (List Int)) (K : Bool → Option β) : Option β := bc ((S.lt 1048576 (a0.length : Int))) (K true) (g7 a0 (fun y1 y2 => g8 y1 y2 (fun y3 y4 y5 y6 y7 y8 y9 y10 y11 => g0 y1 y2 (fun y12 y13 y14 y15 y16 y17 y18 y19 y20 => bc ((y20 != y11)) (bc ((y20 == y11)) (g5 y15 y12 y13 y14 y16 y17 y18 y19 y7 y3 y4 y5 y8 y9 y6 y10 (fun y21 => K y21)) (K false)) (g5 y15 y12 y13 y14 y16 y17 y18 y19 y7 y3 y4 y5 y8 y9 y6 y10 (fun y22 => bc ((!y22)) (bc ((y20 == y11)) (g5 y15 y12 y13 y14 y16 y17 y18 y19 y7 y3 y4 y5 y8 y9 y6 y10 (fun y23 => K y23)) (K false)) (bc ((!y20)) (bc ((y20 == y11)) (g5 y15 y12 y13 y14 y16 y17 y18 y19 y7 y3 y4 y5 y8 y9 y6 y10 (fun y24 => K y24)) (K false)) (g2 y15 y12 y13 y14 y16 y17 y18 y19 (fun y25 y26 => g3 y1 y2 1 (fun y27 y28 y29 y30 y31 => g1 y15 y12 y13 y14 y16 y17 y18 y19 (fun y32 => bc (y32) (bc ((!y16)) (bc (y26) (g4 y25 y2 (fun y33 => bc (y33) (bc (y31) (g6 y15 y12 y13 y14 y30 y27 y28 y29 (fun y34 => K y34)) (K false)) (K false))) (K false)) (K false)) (K false))))))))))))
theorem eGg (g0 : {β : Type} → (Int) → ((List Int)) → ((List Int) → (List Int) → (List Bool) → Int → Bool → Int → (List Int) → Int → Bool → Option β) → Option β) (g1 : {β : Type} → (Int) → ((List Int)) → ((List Int)) → ((List Bool)) → (Bool) → (Int) → ((List Int)) → (Int) → (Bool → Option β) → Option β) (g2 : {β : Type} → (Int) → ((List Int)) → ((List Int)) → ((List Bool)) → (Bool) → (Int) → ((List Int)) → (Int) → ((List Int) → Bool → Option β) → Option β) (g3 : {β : Type} → (Int) → ((List Int)) → (Int) → ((List Int) → (List Int) → (List Bool) → Int → Bool → Option β) → Option β) (g4 : {β : Type} → ((List Int)) → ((List Int)) → (Bool → Option β) → Option β) (g5 : {β : Type} → (Int) → ((List Int)) → ((List Int)) → ((List Bool)) → (Bool) → (Int) → ((List Int)) → (Int) → (Int) → ((List Int)) → ((List Int)) → ((List Bool)) → (Bool) → (Int) → ((List Int)) → (Int) → (Bool → Option β) → Option β) (g6 : {β : Type} → (Int) → ((List Int)) → ((List Int)) → ((List Bool)) → (Int) → ((List Int)) → ((List Int)) → ((List Bool)) → (Bool → Option β) → Option β) (g7 : {β : Type} → ((List Int)) → (Int → (List Int) → Option β) → Option β) (g8 : {β : Type} → (Int) → ((List Int)) → ((List Int) → (List Int) → (List Bool) → (List Int) → Int → Bool → Int → Int → Bool → Option β) → Option β) (β : Type) (s : sin.den) (K : sout.den → Option β) : evalFn (Cg g0 g1 g2 g3 g4 g5 g6 g7 g8) Tryz.f10 sin sout s K = Gg g0 g1 g2 g3 g4 g5 g6 g7 g8 sl0 s.2.1 (fun x0 => K ((), (x0, ()))) := by kernel_rfl
theorem eG (β : Type) (s : sin.den) (K : sout.den → Option β) : evalFn C Tryz.f10 sin sout s K = o.F s K := by
 have h := eGg (impl_KeepNew.G sl0) (impl_KeepOk.G sl0) (impl_KeepRead.G sl0) (impl_StripeNew.G sl0) (laws_lkInts.G sl0) (laws_lkKeep.G sl0) (laws_lkStripe.G sl0) (spec_DrawKeepNew.G sl0) (spec_KeepNew.G sl0) β s K
 have hc : Cg (impl_KeepNew.G sl0) (impl_KeepOk.G sl0) (impl_KeepRead.G sl0) (impl_StripeNew.G sl0) (laws_lkInts.G sl0) (laws_lkKeep.G sl0) (laws_lkStripe.G sl0) (spec_DrawKeepNew.G sl0) (spec_KeepNew.G sl0) = C := by kernel_rfl
 rw [hc] at h
 exact h.trans (by kernel_rfl)
theorem ok : OracOk Tryz.prog o := fn_ok mixed Tryz.func10 (by kernel_rfl) ctx (c := bodyC Tryz.f10) (by kernel_rfl) (all0) (by kernel_rfl) (by kernel_rfl) (by kernel_rfl) (Nat.le_of_ble_eq_true (by kernel_rfl)) eG (by kernel_rfl) (Nat.le_of_ble_eq_true (by kernel_rfl))
end laws_FnKeepNew
end Go.Proofs.YtnbighmbgmjbkaaGreat.E
end
section
set_option linter.unusedVariables false
set_option linter.unusedSimpArgs false
namespace Go.Proofs.YtnbighmbgmjbkaaGreat.E
open Go Go.RowKit
set_option linter.unusedVariables false
set_option maxRecDepth 100000
namespace spec_l23Read
def sin : Sig := ⟨[], [.agg [.val I false, .val (.sl I) false, .val (.sl I) false, .val (.sl .bool) false, .val .bool false, .val I false, .val (.sl I) false, .val I false]]⟩
def sout : Sig := ⟨[.buf I false], [.one (.ref (.own 0))]⟩
noncomputable def G {β : Type} (S : Sl) (a0 : Int) (a1 : (List Int)) (a2 : (List Int)) (a3 : (List Bool)) (a4 : Bool) (a5 : Int) (a6 : (List Int)) (a7 : Int) (K : (List Int) → Option β) : Option β := bif a4 then (bif (S.fw ([] ++ a6).length) then (K ([] ++ a6)) else (none)) else (spec_l21Read.G S a0 a1 a2 a3 (fun y1 y2 y3 => K y1))
noncomputable def o : Orac := ⟨112, sin, sout, fun s K => G sl0 s.2.1.1 s.2.1.2.1 s.2.1.2.2.1 s.2.1.2.2.2.1 s.2.1.2.2.2.2.1 s.2.1.2.2.2.2.2.1 s.2.1.2.2.2.2.2.2.1 s.2.1.2.2.2.2.2.2.2.1 (fun x0 => K ((x0, ()), ()))⟩
noncomputable def C : Ctx := ⟨tyT, [spec_l21Read.o], [], 20, 0⟩
theorem ctx : CtxOk Tryz.prog C := ⟨tyOk, all1 spec_l21Read.ok (all0)⟩
theorem eG (β : Type) (s : sin.den) (K : sout.den → Option β) : evalFn C Tryz.f112 sin sout s K = o.F s K := by kernel_rfl
theorem ok : OracOk Tryz.prog o := fn_ok mixed Tryz.func112 (by kernel_rfl) ctx (c := bodyC Tryz.f112) (by kernel_rfl) (all0) (by kernel_rfl) (by kernel_rfl) (by kernel_rfl) (Nat.le_of_ble_eq_true (by kernel_rfl)) eG (by kernel_rfl) (Nat.le_of_ble_eq_true (by kernel_rfl))
end spec_l23Read
end Go.Proofs.YtnbighmbgmjbkaaGreat.E
end
section
set_option linter.unusedVariables false
set_option linter.unusedSimpArgs false
namespace Go.Proofs.YtnbighmbgmjbkaaGreat.E
open Go Go.RowKit
set_option linter.unusedVariables false
set_option maxRecDepth 100000
namespace spec_KeepRead
def sin : Sig := ⟨[], [.agg [.val I false, .val (.sl I) false, .val (.sl I) false, .val (.sl .bool) false, .val .bool false, .val I false, .val (.sl I) false, .val I false]]⟩
def sout : Sig := ⟨[.buf I false], [.one (.ref (.own 0)), .one (.val .bool false)]⟩
noncomputable def G {β : Type} (S : Sl) (a0 : Int) (a1 : (List Int)) (a2 : (List Int)) (a3 : (List Bool)) (a4 : Bool) (a5 : Int) (a6 : (List Int)) (a7 : Int) (K : (List Int) → Bool → Option β) : Option β := spec_KeepOk.G S a0 a1 a2 a3 a4 a5 a6 a7 (fun y1 => bif (!y1) then (K [] false) else (spec_l23Read.G S a0 a1 a2 a3 a4 a5 a6 a7 (fun y2 => K y2 true)))
noncomputable def o : Orac := ⟨33, sin, sout, fun s K => G sl0 s.2.1.1 s.2.1.2.1 s.2.1.2.2.1 s.2.1.2.2.2.1 s.2.1.2.2.2.2.1 s.2.1.2.2.2.2.2.1 s.2.1.2.2.2.2.2.2.1 s.2.1.2.2.2.2.2.2.2.1 (fun x0 x1 => K ((x0, ()), (x1, ())))⟩
noncomputable def C : Ctx := ⟨tyT, [spec_KeepOk.o, spec_l23Read.o], [], 10, 0⟩
theorem ctx : CtxOk Tryz.prog C := ⟨tyOk, all1 spec_KeepOk.ok (all1 spec_l23Read.ok (all0))⟩
theorem eG (β : Type) (s : sin.den) (K : sout.den → Option β) : evalFn C Tryz.f33 sin sout s K = o.F s K := by kernel_rfl
theorem ok : OracOk Tryz.prog o := fn_ok mixed Tryz.func33 (by kernel_rfl) ctx (c := bodyC Tryz.f33) (by kernel_rfl) (all0) (by kernel_rfl) (by kernel_rfl) (by kernel_rfl) (Nat.le_of_ble_eq_true (by kernel_rfl)) eG (by kernel_rfl) (Nat.le_of_ble_eq_true (by kernel_rfl))
end spec_KeepRead
end Go.Proofs.YtnbighmbgmjbkaaGreat.E
end
section
set_option linter.unusedVariables false
set_option linter.unusedSimpArgs false
namespace Go.Proofs.YtnbighmbgmjbkaaGreat.E
open Go Go.RowKit
set_option linter.unusedVariables false
set_option maxRecDepth 100000
theorem keepRead_F {kind : Int} {vals vers : List Int} {there : List Bool} {on : Bool} {kd : Int} {data : List Int} {kv : Int} (ck : keepV kind vals vers there on kd data kv = true) (hdl : data.length ≤ 1000000) : ∃ d : List Int, d.length ≤ 1000000 ∧ (on = true → d = data) ∧ (on = false → Tells kind vals vers there d) ∧
  (∀ (β : Type) (K : List Int → Bool → Option β), spec_KeepRead.G sl1 kind vals vers there on kd data kv K = K d true) ∧ ∀ (β : Type) (K : List Int → Bool → Option β), impl_KeepRead.G sl1 kind vals vers there on kd data kv K = K d true := by
 obtain ⟨hk, hf, h1, h2, h3, ho, _⟩ := keepV_facts ck
 cases on
 ·obtain ⟨cs, hr⟩ := ho rfl
  obtain ⟨d, hd, es⟩ := readS_E cs
  obtain ⟨d', hd', ei⟩ := readI_E cs
  obtain rfl := tells_uniq hk hd hd'
  have hlen : d.length ≤ 1000000 := by
   have hd := hd
   unfold Tells at hd
   split at hd
   ·rw [hd]; simp
   ·rw [hd.1.len]; omega
  refine ⟨d, hlen, (fun h => by cases h), fun _ => hd, fun β K => ?_, fun β K => ?_⟩
  ·refine (keepS_G kind false kd kv (by omega) (by omega) _).trans ?_
   rw [ck]
   exact cF rfl (cF rfl (es _ _))
  ·refine (keepI_G kind false kd kv (by omega) _).trans ?_
   rw [keep_same, ck]
   refine cF rfl (cF rfl ((ei _ _).trans ?_))
   rw [hr]
 ·refine ⟨data, hdl, fun _ => rfl, (fun h => by cases h), fun β K => ?_, fun β K => ?_⟩
  ·refine (keepS_G kind true kd kv (by omega) (by omega) _).trans ?_
   rw [ck]
   refine cF rfl (cT rfl ?_)
   rw [List.nil_append]
   exact cT (fwT (by omega)) rfl
  ·refine (keepI_G kind true kd kv (by omega) _).trans ?_
   rw [keep_same, ck]
   exact cF rfl (cT rfl (cT (fwT (by omega)) (clipI_G _ _)))
theorem keepRead_N {kind : Int} {vals vers : List Int} {there : List Bool} {on : Bool} {kd : Int} {data : List Int} {kv : Int} (ck : keepV kind vals vers there on kd data kv = false) (hl : vals.length ≤ 1000000) (hdl : data.length ≤ 1000000) :
  (∀ (β : Type) (K : List Int → Bool → Option β), spec_KeepRead.G sl1 kind vals vers there on kd data kv K = K [] false) ∧ ∀ (β : Type) (K : List Int → Bool → Option β), impl_KeepRead.G sl1 kind vals vers there on kd data kv K = K [] false := by
 refine ⟨fun β K => ?_, fun β K => ?_⟩
 ·refine (keepS_G kind on kd kv (by omega) (by omega) _).trans ?_
  rw [ck]; exact cT rfl rfl
 ·refine (keepI_G kind on kd kv (by omega) _).trans ?_
  rw [keep_same, ck]; exact cT rfl rfl
theorem one_read {kind : Int} {vals vers : List Int} {there : List Bool} (hs : stripeV kind vals vers there = true) (ho : oneF (topV vers 0) vers there 8 0 = true) {w : Int} (hw : w ∈ versL vers there) : w = topV vers 0 := by
 obtain ⟨a, ha, ta, rfl⟩ := versL_mem.1 hw
 exact (oneF_iff 8 0).1 ho a (Nat.zero_le _) (by omega) ta
theorem lose_bears {kind : Int} {vals vers : List Int} {there : List Bool} (hs : stripeV kind vals vers there = true) (ho : oneF (topV vers 0) vers there 8 0 = true) {i : Nat} (hi : i < 8) : covL kind (thereL (there.set i false) 0 8) = (readL kind (vers.set i 0) (there.set i false)).isSome := by
 obtain ⟨hk, hf, h1, h2, h3, _⟩ := stripe_iff.1 hs
 rw [Bool.eq_iff_iff]
 constructor
 ·intro hc
  have hv : covV kind (vers.set i 0) (there.set i false) (topV vers 0) = true := covL_mono (fun b hb => by
   obtain ⟨q1, q2⟩ := thereL_mem.1 hb
   have q2' := q2
   rw [getD_set _ _ _ _ _ (by omega)] at q2'
   by_cases e : i = b
   ·rw [if_pos e] at q2'; cases q2'
   ·rw [if_neg e] at q2'
    refine ofL_mem'.2 ⟨q1, q2, ?_⟩
    rw [getD_set _ _ _ _ _ (by omega), if_neg e]
    exact (oneF_iff 8 0).1 ho b (Nat.zero_le _) (by omega) q2') hc
  obtain ⟨w, hw, _⟩ := readL_ge hk hv
  rw [hw]; rfl
 ·intro hr
  obtain ⟨w, hw⟩ := Option.isSome_iff_exists.1 hr
  have hc : covV kind (vers.set i 0) (there.set i false) w = true := List.find?_some hw
  exact covL_mono (fun b hb => by
   obtain ⟨q1, q2, _⟩ := ofL_mem'.1 hb
   exact thereL_mem.2 ⟨q1, q2⟩) hc
theorem lose_tells {kind : Int} {vals vers : List Int} {there : List Bool} (hs : stripeV kind vals vers there = true) (ho : oneF (topV vers 0) vers there 8 0 = true) {i : Nat} (hi : i < 8) (hr : (readL kind (vers.set i 0) (there.set i false)).isSome = true) {d d' : List Int} (hd : Tells kind vals vers there d) (hd' : Tells kind (vals.set i 0) (vers.set i 0) (there.set i false) d') : d' = d := by
 obtain ⟨hk, hf, h1, h2, h3, _⟩ := stripe_iff.1 hs
 obtain ⟨w, hw⟩ := Option.isSome_iff_exists.1 hr
 have hc := List.find?_some hw
 have sub : ∀ b ∈ ofL (vers.set i 0) (there.set i false) w, i ≠ b ∧ b ∈ ofL vers there w := fun b hb => by
  obtain ⟨q1, q2, q3⟩ := ofL_mem'.1 hb
  rw [getD_set _ _ _ _ _ (by omega)] at q2 q3
  by_cases e : i = b
  ·rw [if_pos e] at q2; cases q2
  ·rw [if_neg e] at q2 q3
   exact ⟨e, ofL_mem'.2 ⟨q1, q2, q3⟩⟩
 have hcw : covV kind vers there w = true := covL_mono (fun b hb => (sub b hb).2) hc
 obtain ⟨v, hv, _⟩ := readL_ge hk hcw
 have e1 := one_read hs ho (List.mem_of_find?_eq_some hv)
 have e2 := one_read hs ho (cov_in hk hcw)
 have evw : v = w := e1.trans e2.symm
 unfold Tells at hd hd'
 rw [hv] at hd
 rw [hw] at hd'
 have hd : Told1 kind vals vers there v d := hd
 have hd' : Told1 kind (vals.set i 0) (vers.set i 0) (there.set i false) w d' := hd'
 refine cov_uniq hk hc hd'.1 hd.1 fun a ha => ?_
 obtain ⟨ne, hm⟩ := sub a ha
 rw [← hd'.2 a ha, ← hd.2 a (evw ▸ hm), getD_set _ _ _ _ _ (by have := (ofL_mem'.1 hm).1; omega), if_neg ne]
end Go.Proofs.YtnbighmbgmjbkaaGreat.E
end
section
set_option linter.unusedVariables false
set_option linter.unusedSimpArgs false
namespace Go.Proofs.YtnbighmbgmjbkaaGreat.E
open Go Go.RowKit
set_option linter.unusedVariables false
set_option maxRecDepth 100000
theorem lkKeep_same {β : Type} (kind : Int) {vals vers : List Int} {there : List Bool} (on : Bool) (kd : Int) {data : List Int} (kv : Int) (h1 : vals.length ≤ 1000000) (h2 : vers.length ≤ 1000000) (h3 : there.length ≤ 1000000) (h4 : data.length ≤ 1000000) (K : Bool → Option β) :
  laws_lkKeep.G sl1 kind vals vers there on kd data kv kind vals vers there on kd data kv K = K true := by
 unfold laws_lkKeep.G
 exact (lkStripe_same kind h1 h2 h3 _).trans (cT rfl (cT (beq_self_eq_true _) (cT (eqT rfl) ((lkInts_same _ h4 _).trans (cT rfl (congrArg K (eqT rfl)))))))
end Go.Proofs.YtnbighmbgmjbkaaGreat.E
end
section
set_option linter.unusedVariables false
set_option linter.unusedSimpArgs false
namespace Go.Proofs.YtnbighmbgmjbkaaGreat.Pure.FnKeepNew
open Go Go.Proofs.YtnbighmbgmjbkaaGreat.E
theorem pure {β : Type} (l : List Int) (hl : ∀ x ∈ l, 0 ≤ x ∧ x ≤ 255) (K : Bool → Option β) : laws_FnKeepNew.G sl1 l K = K true := by
 obtain ⟨b, hb, ho⟩ := open_G hl
 obtain ⟨kind, r, r0, r1, _, _, ek⟩ := kind_G hb (p := 0) (by omega) (by omega)
 obtain ⟨data, s, d4, _, _, ed⟩ := vec_S hb (p := r) (by omega) (by omega)
 unfold laws_FnKeepNew.G
 by_cases h : 1048576 < (l.length : Int)
 ·exact cT (ltT h) rfl
 refine cF (ltF (by omega)) ?_
 unfold spec_DrawKeepNew.G spec_KeepNew.G impl_KeepNew.G
 refine (ho _ _).trans ((ek _ _).trans ((ed _ _).trans ((newS_G kind 1 (by omega) _).trans ?_)))
 cases ok : newOk kind data 1
 ·have same := fun {γ : Type} (K : Bool → Option γ) => lkKeep_same (β := γ) 0 (vals := []) (vers := []) (there := []) false 0 (data := []) 0 (by simp) (by simp) (by simp) (by simp) K
  refine cF rfl (cT rfl ((newI_G kind 1 (by omega) _).trans ?_))
  rw [ok]
  exact cF rfl (cT rfl (cF rfl ((same _).trans (cF rfl (cT rfl (cT rfl (same _)))))))
 ·obtain ⟨hk, hd, hv⟩ := newOk_iff.1 ok
  have ck := keep_all hk hd hv
  obtain ⟨e, he, _, hoff, _, er⟩ := keepRead_F ck (by simp)
  have ee : e = data := tells_uniq hk (hoff rfl) (by unfold Tells; rw [(all_read ok).1]; exact (all_read ok).2)
  rw [ee] at er
  have la := allV_len kind data
  have same := fun {γ : Type} (K : Bool → Option γ) => lkKeep_same (β := γ) kind (vals := allV kind data) (vers := List.replicate 8 1) (there := List.replicate 8 true) false 0 (data := []) 0 (by omega) (by simp) (by simp) (by simp) K
  refine cT rfl (cF rfl ((newI_G kind 1 (by omega) _).trans ?_))
  rw [ok]
  refine cT rfl (cF rfl (cF rfl ((same _).trans (cF rfl (cF rfl ((er _ _).trans ((newI_G kind 1 (by omega) _).trans ?_)))))))
  rw [ok]
  refine cT rfl ((keepI_G kind false 0 0 (by simp) _).trans ?_)
  rw [keep_same, ck]
  exact cT rfl (cT rfl (cT rfl ((lkInts_same _ (by omega) _).trans (cT rfl (cT rfl (lkStripe_same kind (by omega) (by simp) (by simp) _))))))
end Go.Proofs.YtnbighmbgmjbkaaGreat.Pure.FnKeepNew
end
section
set_option linter.unusedVariables false
set_option linter.unusedSimpArgs false
namespace Go.Proofs.YtnbighmbgmjbkaaGreat.fnKeepNew
open Go.ChangeShapes Go.WideShapes Go.ChangeAt Go.RowKit
open Go.ChangeMaps (open_string shut_string)
set_option linter.unusedVariables false
theorem own : ownKnob Tryz.prog.godebug = none := by kernel_rfl
theorem laidOut : laidOutB Tryz.prog = true := by kernel_rfl
set_option maxRecDepth 100000 in
theorem lifted (os : Os) (started : os.Started) (H : Type) (enc : TypeId × Value → H) :
  ReturnsInHanded {} Tryz.checked os 10 .any (Rows.fnKeepNewSpec.pre6 enc Tryz.prog Tryz.f10 Rows.fnKeepNewRow.domain false) (Rows.fnKeepNewSpec.post enc Tryz.prog Tryz.f10 false true false false) := by
 refine returnsInHanded_of_change_sized (C := Tryz.checked) own started (by kernel_rfl) Tryz.func10
  (ChangeSpec.witness6 (enc := enc) (C := Tryz.checked) false ⟨#[], #[.slice none 0 0], []⟩ 8 (by kernel_rfl) (by kernel_rfl) (by kernel_rfl) (by kernel_rfl)) ?_
 intro W base args ds gs before hval0 hW hcnd hsz0 _
 have hval : ∀ (j : Nat) t v, Tryz.f10.params[j]? = some t → args[j]? = some v → Value.okWide Tryz.prog W .any base t v := hval0
 have hW' := hW
 obtain ⟨p, q, hA0, hV, rfl, hfz, hnd⟩ := hW
 have hA : DataW.TrodAll enc Tryz.prog W 0 (fun _ => true) true Tryz.f10.params.toList args.toList ds p := hA0
 rw [Tryz.params10] at hA hval
 obtain ⟨v0, vs0, d0, ds0, p0, q0, hargs, rfl, rfl, h0, r0⟩ := trodAll_cons hA
 obtain ⟨rfl, rfl, rfl⟩ := trodAll_nil r0
 obtain rfl : args = #[v0] := by cases args; simp_all
 obtain ⟨rfl, rfl⟩ := trodVars_none hV
 obtain ⟨a0, len0, cap0, rfl⟩ := okWide_slice Tryz.underlying22 (hval 0 22 v0 rfl rfl)
 have k0 := h0
 have lt0 : ∀ x ∈ p0, x.block < W.heap.size := by obtain ⟨m, hm⟩ := k0; exact DataW.trod_lt m _ _ _ hm
 obtain ⟨z0, w0, b0⟩ : ∃ zs, E.IsRowK .u8 W a0 len0 cap0 zs ∧ (∀ x ∈ zs, (Lit.int .u8 x).wf = true) := by
  obtain ⟨fuel, hf⟩ := h0
  rcases open_ints Tryz.underlying22 Tryz.underlying5 (by kernel_rfl) hf with ⟨hcs, _⟩ | ⟨x, l, c, zs, hcs, _, hl, hm, hz, _, hcell, hwz⟩
  ·simp [Value.cells] at hcs
   obtain ⟨rfl, rfl, rfl⟩ := hcs
   exact ⟨[], .inl ⟨rfl, rfl, rfl, rfl⟩, by simp⟩
  ·simp [Value.cells] at hcs
   obtain ⟨rfl, rfl, rfl⟩ := hcs
   exact ⟨zs, .inr ⟨_, rfl, hl, by simpa using hz, hcell⟩, hwz⟩
 clear hA0 hval0 hsz0
 have hp := Pure.FnKeepNew.pure (z0.take len0) (fun x hx => E.byte_wf (b0 x (List.mem_of_mem_take hx))) (fun b => some ((), (b, ())))
 rw [← E.sl_eq] at hp
 refine (E.law_bytes E.laws_FnKeepNew.ok w0 hp).mono fun e W' ⟨he, bel⟩ => ?_
 subst he
 exact ⟨_, rfl, _, _, _, [], _, [], hW', trodAll_mk1 (shut_bool Tryz.underlying4 _), (trodAll_cons_mk (Below.trod laidOut (by kernel_rfl) (of_decide_eq_true (by kernel_rfl)) k0 bel lt0) trodAll_mk0), rfl, bel.frame _, fun h => by cases h⟩
theorem closed : joinedFacts Tryz.prog 10 Tryz.f10 Rows.fnKeepNewSpec Rows.fnKeepNewRow = true := by
 unfold joinedFacts
 rw [Head.make, Head.final, Head.enter]
 kernel_rfl
theorem over : Rows.fnKeepNewRow.holds Tryz.pinned (OpenSpec.ofChange Rows.fnKeepNewSpec) :=
 OpenClaim.holds_of_wide 10 Tryz.f10 rfl rfl rfl rfl rfl rfl rfl ⟨rfl, rfl, rfl, rfl, rfl⟩ rfl rfl rfl rfl rfl (by kernel_rfl) Tryz.func10 closed
  (of_decide_eq_true (by kernel_rfl)) (by unfold Func.isWrapper; first | (rw [if_pos (by decide +kernel)]; kernel_rfl) | (rw [if_neg (by decide +kernel)]; exact ⟨rfl, rfl⟩))
  (fun os started H enc _ => lifted os started H enc)
theorem proved : Rows.FnKeepNewSaid := over
#print axioms proved
end Go.Proofs.YtnbighmbgmjbkaaGreat.fnKeepNew
end
