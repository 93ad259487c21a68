/- Part 1 of the proof of the statement FnKeepLose; the last part states it. No condition. -/
import Derived.Test.YtnbighmbgmjbkaaGreatRows
import Derived.WalkKit
import Derived.ProofKit
import Derived.OpenShut
import Derived.ShutString
import Derived.ChangeOld
import Derived.Below
import Derived.SizedLaws
import Derived.Test.YtnbighmbgmjbkaaGreatMGK2
import Derived.Test.YtnbighmbgmjbkaaGreatMGK3
import Derived.Test.YtnbighmbgmjbkaaGreatMGK4
import Derived.Test.YtnbighmbgmjbkaaGreatMGK5
import Derived.Test.YtnbighmbgmjbkaaGreatMGK21
section
set_option linter.unusedVariables false
set_option linter.unusedSimpArgs false
namespace Go.Proofs.YtnbighmbgmjbkaaGreat.E
open Go Go.RowKit
set_option linter.unusedVariables false
set_option maxRecDepth 100000
namespace impl_CodeBears
def sin : Sig := ⟨[], [.one (.val I false), .one (.val (.sl .bool) false)]⟩
def sout : Sig := ⟨[], [.one (.val .bool false)]⟩
noncomputable def G {β : Type} (S : Sl) (a0 : Int) (a1 : (List Bool)) (K : Bool → Option β) : Option β := impl_kindOk.G S a0 (fun y1 => bif y1 then (bif (S.eq (a1.length : Int) 8) then (impl_flagged.G S a1 (fun y2 => impl_bears.G S a0 y2 (fun y3 => K y3))) else (K false)) else (K false))
noncomputable def o : Orac := ⟨25, sin, sout, fun s K => G sl0 s.2.1 s.2.2.1 (fun x0 => K ((), (x0, ())))⟩
noncomputable def C : Ctx := ⟨tyT, [impl_bears.o, impl_flagged.o, impl_kindOk.o], [], 18, 0⟩
theorem ctx : CtxOk Tryz.prog C := ⟨tyOk, all1 impl_bears.ok (all1 impl_flagged.ok (all1 impl_kindOk.ok (all0)))⟩
theorem eG (β : Type) (s : sin.den) (K : sout.den → Option β) : evalFn C Tryz.f25 sin sout s K = o.F s K := by kernel_rfl
theorem ok : OracOk Tryz.prog o := fn_ok mixed Tryz.func25 (by kernel_rfl) ctx (c := bodyC Tryz.f25) (by kernel_rfl) (all0) (by kernel_rfl) (by kernel_rfl) (by kernel_rfl) (Nat.le_of_ble_eq_true (by kernel_rfl)) eG (by kernel_rfl) (Nat.le_of_ble_eq_true (by kernel_rfl))
end impl_CodeBears
end Go.Proofs.YtnbighmbgmjbkaaGreat.E
end
section
set_option linter.unusedVariables false
set_option linter.unusedSimpArgs false
namespace Go.Proofs.YtnbighmbgmjbkaaGreat.E
open Go Go.RowKit
set_option linter.unusedVariables false
set_option maxRecDepth 100000
namespace impl_KeepLose
def sin : Sig := ⟨[], [.agg [.val I false, .val (.sl I) false, .val (.sl I) false, .val (.sl .bool) false, .val .bool false, .val I false, .val (.sl I) false, .val I false], .one (.val I false)]⟩
def sout : Sig := ⟨[.buf I false, .buf I false, .buf .bool false, .buf I false], [.agg [.val I false, .ref (.own 0), .ref (.own 1), .ref (.own 2), .val .bool false, .val I false, .ref (.own 3), .val I false]]⟩
noncomputable def G {β : Type} (S : Sl) (a0 : Int) (a1 : (List Int)) (a2 : (List Int)) (a3 : (List Bool)) (a4 : Bool) (a5 : Int) (a6 : (List Int)) (a7 : Int) (a8 : Int) (K : (List Int) → (List Int) → (List Bool) → (List Int) → Int → Bool → Int → Int → Option β) : Option β := impl_KeepOk.G S a0 a1 a2 a3 a4 a5 a6 a7 (fun y1 => bif (!y1) then (K [] [] [] [] 0 false 0 0) else (impl_shardOk.G S a8 (fun y2 => bif (!y2) then (K [] [] [] [] 0 false 0 0) else (impl_Keep_copied.G S a0 a1 a2 a3 a4 a5 a6 a7 (fun y3 y4 y5 y6 y7 y8 y9 y10 => impl_Stripe_drop.G S y3 y4 y5 y7 a8 (fun y11 y12 y13 => impl_Stripe_read.G S y7 y11 y12 y13 (fun y14 y15 y16 => bif (!y16) then (bif (!a4) then (impl_Keep_copied.G S a0 a1 a2 a3 a4 a5 a6 a7 (fun y17 y18 y19 y20 y21 y22 y23 y24 => K y17 y18 y19 y20 y21 y22 y23 y24)) else (K y11 y12 y13 y6 y7 y8 y9 y10)) else (K y11 y12 y13 y6 y7 y8 y9 y10))))))))
noncomputable def o : Orac := ⟨36, sin, sout, fun s K => G sl0 s.2.1.1 s.2.1.2.1 s.2.1.2.2.1 s.2.1.2.2.2.1 s.2.1.2.2.2.2.1 s.2.1.2.2.2.2.2.1 s.2.1.2.2.2.2.2.2.1 s.2.1.2.2.2.2.2.2.2.1 s.2.2.1 (fun x0 x1 x2 x3 x4 x5 x6 x7 => K ((x0, (x1, (x2, (x3, ())))), ((x4, (x5, (x6, (x7, ())))), ())))⟩
noncomputable def C : Ctx := ⟨tyT, [impl_KeepOk.o, impl_Keep_copied.o, impl_Stripe_drop.o, impl_Stripe_read.o, impl_shardOk.o], [], 41, 0⟩
theorem ctx : CtxOk Tryz.prog C := ⟨tyOk, all1 impl_KeepOk.ok (all1 impl_Keep_copied.ok (all1 impl_Stripe_drop.ok (all1 impl_Stripe_read.ok (all1 impl_shardOk.ok (all0)))))⟩
theorem eG (β : Type) (s : sin.den) (K : sout.den → Option β) : evalFn C Tryz.f36 sin sout s K = o.F s K := by kernel_rfl
theorem ok : OracOk Tryz.prog o := fn_ok mixed Tryz.func36 (by kernel_rfl) ctx (c := bodyC Tryz.f36) (by kernel_rfl) (all0) (by kernel_rfl) (by kernel_rfl) (by kernel_rfl) (Nat.le_of_ble_eq_true (by kernel_rfl)) eG (by kernel_rfl) (Nat.le_of_ble_eq_true (by kernel_rfl))
end impl_KeepLose
end Go.Proofs.YtnbighmbgmjbkaaGreat.E
end
section
set_option linter.unusedVariables false
set_option linter.unusedSimpArgs false
namespace Go.Proofs.YtnbighmbgmjbkaaGreat.E
open Go Go.RowKit
set_option linter.unusedVariables false
set_option maxRecDepth 100000
namespace spec_DrawKeepLose
def sin : Sig := ⟨[], [.one (.val (.sl (.int .u8)) false)]⟩
def sout : Sig := ⟨[.buf I false, .buf I false, .buf .bool false], [.agg [.val I false, .ref (.own 0), .ref (.own 1), .ref (.own 2), .val .bool false, .val I false, .val (.sl I) false, .val I false], .one (.val I false)]⟩
noncomputable def G {β : Type} (S : Sl) (a0 : (List Int)) (K : (List Int) → (List Int) → (List Bool) → Int → Bool → Int → (List Int) → Int → Int → Option β) : Option β := spec_l6Open.G S a0 (fun y1 y2 => spec_l92Keep.G S y1 y2 (fun y3 y4 y5 y6 y7 y8 y9 y10 y11 y12 => spec_l6Rd_pick.G S y3 y4 8 (fun y13 y14 y15 => spec_l6Rd_pick.G S y13 y14 24 (fun y16 y17 y18 => K y5 y6 y7 y8 y9 y10 y11 y12 (S.w (y15 + (S.w ((S.w (Int.tdiv y18 23)) * 8))))))))
noncomputable def o : Orac := ⟨35, sin, sout, fun s K => G sl0 s.2.1 (fun x0 x1 x2 x3 x4 x5 x6 x7 x8 => K ((x0, (x1, (x2, ()))), ((x3, (x4, (x5, (x6, (x7, ()))))), (x8, ()))))⟩
noncomputable def C : Ctx := ⟨tyT, [spec_l6Open.o, spec_l6Rd_pick.o, spec_l92Keep.o], [], 16, 0⟩
theorem ctx : CtxOk Tryz.prog C := ⟨tyOk, all1 spec_l6Open.ok (all1 spec_l6Rd_pick.ok (all1 spec_l92Keep.ok (all0)))⟩
theorem eG (β : Type) (s : sin.den) (K : sout.den → Option β) : evalFn C Tryz.f35 sin sout s K = o.F s K := by kernel_rfl
theorem ok : OracOk Tryz.prog o := fn_ok mixed Tryz.func35 (by kernel_rfl) ctx (c := bodyC Tryz.f35) (by kernel_rfl) (all0) (by kernel_rfl) (by kernel_rfl) (by kernel_rfl) (Nat.le_of_ble_eq_true (by kernel_rfl)) eG (by kernel_rfl) (Nat.le_of_ble_eq_true (by kernel_rfl))
end spec_DrawKeepLose
end Go.Proofs.YtnbighmbgmjbkaaGreat.E
end
section
set_option linter.unusedVariables false
set_option linter.unusedSimpArgs false
namespace Go.Proofs.YtnbighmbgmjbkaaGreat.E
open Go Go.RowKit
set_option linter.unusedVariables false
set_option maxRecDepth 100000
namespace laws_FnKeepLose
def sin : Sig := ⟨[], [.one (.val (.sl (.int .u8)) false)]⟩
def sout : Sig := ⟨[], [.one (.val .bool false)]⟩
noncomputable def G {β : Type} (S : Sl) (a0 : (List Int)) (K : Bool → Option β) : Option β := bif (S.lt 1048576 (a0.length : Int)) then (K true) else (spec_DrawKeepLose.G S a0 (fun y1 y2 y3 y4 y5 y6 y7 y8 y9 => impl_KeepLose.G S y4 y1 y2 y3 y5 y6 y7 y8 y9 (fun y10 y11 y12 y13 y14 y15 y16 y17 => spec_KeepLose.G S y4 y1 y2 y3 y5 y6 y7 y8 y9 (fun y18 y19 y20 y21 y22 y23 y24 y25 => laws_lkKeep.G S y14 y10 y11 y12 y15 y16 y13 y17 y22 y18 y19 y20 y23 y24 y21 y25 (fun y26 => bif (!y26) then (spec_KeepLose.G S y4 y1 y2 y3 y5 y6 y7 y8 y9 (fun y27 y28 y29 y30 y31 y32 y33 y34 => laws_lkKeep.G S y14 y10 y11 y12 y15 y16 y13 y17 y31 y27 y28 y29 y32 y33 y30 y34 (fun y35 => K y35))) else (spec_KeepOk.G S y4 y1 y2 y3 y5 y6 y7 y8 (fun y36 => bif (!y36) then (spec_KeepLose.G S y4 y1 y2 y3 y5 y6 y7 y8 y9 (fun y37 y38 y39 y40 y41 y42 y43 y44 => laws_lkKeep.G S y14 y10 y11 y12 y15 y16 y13 y17 y41 y37 y38 y39 y42 y43 y40 y44 (fun y45 => K y45))) else (bif (S.le 8 y9) then (spec_KeepLose.G S y4 y1 y2 y3 y5 y6 y7 y8 y9 (fun y46 y47 y48 y49 y50 y51 y52 y53 => laws_lkKeep.G S y14 y10 y11 y12 y15 y16 y13 y17 y50 y46 y47 y48 y51 y52 y49 y53 (fun y54 => K y54))) else (impl_KeepRead.G S y4 y1 y2 y3 y5 y6 y7 y8 (fun y55 y56 => impl_KeepRead.G S y14 y10 y11 y12 y15 y16 y13 y17 (fun y57 y58 => bif (S.fw ([] ++ y3).length) then (bif (S.ir y9 ([] ++ y3).length) then (bif (!y5) then (impl_CodeBears.G S y4 (List.set ([] ++ y3) (Int.toNat y9) false) (fun y59 => bif y58 then (laws_lkInts.G S y55 y57 (fun y60 => bif y60 then (bif (S.ir y9 y12.length) then (bif (!y59) then (bif (S.ir y9 y3.length) then (bif ((List.getD y12 (Int.toNat y9) false) == (List.getD y3 (Int.toNat y9) false)) then (impl_KeepOk.G S y14 y10 y11 y12 y15 y16 y13 y17 (fun y61 => K y61)) else (K false)) else (none)) else (bif ((List.getD y12 (Int.toNat y9) false) == false) then (impl_KeepOk.G S y14 y10 y11 y12 y15 y16 y13 y17 (fun y62 => K y62)) else (K false))) else (none)) else (K false))) else (K false))) else (bif y58 then (laws_lkInts.G S y55 y57 (fun y63 => bif y63 then (bif (S.ir y9 y12.length) then (bif ((List.getD y12 (Int.toNat y9) false) == false) then (impl_KeepOk.G S y14 y10 y11 y12 y15 y16 y13 y17 (fun y64 => K y64)) else (K false)) else (none)) else (K false))) else (K false))) else (none)) else (none))))))))))))
noncomputable def o : Orac := ⟨6, sin, sout, fun s K => G sl0 s.2.1 (fun x0 => K ((), (x0, ())))⟩
noncomputable def C : Ctx := ⟨tyT, [impl_CodeBears.o, impl_KeepLose.o, impl_KeepOk.o, impl_KeepRead.o, laws_lkInts.o, laws_lkKeep.o, spec_DrawKeepLose.o, spec_KeepLose.o, spec_KeepOk.o], [], 100, 0⟩
theorem ctx : CtxOk Tryz.prog C := ⟨tyOk, all1 impl_CodeBears.ok (all1 impl_KeepLose.ok (all1 impl_KeepOk.ok (all1 impl_KeepRead.ok (all1 laws_lkInts.ok (all1 laws_lkKeep.ok (all1 spec_DrawKeepLose.ok (all1 spec_KeepLose.ok (all1 spec_KeepOk.ok (all0)))))))))⟩
noncomputable def Cg (g0 : {β : Type} → (Int) → ((List Bool)) → (Bool → Option β) → Option β) (g1 : {β : Type} → (Int) → ((List Int)) → ((List Int)) → ((List Bool)) → (Bool) → (Int) → ((List Int)) → (Int) → (Int) → ((List Int) → (List Int) → (List Bool) → (List Int) → Int → Bool → Int → Int → Option β) → Option β) (g2 : {β : Type} → (Int) → ((List Int)) → ((List Int)) → ((List Bool)) → (Bool) → (Int) → ((List Int)) → (Int) → (Bool → Option β) → Option β) (g3 : {β : Type} → (Int) → ((List Int)) → ((List Int)) → ((List Bool)) → (Bool) → (Int) → ((List Int)) → (Int) → ((List Int) → Bool → Option β) → Option β) (g4 : {β : Type} → ((List Int)) → ((List Int)) → (Bool → Option β) → Option β) (g5 : {β : Type} → (Int) → ((List Int)) → ((List Int)) → ((List Bool)) → (Bool) → (Int) → ((List Int)) → (Int) → (Int) → ((List Int)) → ((List Int)) → ((List Bool)) → (Bool) → (Int) → ((List Int)) → (Int) → (Bool → Option β) → Option β) (g6 : {β : Type} → ((List Int)) → ((List Int) → (List Int) → (List Bool) → Int → Bool → Int → (List Int) → Int → Int → Option β) → Option β) (g7 : {β : Type} → (Int) → ((List Int)) → ((List Int)) → ((List Bool)) → (Bool) → (Int) → ((List Int)) → (Int) → (Int) → ((List Int) → (List Int) → (List Bool) → (List Int) → Int → Bool → Int → Int → Option β) → Option β) (g8 : {β : Type} → (Int) → ((List Int)) → ((List Int)) → ((List Bool)) → (Bool) → (Int) → ((List Int)) → (Int) → (Bool → Option β) → Option β) : Ctx := ⟨tyT, [⟨25, impl_CodeBears.sin, impl_CodeBears.sout, fun s K => g0 s.2.1 s.2.2.1 (fun x0 => K ((), (x0, ())))⟩, ⟨36, impl_KeepLose.sin, impl_KeepLose.sout, fun s K => g1 s.2.1.1 s.2.1.2.1 s.2.1.2.2.1 s.2.1.2.2.2.1 s.2.1.2.2.2.2.1 s.2.1.2.2.2.2.2.1 s.2.1.2.2.2.2.2.2.1 s.2.1.2.2.2.2.2.2.2.1 s.2.2.1 (fun x0 x1 x2 x3 x4 x5 x6 x7 => K ((x0, (x1, (x2, (x3, ())))), ((x4, (x5, (x6, (x7, ())))), ())))⟩, ⟨40, impl_KeepOk.sin, impl_KeepOk.sout, fun s K => g2 s.2.1.1 s.2.1.2.1 s.2.1.2.2.1 s.2.1.2.2.2.1 s.2.1.2.2.2.2.1 s.2.1.2.2.2.2.2.1 s.2.1.2.2.2.2.2.2.1 s.2.1.2.2.2.2.2.2.2.1 (fun x0 => K ((), (x0, ())))⟩, ⟨34, impl_KeepRead.sin, impl_KeepRead.sout, fun s K => g3 s.2.1.1 s.2.1.2.1 s.2.1.2.2.1 s.2.1.2.2.2.1 s.2.1.2.2.2.2.1 s.2.1.2.2.2.2.2.1 s.2.1.2.2.2.2.2.2.1 s.2.1.2.2.2.2.2.2.2.1 (fun x0 x1 => K ((x0, ()), (x1, ())))⟩, ⟨26, laws_lkInts.sin, laws_lkInts.sout, fun s K => g4 s.2.1 s.2.2.1 (fun x0 => K ((), (x0, ())))⟩, ⟨37, laws_lkKeep.sin, laws_lkKeep.sout, fun s K => g5 s.2.1.1 s.2.1.2.1 s.2.1.2.2.1 s.2.1.2.2.2.1 s.2.1.2.2.2.2.1 s.2.1.2.2.2.2.2.1 s.2.1.2.2.2.2.2.2.1 s.2.1.2.2.2.2.2.2.2.1 s.2.2.1.1 s.2.2.1.2.1 s.2.2.1.2.2.1 s.2.2.1.2.2.2.1 s.2.2.1.2.2.2.2.1 s.2.2.1.2.2.2.2.2.1 s.2.2.1.2.2.2.2.2.2.1 s.2.2.1.2.2.2.2.2.2.2.1 (fun x0 => K ((), (x0, ())))⟩, ⟨35, spec_DrawKeepLose.sin, spec_DrawKeepLose.sout, fun s K => g6 s.2.1 (fun x0 x1 x2 x3 x4 x5 x6 x7 x8 => K ((x0, (x1, (x2, ()))), ((x3, (x4, (x5, (x6, (x7, ()))))), (x8, ()))))⟩, ⟨38, spec_KeepLose.sin, spec_KeepLose.sout, fun s K => g7 s.2.1.1 s.2.1.2.1 s.2.1.2.2.1 s.2.1.2.2.2.1 s.2.1.2.2.2.2.1 s.2.1.2.2.2.2.2.1 s.2.1.2.2.2.2.2.2.1 s.2.1.2.2.2.2.2.2.2.1 s.2.2.1 (fun x0 x1 x2 x3 x4 x5 x6 x7 => K ((x0, (x1, (x2, (x3, ())))), ((x4, (x5, (x6, (x7, ())))), ())))⟩, ⟨39, spec_KeepOk.sin, spec_KeepOk.sout, fun s K => g8 s.2.1.1 s.2.1.2.1 s.2.1.2.2.1 s.2.1.2.2.2.1 s.2.1.2.2.2.2.1 s.2.1.2.2.2.2.2.1 s.2.1.2.2.2.2.2.2.1 s.2.1.2.2.2.2.2.2.2.1 (fun x0 => K ((), (x0, ())))⟩], [], 100, 0⟩
noncomputable def bc {α : Type} (b : Bool) (x y : α) : α := Bool.rec (motive := fun _ => α) y x b
noncomputable def Gg (g0 : {β : Type} → (Int) → ((List Bool)) → (Bool → Option β) → Option β) (g1 : {β : Type} → (Int) → ((List Int)) → ((List Int)) → ((List Bool)) → (Bool) → (Int) → ((List Int)) → (Int) → (Int) → ((List Int) → (List Int) → (List Bool) → (List Int) → Int → Bool → Int → Int → Option β) → Option β) (g2 : {β : Type} → (Int) → ((List Int)) → ((List Int)) → ((List Bool)) → (Bool) → (Int) → ((List Int)) → (Int) → (Bool → Option β) → Option β) (g3 : {β : Type} → (Int) → ((List Int)) → ((List Int)) → ((List Bool)) → (Bool) → (Int) → ((List Int)) → (Int) → ((List Int) → Bool → Option β) → Option β) (g4 : {β : Type} → ((List Int)) → ((List Int)) → (Bool → Option β) → Option β) (g5 : {β : Type} → (Int) → ((List Int)) → ((List Int)) → ((List Bool)) → (Bool) → (Int) → ((List Int)) → (Int) → (Int) → ((List Int)) → ((List Int)) → ((List Bool)) → (Bool) → (Int) → ((List Int)) → (Int) → (Bool → Option β) → Option β) (g6 : {β : Type} → ((List Int)) → ((List Int) → (List Int) → (List Bool) → Int → Bool → Int → (List Int) → Int → Int → Option β) → Option β) (g7 : {β : Type} → (Int) → ((List Int)) → ((List Int)) → ((List Bool)) → (Bool) → (Int) → ((List Int)) → (Int) → (Int) → ((List Int) → (List Int) → (List Bool) → (List Int) → Int → Bool → Int → Int → Option β) → Option β) (g8 : {β : Type} → (Int) → ((List Int)) → ((List Int)) → ((List Bool)) → (Bool) → (Int) → ((List Int)) → (Int) → (Bool → Option β) → Option β) {β : Type} (S : Sl) (a0 : (List Int)) (K : Bool → Option β) : Option β := bc ((S.lt 1048576 (a0.length : Int))) (K true) (g6 a0 (fun y1 y2 y3 y4 y5 y6 y7 y8 y9 => g1 y4 y1 y2 y3 y5 y6 y7 y8 y9 (fun y10 y11 y12 y13 y14 y15 y16 y17 => g7 y4 y1 y2 y3 y5 y6 y7 y8 y9 (fun y18 y19 y20 y21 y22 y23 y24 y25 => g5 y14 y10 y11 y12 y15 y16 y13 y17 y22 y18 y19 y20 y23 y24 y21 y25 (fun y26 => bc ((!y26)) (g7 y4 y1 y2 y3 y5 y6 y7 y8 y9 (fun y27 y28 y29 y30 y31 y32 y33 y34 => g5 y14 y10 y11 y12 y15 y16 y13 y17 y31 y27 y28 y29 y32 y33 y30 y34 (fun y35 => K y35))) (g8 y4 y1 y2 y3 y5 y6 y7 y8 (fun y36 => bc ((!y36)) (g7 y4 y1 y2 y3 y5 y6 y7 y8 y9 (fun y37 y38 y39 y40 y41 y42 y43 y44 => g5 y14 y10 y11 y12 y15 y16 y13 y17 y41 y37 y38 y39 y42 y43 y40 y44 (fun y45 => K y45))) (bc ((S.le 8 y9)) (g7 y4 y1 y2 y3 y5 y6 y7 y8 y9 (fun y46 y47 y48 y49 y50 y51 y52 y53 => g5 y14 y10 y11 y12 y15 y16 y13 y17 y50 y46 y47 y48 y51 y52 y49 y53 (fun y54 => K y54))) (g3 y4 y1 y2 y3 y5 y6 y7 y8 (fun y55 y56 => g3 y14 y10 y11 y12 y15 y16 y13 y17 (fun y57 y58 => bc ((S.fw ([] ++ y3).length)) (bc ((S.ir y9 ([] ++ y3).length)) (bc ((!y5)) (g0 y4 (List.set ([] ++ y3) (Int.toNat y9) false) (fun y59 => bc (y58) (g4 y55 y57 (fun y60 => bc (y60) (bc ((S.ir y9 y12.length)) (bc ((!y59)) (bc ((S.ir y9 y3.length)) (bc (((List.getD y12 (Int.toNat y9) false) == (List.getD y3 (Int.toNat y9) false))) (g2 y14 y10 y11 y12 y15 y16 y13 y17 (fun y61 => K y61)) (K false)) (none)) (bc (((List.getD y12 (Int.toNat y9) false) == false)) (g2 y14 y10 y11 y12 y15 y16 y13 y17 (fun y62 => K y62)) (K false))) (none)) (K false))) (K false))) (bc (y58) (g4 y55 y57 (fun y63 => bc (y63) (bc ((S.ir y9 y12.length)) (bc (((List.getD y12 (Int.toNat y9) false) == false)) (g2 y14 y10 y11 y12 y15 y16 y13 y17 (fun y64 => K y64)) (K false)) (none)) (K false))) (K false))) (none)) (none))))))))))))
theorem eGg (g0 : {β : Type} → (Int) → ((List Bool)) → (Bool → Option β) → Option β) (g1 : {β : Type} → (Int) → ((List Int)) → ((List Int)) → ((List Bool)) → (Bool) → (Int) → ((List Int)) → (Int) → (Int) → ((List Int) → (List Int) → (List Bool) → (List Int) → Int → Bool → Int → Int → Option β) → Option β) (g2 : {β : Type} → (Int) → ((List Int)) → ((List Int)) → ((List Bool)) → (Bool) → (Int) → ((List Int)) → (Int) → (Bool → Option β) → Option β) (g3 : {β : Type} → (Int) → ((List Int)) → ((List Int)) → ((List Bool)) → (Bool) → (Int) → ((List Int)) → (Int) → ((List Int) → Bool → Option β) → Option β) (g4 : {β : Type} → ((List Int)) → ((List Int)) → (Bool → Option β) → Option β) (g5 : {β : Type} → (Int) → ((List Int)) → ((List Int)) → ((List Bool)) → (Bool) → (Int) → ((List Int)) → (Int) → (Int) → ((List Int)) → ((List Int)) → ((List Bool)) → (Bool) → (Int) → ((List Int)) → (Int) → (Bool → Option β) → Option β) (g6 : {β : Type} → ((List Int)) → ((List Int) → (List Int) → (List Bool) → Int → Bool → Int → (List Int) → Int → Int → Option β) → Option β) (g7 : {β : Type} → (Int) → ((List Int)) → ((List Int)) → ((List Bool)) → (Bool) → (Int) → ((List Int)) → (Int) → (Int) → ((List Int) → (List Int) → (List Bool) → (List Int) → Int → Bool → Int → Int → Option β) → Option β) (g8 : {β : Type} → (Int) → ((List Int)) → ((List Int)) → ((List Bool)) → (Bool) → (Int) → ((List Int)) → (Int) → (Bool → Option β) → Option β) (β : Type) (s : sin.den) (K : sout.den → Option β) : evalFn (Cg g0 g1 g2 g3 g4 g5 g6 g7 g8) Tryz.f6 sin sout s K = Gg g0 g1 g2 g3 g4 g5 g6 g7 g8 sl0 s.2.1 (fun x0 => K ((), (x0, ()))) := by kernel_rfl
theorem eG (β : Type) (s : sin.den) (K : sout.den → Option β) : evalFn C Tryz.f6 sin sout s K = o.F s K := by
 have h := eGg (impl_CodeBears.G sl0) (impl_KeepLose.G sl0) (impl_KeepOk.G sl0) (impl_KeepRead.G sl0) (laws_lkInts.G sl0) (laws_lkKeep.G sl0) (spec_DrawKeepLose.G sl0) (spec_KeepLose.G sl0) (spec_KeepOk.G sl0) β s K
 have hc : Cg (impl_CodeBears.G sl0) (impl_KeepLose.G sl0) (impl_KeepOk.G sl0) (impl_KeepRead.G sl0) (laws_lkInts.G sl0) (laws_lkKeep.G sl0) (spec_DrawKeepLose.G sl0) (spec_KeepLose.G sl0) (spec_KeepOk.G sl0) = C := by kernel_rfl
 rw [hc] at h
 exact h.trans (by kernel_rfl)
theorem ok : OracOk Tryz.prog o := fn_ok mixed Tryz.func6 (by kernel_rfl) ctx (c := bodyC Tryz.f6) (by kernel_rfl) (all0) (by kernel_rfl) (by kernel_rfl) (by kernel_rfl) (Nat.le_of_ble_eq_true (by kernel_rfl)) eG (by kernel_rfl) (Nat.le_of_ble_eq_true (by kernel_rfl))
end laws_FnKeepLose
end Go.Proofs.YtnbighmbgmjbkaaGreat.E
end
section
set_option linter.unusedVariables false
set_option linter.unusedSimpArgs false
namespace Go.Proofs.YtnbighmbgmjbkaaGreat.E
open Go Go.RowKit
set_option linter.unusedVariables false
set_option maxRecDepth 100000
theorem bearsI_G {β : Type} {kind : Int} (hk : kind = 1 ∨ kind = 2) {th : List Bool} (h8 : th.length = 8) (K : Bool → Option β) : impl_CodeBears.G sl1 kind th K = K (covL kind (thereL th 0 8)) := by
 unfold impl_CodeBears.G
 refine (impl_in kind 1 2 _).trans ?_
 rw [inV_iff.2 (show 1 ≤ kind ∧ kind ≤ 2 by omega)]
 exact cT rfl (cT (eqT (by omega)) ((flag_G h8 _).trans (bears_G (by unfold thereL; rw [← List.range_eq_range']; exact tab_k hk _) _)))
end Go.Proofs.YtnbighmbgmjbkaaGreat.E
end
section
set_option linter.unusedVariables false
set_option linter.unusedSimpArgs false
namespace Go.Proofs.YtnbighmbgmjbkaaGreat.E
open Go Go.RowKit
set_option linter.unusedVariables false
set_option maxRecDepth 100000
theorem readData_T {kind : Int} (hk : kind = 1 ∨ kind = 2) {vals : List Int} (hv : L8 vals) (vers : List Int) (there : List Bool) (v : Int) : ∃ (d : List Int) (b : Bool), ∀ (β : Type) (K : List Int → Bool → Option β), impl_readData.G sl1 kind vals (shI (ofL vers there v)) K = K d b := by
 have ht := ofL_tab hk vers there v
 obtain ⟨x, x1, x2, x3, x4⟩ := solveI_of hk (fun a ha => (ofL_mem'.1 ha).1) (ofL_len vers there v) ht hv
 cases c : covL kind (ofL vers there v)
 ·refine ⟨[], false, fun β K => ?_⟩
  unfold impl_readData.G
  refine (bears_G ht _).trans ?_
  rw [c]; exact cT rfl rfl
 ·cases f : fitsW kind vals x (ofL vers there v)
  ·refine ⟨[], false, fun β K => ?_⟩
   unfold impl_readData.G
   refine (bears_G ht _).trans ?_
   rw [c]
   refine cF rfl ((x3 _ _).trans ?_)
   rw [f]; exact cT rfl rfl
  ·refine ⟨x, true, fun β K => ?_⟩
   unfold impl_readData.G
   refine (bears_G ht _).trans ?_
   rw [c]
   refine cF rfl ((x3 _ _).trans ?_)
   rw [f]; exact cF rfl ((x2 _ _).trans (list_G x1 _))
theorem readT_l {kind : Int} (hk : kind = 1 ∨ kind = 2) {vals : List Int} (hv : L8 vals) {vers : List Int} {there : List Bool} (h2 : vers.length = 8) (h3 : there.length = 8) (L : List Int) (h8 : L.length ≤ 8) (d : Nat) : ∀ (i n : Nat), i + d = L.length → d < n →
  ∃ r : Option (List Int × Int × Bool), ∀ (β : Type) (kx : Option β) (kr : List Int → Int → Bool → Option β), impl_Stripe_read.l2 sl1 n kx kr kind vals vers there L (L.length : Int) (i : Int) = match r with
   | none => kx
   | some t => kr t.1 t.2.1 t.2.2 := by
 induction d with
 | zero =>
  intro i n hi hn
  obtain ⟨n, rfl⟩ : ∃ m, n = m + 1 := ⟨n - 1, by omega⟩
  exact ⟨none, fun β kx kr => by rw [impl_Stripe_read.t2]; exact cF (ltF (by omega)) rfl⟩
 | succ d ih =>
  intro i n hi hn
  obtain ⟨n, rfl⟩ : ∃ m, n = m + 1 := ⟨n - 1, by omega⟩
  have h1 : i < L.length := by omega
  obtain ⟨x, b, hx⟩ := readData_T hk hv vers there L[i]
  obtain ⟨r, hr⟩ := ih (i + 1) n (by omega) (by omega)
  have start : ∀ (β : Type) (kx : Option β) (kr : List Int → Int → Bool → Option β) (z : Option β), (bif b then kr x L[i] true else impl_Stripe_read.l2 sl1 n kx kr kind vals vers there L (L.length : Int) ((i + 1 : Nat) : Int)) = z → impl_Stripe_read.l2 sl1 (n + 1) kx kr kind vals vers there L (L.length : Int) (i : Int) = z := fun β kx kr z h => by
   rw [impl_Stripe_read.t2]
   unfold impl_Stripe_read.b2
   rw [getN L i h1, w_succ (by omega)]
   exact cT (ltT (by omega)) (cT (irT (by omega) (by omega)) ((ofI_G kind vals h2 h3 _ _).trans ((hx _ _).trans h)))
  cases b
  ·exact ⟨r, fun β kx kr => start β kx kr _ (hr β kx kr)⟩
  ·exact ⟨some (x, L[i], true), fun β kx kr => start β kx kr _ rfl⟩
theorem readI_T {kind : Int} (hk : kind = 1 ∨ kind = 2) {vals : List Int} (hv : L8 vals) {vers : List Int} {there : List Bool} (h2 : vers.length = 8) (h3 : there.length = 8) : ∃ (d : List Int) (v : Int) (b : Bool), ∀ (β : Type) (K : List Int → Int → Bool → Option β), impl_Stripe_read.G sl1 kind vals vers there K = K d v b := by
 have h8 := versL_len vers there
 obtain ⟨r, hr⟩ := readT_l hk hv h2 h3 (versL vers there) h8 (versL vers there).length 0 sl1.n (by omega) (by rw [rounds_n]; omega)
 cases r with
 | none => exact ⟨[], 0, false, fun β K => (versions_G kind vals h2 h3 _).trans (hr _ _ _)⟩
 | some t => exact ⟨t.1, t.2.1, t.2.2, fun β K => (versions_G kind vals h2 h3 _).trans (hr _ _ _)⟩
end Go.Proofs.YtnbighmbgmjbkaaGreat.E
end
section
set_option linter.unusedVariables false
set_option linter.unusedSimpArgs false
namespace Go.Proofs.YtnbighmbgmjbkaaGreat.E
open Go Go.RowKit
set_option linter.unusedVariables false
set_option maxRecDepth 100000
theorem keepLose_E (kind : Int) {vals vers : List Int} {there : List Bool} (on : Bool) (kd : Int) {data : List Int} (kv : Int) (at_ : Int) (h1 : vals.length ≤ 1048576) (h2 : vers.length ≤ 1048576) (h3 : there.length ≤ 1048576) (hdl : data.length ≤ 1048576) :
  ∃ (a b : List Int) (c : List Bool) (e : List Int) (x1 : Int) (x2 : Bool) (x3 x4 : Int), (a.length ≤ 1048576 ∧ b.length ≤ 1048576 ∧ c.length ≤ 1048576 ∧ e.length ≤ 1048576) ∧
  (∀ (β : Type) (K : List Int → List Int → List Bool → List Int → Int → Bool → Int → Int → Option β), spec_KeepLose.G sl1 kind vals vers there on kd data kv at_ K = K a b c e x1 x2 x3 x4) ∧
  ∀ (β : Type) (K : List Int → List Int → List Bool → List Int → Int → Bool → Int → Int → Option β), impl_KeepLose.G sl1 kind vals vers there on kd data kv at_ K = K a b c e x1 x2 x3 x4 := by
 cases ck : keepV kind vals vers there on kd data kv
 ·refine ⟨[], [], [], [], 0, false, 0, 0, by simp, fun β K => ?_, fun β K => ?_⟩
  ·refine (keepS_G kind on kd kv (by omega) (by omega) _).trans ?_
   rw [ck]; exact cT rfl rfl
  ·refine (keepI_G kind on kd kv (by omega) _).trans ?_
   rw [keep_same, ck]; exact cT rfl rfl
 cases c2 : inV at_ 0 7
 ·refine ⟨[], [], [], [], 0, false, 0, 0, by simp, fun β K => ?_, fun β K => ?_⟩
  ·refine (keepS_G kind on kd kv (by omega) (by omega) _).trans ?_
   rw [ck]
   refine cF rfl ((spec_in _ _ _ _).trans ?_)
   rw [c2]; exact cT rfl rfl
  ·refine (keepI_G kind on kd kv (by omega) _).trans ?_
   rw [keep_same, ck]
   refine cF rfl ((shard_G _ _).trans ?_)
   rw [c2]; exact cT rfl rfl
 obtain ⟨hk, hf, e1, e2, e3, ho, h99⟩ := keepV_facts ck
 obtain ⟨a0, a1⟩ := inV_iff.1 c2
 obtain ⟨i, rfl⟩ := Int.eq_ofNat_of_zero_le a0
 have hi : i < 8 := by omega
 have startS : ∀ (β : Type) (K : List Int → List Int → List Bool → List Int → Int → Bool → Int → Int → Option β) (r : Option β), spec_l21Read.G sl1 kind (vals.set i 0) (vers.set i 0) (there.set i false) (fun y15 y16 y17 => bif (!on) then (bif (!y17) then (spec_l23Copy.G sl1 kind vals vers there on kd data kv (fun y18 y19 y20 y21 y22 y23 y24 y25 => K y18 y19 y20 y21 y22 y23 y24 y25)) else (K (vals.set i 0) (vers.set i 0) (there.set i false) data kind on kd kv)) else (K (vals.set i 0) (vers.set i 0) (there.set i false) data kind on kd kv)) = r →
   spec_KeepLose.G sl1 kind vals vers there on kd data kv (i : Int) K = r := fun β K r h => by
  refine (keepS_G kind on kd kv (by omega) (by omega) _).trans ?_
  rw [ck]
  refine cF rfl ((spec_in _ _ _ _).trans ?_)
  rw [c2]
  exact cF rfl ((kcopyS_G kind on kd kv (by omega) (by omega) (by omega) hdl _).trans ((lose_G e1 e2 e3 hi _).trans h))
 have startI : ∀ (β : Type) (K : List Int → List Int → List Bool → List Int → Int → Bool → Int → Int → Option β) (r : Option β), impl_Stripe_read.G sl1 kind (vals.set i 0) (vers.set i 0) (there.set i false) (fun y14 y15 y16 => bif (!y16) then (bif (!on) then (impl_Keep_copied.G sl1 kind vals vers there on kd data kv (fun y17 y18 y19 y20 y21 y22 y23 y24 => K y17 y18 y19 y20 y21 y22 y23 y24)) else (K (vals.set i 0) (vers.set i 0) (there.set i false) data kind on kd kv)) else (K (vals.set i 0) (vers.set i 0) (there.set i false) data kind on kd kv)) = r →
   impl_KeepLose.G sl1 kind vals vers there on kd data kv (i : Int) K = r := fun β K r h => by
  refine (keepI_G kind on kd kv (by omega) _).trans ?_
  rw [keep_same, ck]
  refine cF rfl ((shard_G _ _).trans ?_)
  rw [c2]
  refine cF rfl ((kcopyI_G kind on kd kv (by omega) (by omega) (by omega) hdl _).trans ?_)
  exact cT (irT (by omega) (by omega)) (cT (irT (by omega) (by omega)) (cT (irT (by omega) (by omega)) h))
 cases on
 ·obtain ⟨cs, _⟩ := ho rfl
  have cs' := stripe_lose cs hi
  obtain ⟨d, _, es⟩ := readS_E cs'
  obtain ⟨d', _, ei⟩ := readI_E cs'
  cases hr : (readL kind (vers.set i 0) (there.set i false)).isSome
  ·rw [hr] at es ei
   exact ⟨vals, vers, there, data, kind, false, kd, kv, ⟨h1, h2, h3, hdl⟩, fun β K => startS β K _ ((es _ _).trans (cT rfl (cT rfl (kcopyS_G kind false kd kv (by omega) (by omega) (by omega) hdl _)))), fun β K => startI β K _ ((ei _ _).trans (cT rfl (cT rfl (kcopyI_G kind false kd kv (by omega) (by omega) (by omega) hdl _))))⟩
  ·rw [hr] at es ei
   exact ⟨vals.set i 0, vers.set i 0, there.set i false, data, kind, false, kd, kv, ⟨by rw [List.length_set]; exact h1, by rw [List.length_set]; exact h2, by rw [List.length_set]; exact h3, hdl⟩, fun β K => startS β K _ ((es _ _).trans (cT rfl (cF rfl rfl))), fun β K => startI β K _ ((ei _ _).trans (cF rfl rfl))⟩
 ·have hv' : L8 (vals.set i 0) := ⟨by rw [List.length_set]; exact e1, fun x hx => by
   rcases List.mem_or_eq_of_mem_set hx with h | rfl
   ·exact hf x h
   ·omega⟩
  have ht : topV (vers.set i 0) 0 ≤ 1000 := topV_le _ 0 (by omega) fun x hx => by
   rcases List.mem_or_eq_of_mem_set hx with h | rfl
   ·have := h99 x h; omega
   ·omega
  obtain ⟨d, v, b, es⟩ := readS_T hk hv' (vers := vers.set i 0) (there := there.set i false) (by rw [List.length_set]; exact e2) (by rw [List.length_set]; exact e3) ht
  obtain ⟨d', v', b', ei⟩ := readI_T hk hv' (vers := vers.set i 0) (there := there.set i false) (by rw [List.length_set]; exact e2) (by rw [List.length_set]; exact e3)
  refine ⟨vals.set i 0, vers.set i 0, there.set i false, data, kind, true, kd, kv, ⟨by rw [List.length_set]; exact h1, by rw [List.length_set]; exact h2, by rw [List.length_set]; exact h3, hdl⟩, fun β K => startS β K _ ((es _ _).trans (cF rfl rfl)), fun β K => startI β K _ ((ei _ _).trans ?_)⟩
  cases b'
  ·exact cT rfl (cF rfl rfl)
  ·exact cF rfl rfl
end Go.Proofs.YtnbighmbgmjbkaaGreat.E
end
section
set_option linter.unusedVariables false
set_option linter.unusedSimpArgs false
namespace Go.Proofs.YtnbighmbgmjbkaaGreat.E
open Go Go.RowKit
set_option linter.unusedVariables false
set_option maxRecDepth 100000
theorem loseI_on {β : Type} {kind : Int} {vals vers : List Int} {there : List Bool} {kd : Int} {data : List Int} {kv : Int} (ck : keepV kind vals vers there true kd data kv = true) {i : Nat} (hi : i < 8) (K : List Int → List Int → List Bool → List Int → Int → Bool → Int → Int → Option β) :
  impl_KeepLose.G sl1 kind vals vers there true kd data kv (i : Int) K = K (vals.set i 0) (vers.set i 0) (there.set i false) data kind true kd kv := by
 obtain ⟨hk, hf, e1, e2, e3, ho, h99⟩ := keepV_facts ck
 have hdl := keep_data ck
 have hv' : L8 (vals.set i 0) := ⟨by rw [List.length_set]; exact e1, fun x hx => by
  rcases List.mem_or_eq_of_mem_set hx with h | rfl
  ·exact hf x h
  ·omega⟩
 obtain ⟨d', v', b', ei⟩ := readI_T hk hv' (vers := vers.set i 0) (there := there.set i false) (by rw [List.length_set]; exact e2) (by rw [List.length_set]; exact e3)
 unfold impl_KeepLose.G
 refine (keepI_G kind true kd kv (by omega) _).trans ?_
 rw [keep_same, ck]
 refine cF rfl ((shard_G _ _).trans ?_)
 rw [inV_iff.2 ⟨by omega, by omega⟩]
 refine cF rfl ((kcopyI_G kind true kd kv (by omega) (by omega) (by omega) (by omega) _).trans ?_)
 refine cT (irT (by omega) (by omega)) (cT (irT (by omega) (by omega)) (cT (irT (by omega) (by omega)) ?_))
 rw [Int.toNat_natCast]
 refine (ei _ _).trans ?_
 cases b'
 ·exact cT rfl (cF rfl rfl)
 ·exact cF rfl rfl
theorem loseI_off {β : Type} {kind : Int} {vals vers : List Int} {there : List Bool} {kd : Int} {data : List Int} {kv : Int} (ck : keepV kind vals vers there false kd data kv = true) {i : Nat} (hi : i < 8) (K : List Int → List Int → List Bool → List Int → Int → Bool → Int → Int → Option β) :
  impl_KeepLose.G sl1 kind vals vers there false kd data kv (i : Int) K = bif (readL kind (vers.set i 0) (there.set i false)).isSome then K (vals.set i 0) (vers.set i 0) (there.set i false) data kind false kd kv else K vals vers there data kind false kd kv := by
 obtain ⟨hk, hf, e1, e2, e3, ho, h99⟩ := keepV_facts ck
 have hdl := keep_data ck
 obtain ⟨cs, _⟩ := ho rfl
 obtain ⟨d', _, ei⟩ := readI_E (stripe_lose cs hi)
 unfold impl_KeepLose.G
 refine (keepI_G kind false kd kv (by omega) _).trans ?_
 rw [keep_same, ck]
 refine cF rfl ((shard_G _ _).trans ?_)
 rw [inV_iff.2 ⟨by omega, by omega⟩]
 refine cF rfl ((kcopyI_G kind false kd kv (by omega) (by omega) (by omega) (by omega) _).trans ?_)
 refine cT (irT (by omega) (by omega)) (cT (irT (by omega) (by omega)) (cT (irT (by omega) (by omega)) ?_))
 rw [Int.toNat_natCast]
 refine (ei _ _).trans ?_
 cases (readL kind (vers.set i 0) (there.set i false)).isSome
 ·exact cT rfl (cT rfl (kcopyI_G kind false kd kv (by omega) (by omega) (by omega) (by omega) _))
 ·exact cF rfl rfl
theorem loseS_any {β : Type} {kind : Int} {vals vers : List Int} {there : List Bool} {on : Bool} {kd : Int} {data : List Int} {kv : Int} (ck : keepV kind vals vers there on kd data kv = true) {i : Nat} (hi : i < 8) (K : List Int → List Int → List Bool → List Int → Int → Bool → Int → Int → Option β) {r : Option β}
  (h : spec_l21Read.G sl1 kind (vals.set i 0) (vers.set i 0) (there.set i false) (fun y15 y16 y17 => bif (!on) then (bif (!y17) then (spec_l23Copy.G sl1 kind vals vers there on kd data kv (fun y18 y19 y20 y21 y22 y23 y24 y25 => K y18 y19 y20 y21 y22 y23 y24 y25)) else (K (vals.set i 0) (vers.set i 0) (there.set i false) data kind on kd kv)) else (K (vals.set i 0) (vers.set i 0) (there.set i false) data kind on kd kv)) = r) :
  spec_KeepLose.G sl1 kind vals vers there on kd data kv (i : Int) K = r := by
 obtain ⟨hk, hf, e1, e2, e3, ho, h99⟩ := keepV_facts ck
 have hdl := keep_data ck
 refine (keepS_G kind on kd kv (by omega) (by omega) _).trans ?_
 rw [ck]
 refine cF rfl ((spec_in _ _ _ _).trans ?_)
 rw [inV_iff.2 ⟨by omega, by omega⟩]
 exact cF rfl ((kcopyS_G kind on kd kv (by omega) (by omega) (by omega) (by omega) _).trans ((lose_G e1 e2 e3 hi _).trans h))
theorem loseS_on {β : Type} {kind : Int} {vals vers : List Int} {there : List Bool} {kd : Int} {data : List Int} {kv : Int} (ck : keepV kind vals vers there true kd data kv = true) {i : Nat} (hi : i < 8) (K : List Int → List Int → List Bool → List Int → Int → Bool → Int → Int → Option β) :
  spec_KeepLose.G sl1 kind vals vers there true kd data kv (i : Int) K = K (vals.set i 0) (vers.set i 0) (there.set i false) data kind true kd kv := by
 obtain ⟨hk, hf, e1, e2, e3, ho, h99⟩ := keepV_facts ck
 have hv' : L8 (vals.set i 0) := ⟨by rw [List.length_set]; exact e1, fun x hx => by
  rcases List.mem_or_eq_of_mem_set hx with h | rfl
  ·exact hf x h
  ·omega⟩
 have ht : topV (vers.set i 0) 0 ≤ 1000 := topV_le _ 0 (by omega) fun x hx => by
  rcases List.mem_or_eq_of_mem_set hx with h | rfl
  ·have := h99 x h; omega
  ·omega
 obtain ⟨d, v, b, es⟩ := readS_T hk hv' (vers := vers.set i 0) (there := there.set i false) (by rw [List.length_set]; exact e2) (by rw [List.length_set]; exact e3) ht
 exact loseS_any ck hi K ((es _ _).trans (cF rfl rfl))
theorem loseS_off {β : Type} {kind : Int} {vals vers : List Int} {there : List Bool} {kd : Int} {data : List Int} {kv : Int} (ck : keepV kind vals vers there false kd data kv = true) {i : Nat} (hi : i < 8) (K : List Int → List Int → List Bool → List Int → Int → Bool → Int → Int → Option β) :
  spec_KeepLose.G sl1 kind vals vers there false kd data kv (i : Int) K = bif (readL kind (vers.set i 0) (there.set i false)).isSome then K (vals.set i 0) (vers.set i 0) (there.set i false) data kind false kd kv else K vals vers there data kind false kd kv := by
 obtain ⟨hk, hf, e1, e2, e3, ho, h99⟩ := keepV_facts ck
 have hdl := keep_data ck
 obtain ⟨cs, _⟩ := ho rfl
 obtain ⟨d, _, es⟩ := readS_E (stripe_lose cs hi)
 refine loseS_any ck hi K ((es _ _).trans ?_)
 cases (readL kind (vers.set i 0) (there.set i false)).isSome
 ·exact cT rfl (cT rfl (kcopyS_G kind false kd kv (by omega) (by omega) (by omega) (by omega) _))
 ·exact cT rfl (cF rfl rfl)
theorem lose_none {kind : Int} {vals vers : List Int} {there : List Bool} {on : Bool} {kd : Int} {data : List Int} {kv : Int} {at_ : Int} (hl : vals.length ≤ 1000000) (hdl : data.length ≤ 1000000) (h : keepV kind vals vers there on kd data kv = false ∨ 8 ≤ at_) :
  (∀ (β : Type) (K : List Int → List Int → List Bool → List Int → Int → Bool → Int → Int → Option β), spec_KeepLose.G sl1 kind vals vers there on kd data kv at_ K = K [] [] [] [] 0 false 0 0) ∧
  ∀ (β : Type) (K : List Int → List Int → List Bool → List Int → Int → Bool → Int → Int → Option β), impl_KeepLose.G sl1 kind vals vers there on kd data kv at_ K = K [] [] [] [] 0 false 0 0 := by
 refine ⟨fun β K => ?_, fun β K => ?_⟩
 ·refine (keepS_G kind on kd kv (by omega) (by omega) _).trans ?_
  cases ck : keepV kind vals vers there on kd data kv
  ·exact cT rfl rfl
  ·refine cF rfl ((spec_in _ _ _ _).trans ?_)
   have : inV at_ 0 7 = false := by
    cases c : inV at_ 0 7
    ·rfl
    ·have := inV_iff.1 c
     rcases h with h | h
     ·rw [ck] at h; cases h
     ·omega
   rw [this]; exact cT rfl rfl
 ·refine (keepI_G kind on kd kv (by omega) _).trans ?_
  rw [keep_same]
  cases ck : keepV kind vals vers there on kd data kv
  ·exact cT rfl rfl
  ·refine cF rfl ((shard_G _ _).trans ?_)
   have : inV at_ 0 7 = false := by
    cases c : inV at_ 0 7
    ·rfl
    ·have := inV_iff.1 c
     rcases h with h | h
     ·rw [ck] at h; cases h
     ·omega
   rw [this]; exact cT rfl rfl
end Go.Proofs.YtnbighmbgmjbkaaGreat.E
namespace Go.Proofs.YtnbighmbgmjbkaaGreat.Pure.FnKeepLose
open Go Go.Proofs.YtnbighmbgmjbkaaGreat.E
theorem pure {β : Type} (l : List Int) (hl : ∀ x ∈ l, 0 ≤ x ∧ x ≤ 255) (K : Bool → Option β) : laws_FnKeepLose.G sl1 l K = K true := by
 obtain ⟨b, hb, ho⟩ := open_G hl
 obtain ⟨q, kind, vals, vers, there, on, kd, data, kv, q0, q1, ⟨l1, l2, l3, l4⟩, hd⟩ := keep_S hb (p := 0) (by omega) (by omega)
 obtain ⟨c, c0, c1, ec⟩ := pick_S hb (p := q) 8
 obtain ⟨f, f0, f1, ef⟩ := pick_S hb (p := q + 1) 24
 unfold laws_FnKeepLose.G
 by_cases h : 1048576 < (l.length : Int)
 ·exact cT (ltT h) rfl
 refine cF (ltF (by omega)) ?_
 unfold spec_DrawKeepLose.G
 refine (ho _ _).trans ((hd _ _).trans ((ec _ _).trans ((ef _ _).trans ?_)))
 obtain ⟨at_, e_at, a0⟩ : ∃ at_ : Int, sl1.w (c + sl1.w (sl1.w (Int.tdiv f 23) * 8)) = at_ ∧ 0 ≤ at_ := by
  have hq : 0 ≤ Int.tdiv f 23 ∧ Int.tdiv f 23 ≤ 1 := by
   rw [Int.tdiv_eq_ediv_of_nonneg f0]; omega
  exact ⟨_, rfl, by rw [wE (a := Int.tdiv f 23) (by omega) (by omega), wE (a := Int.tdiv f 23 * 8) (by omega) (by omega), wE (by omega) (by omega)]; omega⟩
 rw [e_at]
 cases ck : keepV kind vals vers there on kd data kv
 ·obtain ⟨es, ei⟩ := lose_none (kind := kind) (vals := vals) (vers := vers) (there := there) (on := on) (kd := kd) (data := data) (kv := kv) (at_ := at_) (by omega) (by omega) (.inl ck)
  have same := fun {γ : Type} (K : Bool → Option γ) => lkKeep_same (β := γ) 0 (vals := []) (vers := []) (there := []) false 0 (data := []) 0 (by simp) (by simp) (by simp) (by simp) K
  refine (ei _ _).trans ((es _ _).trans ((same _).trans (cF rfl ((keepS_G kind on kd kv (by omega) (by omega) _).trans ?_))))
  rw [ck]
  exact cT rfl ((es _ _).trans (same _))
 by_cases c8 : 8 ≤ at_
 ·obtain ⟨es, ei⟩ := lose_none (kind := kind) (vals := vals) (vers := vers) (there := there) (on := on) (kd := kd) (data := data) (kv := kv) (at_ := at_) (by omega) (by omega) (.inr c8)
  have same := fun {γ : Type} (K : Bool → Option γ) => lkKeep_same (β := γ) 0 (vals := []) (vers := []) (there := []) false 0 (data := []) 0 (by simp) (by simp) (by simp) (by simp) K
  refine (ei _ _).trans ((es _ _).trans ((same _).trans (cF rfl ((keepS_G kind on kd kv (by omega) (by omega) _).trans ?_))))
  rw [ck]
  exact cF rfl (cT (leT c8) ((es _ _).trans (same _)))
 obtain ⟨i, rfl⟩ := Int.eq_ofNat_of_zero_le a0
 have hi : i < 8 := by omega
 obtain ⟨d, hdl, hon, hoff, _, er⟩ := keepRead_F ck (by omega)
 obtain ⟨hk, hf, h1, h2, h3, ho', _⟩ := keepV_facts ck
 have g1 : List.getD (there.set i false) (Int.toNat (i : Int)) false = false := by rw [Int.toNat_natCast, getD_set _ _ _ _ _ (by omega), if_pos rfl]
 cases on
 ·obtain ⟨cs, hr0⟩ := ho' rfl
  obtain ⟨_, hone, _⟩ := keepOff_iff.1 ck
  have hb := lose_bears cs hone hi
  have ei := fun {γ : Type} (K : List Int → List Int → List Bool → List Int → Int → Bool → Int → Int → Option γ) => loseI_off (β := γ) ck hi K
  have es := fun {γ : Type} (K : List Int → List Int → List Bool → List Int → Int → Bool → Int → Int → Option γ) => loseS_off (β := γ) ck hi K
  have bears := fun {γ : Type} (K : Bool → Option γ) => bearsI_G (β := γ) hk (th := there.set i false) (by rw [List.length_set]; exact h3) K
  cases hr : (readL kind (vers.set i 0) (there.set i false)).isSome
  ·rw [hr] at hb
   simp only [hr, cond_false] at ei es
   have same := fun {γ : Type} (K : Bool → Option γ) => lkKeep_same (β := γ) kind (vals := vals) (vers := vers) (there := there) false kd (data := data) kv (by omega) (by omega) (by omega) (by omega) K
   refine (ei _).trans ((es _).trans ((same _).trans (cF rfl ((keepS_G kind false kd kv (by omega) (by omega) _).trans ?_))))
   rw [ck, List.nil_append]
   refine cF rfl (cF (leF (by omega)) ((er _ _).trans ((er _ _).trans (cT (fwT (by omega)) (cT (irT (by omega) (by omega)) (cT rfl ?_))))))
   rw [Int.toNat_natCast]
   refine (bears _).trans ?_
   rw [hb]
   refine cT rfl ((lkInts_same _ hdl _).trans (cT rfl (cT (irT (by omega) (by omega)) (cT rfl (cT (irT (by omega) (by omega)) (cT (beq_self_eq_true _) ((keepI_G kind false kd kv (by omega) _).trans ?_)))))))
   rw [keep_same, ck]
  ·rw [hr] at hb
   simp only [hr, cond_true] at ei es
   have ck' := keep_loseOff ck hi hr
   obtain ⟨d', hdl', _, hoff', _, er'⟩ := keepRead_F ck' (by omega)
   have ed : d' = d := lose_tells cs hone hi hr (hoff rfl) (hoff' rfl)
   rw [ed] at er'
   have same := fun {γ : Type} (K : Bool → Option γ) => lkKeep_same (β := γ) kind (vals := vals.set i 0) (vers := vers.set i 0) (there := there.set i false) false kd (data := data) kv (by rw [List.length_set]; omega) (by rw [List.length_set]; omega) (by rw [List.length_set]; omega) (by omega) K
   refine (ei _).trans ((es _).trans ((same _).trans (cF rfl ((keepS_G kind false kd kv (by omega) (by omega) _).trans ?_))))
   rw [ck, List.nil_append]
   refine cF rfl (cF (leF (by omega)) ((er _ _).trans ((er' _ _).trans (cT (fwT (by omega)) (cT (irT (by omega) (by omega)) (cT rfl ?_))))))
   rw [g1, Int.toNat_natCast]
   refine (bears _).trans ?_
   rw [hb]
   refine cT rfl ((lkInts_same _ hdl _).trans (cT rfl (cT (irT (by omega) (by rw [List.length_set]; omega)) (cF rfl (cT rfl ((keepI_G kind false kd kv (by omega) _).trans ?_))))))
   rw [keep_same, ck']
 ·have ck' := keep_loseOn ck hi
  obtain ⟨d', hdl', hon', _, _, er'⟩ := keepRead_F ck' (by omega)
  have ed : d' = d := (hon' rfl).trans (hon rfl).symm
  rw [ed] at er'
  have same := fun {γ : Type} (K : Bool → Option γ) => lkKeep_same (β := γ) kind (vals := vals.set i 0) (vers := vers.set i 0) (there := there.set i false) true kd (data := data) kv (by rw [List.length_set]; omega) (by rw [List.length_set]; omega) (by rw [List.length_set]; omega) (by omega) K
  refine (loseI_on ck hi _).trans ((loseS_on ck hi _).trans ((same _).trans (cF rfl ((keepS_G kind true kd kv (by omega) (by omega) _).trans ?_))))
  rw [ck, List.nil_append]
  refine cF rfl (cF (leF (by omega)) ((er _ _).trans ((er' _ _).trans (cT (fwT (by omega)) (cT (irT (by omega) (by omega)) (cF rfl ?_))))))
  rw [g1]
  refine cT rfl ((lkInts_same _ hdl _).trans (cT rfl (cT (irT (by omega) (by rw [List.length_set]; omega)) (cT rfl ((keepI_G kind true kd kv (by omega) _).trans ?_)))))
  rw [keep_same, ck']
end Go.Proofs.YtnbighmbgmjbkaaGreat.Pure.FnKeepLose
end
section
set_option linter.unusedVariables false
set_option linter.unusedSimpArgs false
namespace Go.Proofs.YtnbighmbgmjbkaaGreat.fnKeepLose
open Go.ChangeShapes Go.WideShapes Go.ChangeAt Go.RowKit
open Go.ChangeMaps (open_string shut_string)
set_option linter.unusedVariables false
theorem own : ownKnob Tryz.prog.godebug = none := by kernel_rfl
theorem laidOut : laidOutB Tryz.prog = true := by kernel_rfl
set_option maxRecDepth 100000 in
theorem lifted (os : Os) (started : os.Started) (H : Type) (enc : TypeId × Value → H) :
  ReturnsInHanded {} Tryz.checked os 6 .any (Rows.fnKeepLoseSpec.pre6 enc Tryz.prog Tryz.f6 Rows.fnKeepLoseRow.domain false) (Rows.fnKeepLoseSpec.post enc Tryz.prog Tryz.f6 false true false false) := by
 refine returnsInHanded_of_change_sized (C := Tryz.checked) own started (by kernel_rfl) Tryz.func6
  (ChangeSpec.witness6 (enc := enc) (C := Tryz.checked) false ⟨#[], #[.slice none 0 0], []⟩ 8 (by kernel_rfl) (by kernel_rfl) (by kernel_rfl) (by kernel_rfl)) ?_
 intro W base args ds gs before hval0 hW hcnd hsz0 _
 have hval : ∀ (j : Nat) t v, Tryz.f6.params[j]? = some t → args[j]? = some v → Value.okWide Tryz.prog W .any base t v := hval0
 have hW' := hW
 obtain ⟨p, q, hA0, hV, rfl, hfz, hnd⟩ := hW
 have hA : DataW.TrodAll enc Tryz.prog W 0 (fun _ => true) true Tryz.f6.params.toList args.toList ds p := hA0
 rw [Tryz.params6] at hA hval
 obtain ⟨v0, vs0, d0, ds0, p0, q0, hargs, rfl, rfl, h0, r0⟩ := trodAll_cons hA
 obtain ⟨rfl, rfl, rfl⟩ := trodAll_nil r0
 obtain rfl : args = #[v0] := by cases args; simp_all
 obtain ⟨rfl, rfl⟩ := trodVars_none hV
 obtain ⟨a0, len0, cap0, rfl⟩ := okWide_slice Tryz.underlying22 (hval 0 22 v0 rfl rfl)
 have k0 := h0
 have lt0 : ∀ x ∈ p0, x.block < W.heap.size := by obtain ⟨m, hm⟩ := k0; exact DataW.trod_lt m _ _ _ hm
 obtain ⟨z0, w0, b0⟩ : ∃ zs, E.IsRowK .u8 W a0 len0 cap0 zs ∧ (∀ x ∈ zs, (Lit.int .u8 x).wf = true) := by
  obtain ⟨fuel, hf⟩ := h0
  rcases open_ints Tryz.underlying22 Tryz.underlying5 (by kernel_rfl) hf with ⟨hcs, _⟩ | ⟨x, l, c, zs, hcs, _, hl, hm, hz, _, hcell, hwz⟩
  ·simp [Value.cells] at hcs
   obtain ⟨rfl, rfl, rfl⟩ := hcs
   exact ⟨[], .inl ⟨rfl, rfl, rfl, rfl⟩, by simp⟩
  ·simp [Value.cells] at hcs
   obtain ⟨rfl, rfl, rfl⟩ := hcs
   exact ⟨zs, .inr ⟨_, rfl, hl, by simpa using hz, hcell⟩, hwz⟩
 clear hA0 hval0 hsz0
 have hp := Pure.FnKeepLose.pure (z0.take len0) (fun x hx => E.byte_wf (b0 x (List.mem_of_mem_take hx))) (fun b => some ((), (b, ())))
 rw [← E.sl_eq] at hp
 refine (E.law_bytes E.laws_FnKeepLose.ok w0 hp).mono fun e W' ⟨he, bel⟩ => ?_
 subst he
 exact ⟨_, rfl, _, _, _, [], _, [], hW', trodAll_mk1 (shut_bool Tryz.underlying4 _), (trodAll_cons_mk (Below.trod laidOut (by kernel_rfl) (of_decide_eq_true (by kernel_rfl)) k0 bel lt0) trodAll_mk0), rfl, bel.frame _, fun h => by cases h⟩
theorem closed : joinedFacts Tryz.prog 6 Tryz.f6 Rows.fnKeepLoseSpec Rows.fnKeepLoseRow = true := by
 unfold joinedFacts
 rw [Head.make, Head.final, Head.enter]
 kernel_rfl
theorem over : Rows.fnKeepLoseRow.holds Tryz.pinned (OpenSpec.ofChange Rows.fnKeepLoseSpec) :=
 OpenClaim.holds_of_wide 6 Tryz.f6 rfl rfl rfl rfl rfl rfl rfl ⟨rfl, rfl, rfl, rfl, rfl⟩ rfl rfl rfl rfl rfl (by kernel_rfl) Tryz.func6 closed
  (of_decide_eq_true (by kernel_rfl)) (by unfold Func.isWrapper; first | (rw [if_pos (by decide +kernel)]; kernel_rfl) | (rw [if_neg (by decide +kernel)]; exact ⟨rfl, rfl⟩))
  (fun os started H enc _ => lifted os started H enc)
theorem proved : Rows.FnKeepLoseSaid := over
#print axioms proved
end Go.Proofs.YtnbighmbgmjbkaaGreat.fnKeepLose
end
