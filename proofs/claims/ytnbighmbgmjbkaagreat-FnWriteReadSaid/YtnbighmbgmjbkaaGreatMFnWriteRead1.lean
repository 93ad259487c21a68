/- Part 1 of the proof of the statement FnWriteRead; the last part states it. No condition. -/
import Derived.Test.YtnbighmbgmjbkaaGreatRows
import Derived.WalkKit
import Derived.ProofKit
import Derived.OpenShut
import Derived.ShutString
import Derived.ChangeOld
import Derived.Below
import Derived.SizedLaws
import Derived.Test.YtnbighmbgmjbkaaGreatMGW2
import Derived.Test.YtnbighmbgmjbkaaGreatMGW3
import Derived.Test.YtnbighmbgmjbkaaGreatMGW4
import Derived.Test.YtnbighmbgmjbkaaGreatMGW11
section
set_option linter.unusedVariables false
set_option linter.unusedSimpArgs false
namespace Go.Proofs.YtnbighmbgmjbkaaGreat.E
open Go Go.RowKit
set_option linter.unusedVariables false
set_option maxRecDepth 100000
namespace impl_CodeBears
def sin : Sig := ⟨[], [.one (.val I false), .one (.val (.sl .bool) false)]⟩
def sout : Sig := ⟨[], [.one (.val .bool false)]⟩
noncomputable def G {β : Type} (S : Sl) (a0 : Int) (a1 : (List Bool)) (K : Bool → Option β) : Option β := impl_kindOk.G S a0 (fun y1 => bif y1 then (bif (S.eq (a1.length : Int) 8) then (impl_flagged.G S a1 (fun y2 => impl_bears.G S a0 y2 (fun y3 => K y3))) else (K false)) else (K false))
noncomputable def o : Orac := ⟨25, sin, sout, fun s K => G sl0 s.2.1 s.2.2.1 (fun x0 => K ((), (x0, ())))⟩
noncomputable def C : Ctx := ⟨tyT, [impl_bears.o, impl_flagged.o, impl_kindOk.o], [], 18, 0⟩
theorem ctx : CtxOk Tryz.prog C := ⟨tyOk, all1 impl_bears.ok (all1 impl_flagged.ok (all1 impl_kindOk.ok (all0)))⟩
theorem eG (β : Type) (s : sin.den) (K : sout.den → Option β) : evalFn C Tryz.f25 sin sout s K = o.F s K := by kernel_rfl
theorem ok : OracOk Tryz.prog o := fn_ok mixed Tryz.func25 (by kernel_rfl) ctx (c := bodyC Tryz.f25) (by kernel_rfl) (all0) (by kernel_rfl) (by kernel_rfl) (by kernel_rfl) (Nat.le_of_ble_eq_true (by kernel_rfl)) eG (by kernel_rfl) (Nat.le_of_ble_eq_true (by kernel_rfl))
end impl_CodeBears
end Go.Proofs.YtnbighmbgmjbkaaGreat.E
end
section
set_option linter.unusedVariables false
set_option linter.unusedSimpArgs false
namespace Go.Proofs.YtnbighmbgmjbkaaGreat.E
open Go Go.RowKit
set_option linter.unusedVariables false
set_option maxRecDepth 100000
namespace spec_l91Vec
def sin : Sig := ⟨[.box [.val (.sl (.int .u8)) false, .val I false]], [.one (.ref (.ptr 0))]⟩
def sout : Sig := ⟨[.box [.val (.sl (.int .u8)) false, .val I false]], [.one (.val (.sl I) false)]⟩
def h3 : SS := ⟨[0, 3, 4], ⟨[.box [.val (.sl (.int .u8)) false, .val I false], .buf I false], [.one (.ref (.ptr 0)), .one (.ref (.own 1)), .one (.val I false)]⟩⟩
def x3 : SS := ⟨[0, 3], ⟨[.box [.val (.sl (.int .u8)) false, .val I false], .buf I false], [.one (.ref (.ptr 0)), .one (.ref (.own 1))]⟩⟩
def y3 : SS := ⟨[], ⟨[], []⟩⟩
noncomputable def b3 {β : Type} (S : Sl) (L : (List Int) → Int → (List Int) → Int → Option β) (kx : (List Int) → Int → (List Int) → Option β) (kr : Option β) (s0 : (List Int)) (s1 : Int) (s2 : (List Int)) (s3 : Int) : Option β := bif (S.lt s3 4) then (spec_l6Rd_pick.G S s0 s1 4 (fun y1 y2 y3 => spec_l6Rd_pick.G S y1 y2 31 (fun y4 y5 y6 => spec_l6Rd_pick.G S y4 y5 31 (fun y7 y8 y9 => spec_l6Rd_pick.G S y7 y8 4 (fun y10 y11 y12 => bif (S.ir y12 [0, y3, y6, y9].length) then (bif (S.fw (s2 ++ [(List.getD [0, y3, y6, y9] (Int.toNat y12) 0)]).length) then (L y10 y11 (s2 ++ [(List.getD [0, y3, y6, y9] (Int.toNat y12) 0)]) (S.w (s3 + 1))) else (none)) else (none)))))) else (kx s0 s1 s2)
noncomputable def r3 {β : Type} (S : Sl) (n : Nat) (kx : x3.sig.den → Option β) (kr : y3.sig.den → Option β) (s : h3.sig.den) : Option β := rounds (fun L kx kr s => b3 S (fun x0 x1 x2 x3 => L (((x0, (x1, ())), (x2, ())), (x3, ()))) (fun x0 x1 x2 => kx (((x0, (x1, ())), (x2, ())), ())) (kr ((), ())) s.1.1.1 s.1.1.2.1 s.1.2.1 s.2.1) kx kr n s
noncomputable def l3 {β : Type} (S : Sl) (n : Nat) (kx : (List Int) → Int → (List Int) → Option β) (kr : Option β) (s0 : (List Int)) (s1 : Int) (s2 : (List Int)) (s3 : Int) : Option β := r3 S n (fun s => kx s.1.1.1 s.1.1.2.1 s.1.2.1) (fun s => kr) (((s0, (s1, ())), (s2, ())), (s3, ()))
theorem t3 {β : Type} (S : Sl) (n : Nat) (kx : (List Int) → Int → (List Int) → Option β) (kr : Option β) (s0 : (List Int)) (s1 : Int) (s2 : (List Int)) (s3 : Int) : l3 S (n + 1) kx kr s0 s1 s2 s3 = b3 S (l3 S n kx kr) kx kr s0 s1 s2 s3 := by kernel_rfl
noncomputable def G {β : Type} (S : Sl) (a0 : (List Int)) (a1 : Int) (K : (List Int) → Int → (List Int) → Option β) : Option β := l3 S S.n (fun y1 y2 y3 => spec_l6Rd_pick.G S y1 y2 40 (fun y4 y5 y6 => bif (S.eq y6 0) then (bif ((S.le 0 1) && (S.le 1 (y3.length : Int)) && (S.le (y3.length : Int) (y3.length : Int)) && (S.le (y3.length : Int) (y3.length : Int))) then (K y4 y5 (cutL y3 (Int.toNat 1) (Int.toNat (y3.length : Int)))) else (none)) else (bif (S.eq y6 1) then (spec_l6Rd_pick.G S y4 y5 (y3.length : Int) (fun y7 y8 y9 => spec_l6Rd_pick.G S y7 y8 2 (fun y10 y11 y12 => bif (S.ir y12 [(-1), 31].length) then (bif (S.ir y9 y3.length) then (K y10 y11 (List.set y3 (Int.toNat y9) (List.getD [(-1), 31] (Int.toNat y12) 0))) else (none)) else (none)))) else (K y4 y5 y3)))) none a0 a1 [] 0
noncomputable def o : Orac := ⟨83, sin, sout, fun s K => G sl0 s.1.1.1 s.1.1.2.1 (fun x0 x1 x2 => K (((x0, (x1, ())), ()), (x2, ())))⟩
noncomputable def C : Ctx := ⟨tyT, [spec_l6Rd_pick.o], [⟨3, 0, h3, x3, y3, fun s kx kr => r3 sl0 sl0.n kx kr s⟩], 44, 1⟩
theorem ctx : CtxOk Tryz.prog C := ⟨tyOk, all1 spec_l6Rd_pick.ok (all0)⟩
theorem e3 (β : Type) (L : h3.sig.den → Option β) (kx : x3.sig.den → Option β) (kr : y3.sig.den → Option β) (s : h3.sig.den) : evalBody C (nthC (loopsOf (bodyC Tryz.f83)) 0) 0 h3 x3 y3 L kx kr s = b3 sl0 (fun x0 x1 x2 x3 => L (((x0, (x1, ())), (x2, ())), (x3, ()))) (fun x0 x1 x2 => kx (((x0, (x1, ())), (x2, ())), ())) (kr ((), ())) s.1.1.1 s.1.1.2.1 s.1.2.1 s.2.1 := by kernel_rfl
theorem g3 : LS Tryz.prog C ⟨3, 0, h3, x3, y3, fun s kx kr => r3 sl0 sl0.n kx kr s⟩ (loopsOf (bodyC Tryz.f83)) := LS.at (i := 0) (by kernel_rfl) (loop_good mixed ctx (ctx_nat ctx) (N := sl0.n) (fun _ _ _ _ => rfl) e3 (all1 (LS.none (by kernel_rfl)) (all0)))
theorem eG (β : Type) (s : sin.den) (K : sout.den → Option β) : evalFn C Tryz.f83 sin sout s K = o.F s K := by kernel_rfl
theorem ok : OracOk Tryz.prog o := fn_ok mixed Tryz.func83 (by kernel_rfl) ctx (c := bodyC Tryz.f83) (by kernel_rfl) (all1 g3 (all0)) (by kernel_rfl) (by kernel_rfl) (by kernel_rfl) (Nat.le_of_ble_eq_true (by kernel_rfl)) eG (by kernel_rfl) (Nat.le_of_ble_eq_true (by kernel_rfl))
end spec_l91Vec
end Go.Proofs.YtnbighmbgmjbkaaGreat.E
end
section
set_option linter.unusedVariables false
set_option linter.unusedSimpArgs false
namespace Go.Proofs.YtnbighmbgmjbkaaGreat.E
open Go Go.RowKit
set_option linter.unusedVariables false
set_option maxRecDepth 100000
namespace spec_DrawStripeWrite
def sin : Sig := ⟨[], [.one (.val (.sl (.int .u8)) false)]⟩
def sout : Sig := ⟨[.buf I false, .buf I false, .buf .bool false, .buf .bool false], [.agg [.val I false, .ref (.own 0), .ref (.own 1), .ref (.own 2)], .one (.val (.sl I) false), .one (.ref (.own 3))]⟩
noncomputable def G {β : Type} (S : Sl) (a0 : (List Int)) (K : (List Int) → (List Int) → (List Bool) → (List Bool) → Int → (List Int) → Option β) : Option β := spec_l6Open.G S a0 (fun y1 y2 => spec_l92Stripe.G S y1 y2 (fun y3 y4 y5 y6 y7 y8 => spec_l91Vec.G S y3 y4 (fun y9 y10 y11 => spec_l92Which.G S y9 y10 (fun y12 y13 y14 => K y5 y6 y7 y14 y8 y11))))
noncomputable def o : Orac := ⟨20, sin, sout, fun s K => G sl0 s.2.1 (fun x0 x1 x2 x3 x4 x5 => K ((x0, (x1, (x2, (x3, ())))), ((x4, ()), (x5, ()))))⟩
noncomputable def C : Ctx := ⟨tyT, [spec_l6Open.o, spec_l91Vec.o, spec_l92Stripe.o, spec_l92Which.o], [], 14, 0⟩
theorem ctx : CtxOk Tryz.prog C := ⟨tyOk, all1 spec_l6Open.ok (all1 spec_l91Vec.ok (all1 spec_l92Stripe.ok (all1 spec_l92Which.ok (all0))))⟩
theorem eG (β : Type) (s : sin.den) (K : sout.den → Option β) : evalFn C Tryz.f20 sin sout s K = o.F s K := by kernel_rfl
theorem ok : OracOk Tryz.prog o := fn_ok mixed Tryz.func20 (by kernel_rfl) ctx (c := bodyC Tryz.f20) (by kernel_rfl) (all0) (by kernel_rfl) (by kernel_rfl) (by kernel_rfl) (Nat.le_of_ble_eq_true (by kernel_rfl)) eG (by kernel_rfl) (Nat.le_of_ble_eq_true (by kernel_rfl))
end spec_DrawStripeWrite
end Go.Proofs.YtnbighmbgmjbkaaGreat.E
end
section
set_option linter.unusedVariables false
set_option linter.unusedSimpArgs false
namespace Go.Proofs.YtnbighmbgmjbkaaGreat.E
open Go Go.RowKit
set_option linter.unusedVariables false
set_option maxRecDepth 100000
namespace laws_FnWriteRead
def sin : Sig := ⟨[], [.one (.val (.sl (.int .u8)) false)]⟩
def sout : Sig := ⟨[], [.one (.val .bool false)]⟩
noncomputable def G {β : Type} (S : Sl) (a0 : (List Int)) (K : Bool → Option β) : Option β := bif (S.lt 1048576 (a0.length : Int)) then (K true) else (spec_DrawStripeWrite.G S a0 (fun y1 y2 y3 y4 y5 y6 => spec_StripeWrite.G S y5 y1 y2 y3 y6 y4 (fun y7 y8 y9 y10 y11 => impl_StripeWrite.G S y5 y1 y2 y3 y6 y4 (fun y12 y13 y14 y15 y16 => bif (y16 != y11) then (bif (y16 == y11) then (laws_lkStripe.G S y15 y12 y13 y14 y10 y7 y8 y9 (fun y17 => K y17)) else (K false)) else (laws_lkStripe.G S y15 y12 y13 y14 y10 y7 y8 y9 (fun y18 => bif (!y18) then (bif (y16 == y11) then (laws_lkStripe.G S y15 y12 y13 y14 y10 y7 y8 y9 (fun y19 => K y19)) else (K false)) else (bif (!y16) then (bif (y16 == y11) then (laws_lkStripe.G S y15 y12 y13 y14 y10 y7 y8 y9 (fun y20 => K y20)) else (K false)) else (impl_StripeRead.G S y5 y1 y2 y3 (fun y21 y22 y23 => impl_StripeRead.G S y15 y12 y13 y14 (fun y24 y25 y26 => impl_CodeBears.G S y5 y4 (fun y27 => bif y27 then (bif y26 then (laws_lkInts.G S y24 y6 (fun y28 => bif y28 then (impl_StripeTop.G S y5 y1 y2 y3 (fun y29 => K (S.eq y25 (S.w (y29 + 1))))) else (K false))) else (K false)) else (K (S.le y25 y22)))))))))))))
noncomputable def o : Orac := ⟨3, sin, sout, fun s K => G sl0 s.2.1 (fun x0 => K ((), (x0, ())))⟩
noncomputable def C : Ctx := ⟨tyT, [impl_CodeBears.o, impl_StripeRead.o, impl_StripeTop.o, impl_StripeWrite.o, laws_lkInts.o, laws_lkStripe.o, spec_DrawStripeWrite.o, spec_StripeWrite.o], [], 92, 0⟩
theorem ctx : CtxOk Tryz.prog C := ⟨tyOk, all1 impl_CodeBears.ok (all1 impl_StripeRead.ok (all1 impl_StripeTop.ok (all1 impl_StripeWrite.ok (all1 laws_lkInts.ok (all1 laws_lkStripe.ok (all1 spec_DrawStripeWrite.ok (all1 spec_StripeWrite.ok (all0))))))))⟩
noncomputable def Cg (g0 : {β : Type} → (Int) → ((List Bool)) → (Bool → Option β) → Option β) (g1 : {β : Type} → (Int) → ((List Int)) → ((List Int)) → ((List Bool)) → ((List Int) → Int → Bool → Option β) → Option β) (g2 : {β : Type} → (Int) → ((List Int)) → ((List Int)) → ((List Bool)) → (Int → Option β) → Option β) (g3 : {β : Type} → (Int) → ((List Int)) → ((List Int)) → ((List Bool)) → ((List Int)) → ((List Bool)) → ((List Int) → (List Int) → (List Bool) → Int → Bool → Option β) → Option β) (g4 : {β : Type} → ((List Int)) → ((List Int)) → (Bool → Option β) → Option β) (g5 : {β : Type} → (Int) → ((List Int)) → ((List Int)) → ((List Bool)) → (Int) → ((List Int)) → ((List Int)) → ((List Bool)) → (Bool → Option β) → Option β) (g6 : {β : Type} → ((List Int)) → ((List Int) → (List Int) → (List Bool) → (List Bool) → Int → (List Int) → Option β) → Option β) (g7 : {β : Type} → (Int) → ((List Int)) → ((List Int)) → ((List Bool)) → ((List Int)) → ((List Bool)) → ((List Int) → (List Int) → (List Bool) → Int → Bool → Option β) → Option β) : Ctx := ⟨tyT, [⟨25, impl_CodeBears.sin, impl_CodeBears.sout, fun s K => g0 s.2.1 s.2.2.1 (fun x0 => K ((), (x0, ())))⟩, ⟨24, impl_StripeRead.sin, impl_StripeRead.sout, fun s K => g1 s.2.1.1 s.2.1.2.1 s.2.1.2.2.1 s.2.1.2.2.2.1 (fun x0 x1 x2 => K ((x0, ()), (x1, (x2, ()))))⟩, ⟨27, impl_StripeTop.sin, impl_StripeTop.sout, fun s K => g2 s.2.1.1 s.2.1.2.1 s.2.1.2.2.1 s.2.1.2.2.2.1 (fun x0 => K ((), (x0, ())))⟩, ⟨22, impl_StripeWrite.sin, impl_StripeWrite.sout, fun s K => g3 s.2.1.1 s.2.1.2.1 s.2.1.2.2.1 s.2.1.2.2.2.1 s.2.2.1 s.2.2.2.1 (fun x0 x1 x2 x3 x4 => K ((x0, (x1, (x2, ()))), ((x3, ()), (x4, ()))))⟩, ⟨26, laws_lkInts.sin, laws_lkInts.sout, fun s K => g4 s.2.1 s.2.2.1 (fun x0 => K ((), (x0, ())))⟩, ⟨23, laws_lkStripe.sin, laws_lkStripe.sout, fun s K => g5 s.2.1.1 s.2.1.2.1 s.2.1.2.2.1 s.2.1.2.2.2.1 s.2.2.1.1 s.2.2.1.2.1 s.2.2.1.2.2.1 s.2.2.1.2.2.2.1 (fun x0 => K ((), (x0, ())))⟩, ⟨20, spec_DrawStripeWrite.sin, spec_DrawStripeWrite.sout, fun s K => g6 s.2.1 (fun x0 x1 x2 x3 x4 x5 => K ((x0, (x1, (x2, (x3, ())))), ((x4, ()), (x5, ()))))⟩, ⟨21, spec_StripeWrite.sin, spec_StripeWrite.sout, fun s K => g7 s.2.1.1 s.2.1.2.1 s.2.1.2.2.1 s.2.1.2.2.2.1 s.2.2.1 s.2.2.2.1 (fun x0 x1 x2 x3 x4 => K ((x0, (x1, (x2, ()))), ((x3, ()), (x4, ()))))⟩], [], 92, 0⟩
noncomputable def bc {α : Type} (b : Bool) (x y : α) : α := Bool.rec (motive := fun _ => α) y x b
noncomputable def Gg (g0 : {β : Type} → (Int) → ((List Bool)) → (Bool → Option β) → Option β) (g1 : {β : Type} → (Int) → ((List Int)) → ((List Int)) → ((List Bool)) → ((List Int) → Int → Bool → Option β) → Option β) (g2 : {β : Type} → (Int) → ((List Int)) → ((List Int)) → ((List Bool)) → (Int → Option β) → Option β) (g3 : {β : Type} → (Int) → ((List Int)) → ((List Int)) → ((List Bool)) → ((List Int)) → ((List Bool)) → ((List Int) → (List Int) → (List Bool) → Int → Bool → Option β) → Option β) (g4 : {β : Type} → ((List Int)) → ((List Int)) → (Bool → Option β) → Option β) (g5 : {β : Type} → (Int) → ((List Int)) → ((List Int)) → ((List Bool)) → (Int) → ((List Int)) → ((List Int)) → ((List Bool)) → (Bool → Option β) → Option β) (g6 : {β : Type} → ((List Int)) → ((List Int) → (List Int) → (List Bool) → (List Bool) → Int → (List Int) → Option β) → Option β) (g7 : {β : Type} → (Int) → ((List Int)) → ((List Int)) → ((List Bool)) → ((List Int)) → ((List Bool)) → ((List Int) → (List Int) → (List Bool) → Int → Bool → Option β) → Option β) {β : Type} (S : Sl) (a0 : (List Int)) (K : Bool → Option β) : Option β := bc ((S.lt 1048576 (a0.length : Int))) (K true) (g6 a0 (fun y1 y2 y3 y4 y5 y6 => g7 y5 y1 y2 y3 y6 y4 (fun y7 y8 y9 y10 y11 => g3 y5 y1 y2 y3 y6 y4 (fun y12 y13 y14 y15 y16 => bc ((y16 != y11)) (bc ((y16 == y11)) (g5 y15 y12 y13 y14 y10 y7 y8 y9 (fun y17 => K y17)) (K false)) (g5 y15 y12 y13 y14 y10 y7 y8 y9 (fun y18 => bc ((!y18)) (bc ((y16 == y11)) (g5 y15 y12 y13 y14 y10 y7 y8 y9 (fun y19 => K y19)) (K false)) (bc ((!y16)) (bc ((y16 == y11)) (g5 y15 y12 y13 y14 y10 y7 y8 y9 (fun y20 => K y20)) (K false)) (g1 y5 y1 y2 y3 (fun y21 y22 y23 => g1 y15 y12 y13 y14 (fun y24 y25 y26 => g0 y5 y4 (fun y27 => bc (y27) (bc (y26) (g4 y24 y6 (fun y28 => bc (y28) (g2 y5 y1 y2 y3 (fun y29 => K (S.eq y25 (S.w (y29 + 1))))) (K false))) (K false)) (K (S.le y25 y22)))))))))))))
theorem eGg (g0 : {β : Type} → (Int) → ((List Bool)) → (Bool → Option β) → Option β) (g1 : {β : Type} → (Int) → ((List Int)) → ((List Int)) → ((List Bool)) → ((List Int) → Int → Bool → Option β) → Option β) (g2 : {β : Type} → (Int) → ((List Int)) → ((List Int)) → ((List Bool)) → (Int → Option β) → Option β) (g3 : {β : Type} → (Int) → ((List Int)) → ((List Int)) → ((List Bool)) → ((List Int)) → ((List Bool)) → ((List Int) → (List Int) → (List Bool) → Int → Bool → Option β) → Option β) (g4 : {β : Type} → ((List Int)) → ((List Int)) → (Bool → Option β) → Option β) (g5 : {β : Type} → (Int) → ((List Int)) → ((List Int)) → ((List Bool)) → (Int) → ((List Int)) → ((List Int)) → ((List Bool)) → (Bool → Option β) → Option β) (g6 : {β : Type} → ((List Int)) → ((List Int) → (List Int) → (List Bool) → (List Bool) → Int → (List Int) → Option β) → Option β) (g7 : {β : Type} → (Int) → ((List Int)) → ((List Int)) → ((List Bool)) → ((List Int)) → ((List Bool)) → ((List Int) → (List Int) → (List Bool) → Int → Bool → Option β) → Option β) (β : Type) (s : sin.den) (K : sout.den → Option β) : evalFn (Cg g0 g1 g2 g3 g4 g5 g6 g7) Tryz.f3 sin sout s K = Gg g0 g1 g2 g3 g4 g5 g6 g7 sl0 s.2.1 (fun x0 => K ((), (x0, ()))) := by kernel_rfl
theorem eG (β : Type) (s : sin.den) (K : sout.den → Option β) : evalFn C Tryz.f3 sin sout s K = o.F s K := by
 have h := eGg (impl_CodeBears.G sl0) (impl_StripeRead.G sl0) (impl_StripeTop.G sl0) (impl_StripeWrite.G sl0) (laws_lkInts.G sl0) (laws_lkStripe.G sl0) (spec_DrawStripeWrite.G sl0) (spec_StripeWrite.G sl0) β s K
 have hc : Cg (impl_CodeBears.G sl0) (impl_StripeRead.G sl0) (impl_StripeTop.G sl0) (impl_StripeWrite.G sl0) (laws_lkInts.G sl0) (laws_lkStripe.G sl0) (spec_DrawStripeWrite.G sl0) (spec_StripeWrite.G sl0) = C := by kernel_rfl
 rw [hc] at h
 exact h.trans (by kernel_rfl)
theorem ok : OracOk Tryz.prog o := fn_ok mixed Tryz.func3 (by kernel_rfl) ctx (c := bodyC Tryz.f3) (by kernel_rfl) (all0) (by kernel_rfl) (by kernel_rfl) (by kernel_rfl) (Nat.le_of_ble_eq_true (by kernel_rfl)) eG (by kernel_rfl) (Nat.le_of_ble_eq_true (by kernel_rfl))
end laws_FnWriteRead
end Go.Proofs.YtnbighmbgmjbkaaGreat.E
end
section
set_option linter.unusedVariables false
set_option linter.unusedSimpArgs false
namespace Go.Proofs.YtnbighmbgmjbkaaGreat.E
open Go Go.RowKit
set_option linter.unusedVariables false
set_option maxRecDepth 100000
theorem vec_l {b : List Int} (hb : Src b) (d : Nat) : ∀ (i n : Nat) (p : Int) (acc : List Int), i + d = 4 → acc.length = i → d < n → 0 ≤ p → p + 4 * d ≤ 900000 →
  ∃ (v : List Int) (q : Int), v.length = 4 ∧ p ≤ q ∧ q ≤ p + 4 * d ∧ ∀ (β : Type) (kx : List Int → Int → List Int → Option β) (kr : Option β), spec_l91Vec.l3 sl1 n kx kr b p acc (i : Int) = kx b q v := by
 induction d with
 | zero =>
  intro i n p acc hi ha hn hp hp2
  obtain ⟨n, rfl⟩ : ∃ m, n = m + 1 := ⟨n - 1, by omega⟩
  exact ⟨acc, p, by omega, by omega, by omega, fun β kx kr => by rw [spec_l91Vec.t3]; exact cF (ltF (by omega)) rfl⟩
 | succ d ih =>
  intro i n p acc hi ha hn hp hp2
  obtain ⟨n, rfl⟩ : ∃ m, n = m + 1 := ⟨n - 1, by omega⟩
  obtain ⟨v1, _, _, e1⟩ := pick_S hb (p := p) 4
  obtain ⟨v2, _, _, e2⟩ := pick_S hb (p := p + 1) 31
  obtain ⟨v3, _, _, e3⟩ := pick_S hb (p := p + 1 + 1) 31
  obtain ⟨v4, f0, f1, e4⟩ := pick_S hb (p := p + 1 + 1 + 1) 4
  obtain ⟨v, q, k1, k2, k3, k4⟩ := ih (i + 1) n (p + 1 + 1 + 1 + 1) (acc ++ [List.getD [0, v1, v2, v3] (Int.toNat v4) 0]) (by omega) (by rw [List.length_append, List.length_singleton]; omega) (by omega) (by omega) (by omega)
  refine ⟨v, q, k1, by omega, by omega, fun β kx kr => ?_⟩
  rw [spec_l91Vec.t3]
  unfold spec_l91Vec.b3
  refine cT (ltT (by omega)) ((e1 _ _).trans ((e2 _ _).trans ((e3 _ _).trans ((e4 _ _).trans (cT (irT f0 f1) (cT (fwT (by rw [List.length_append, List.length_singleton]; omega)) ?_))))))
  rw [w_succ (by omega)]
  exact k4 β kx kr
theorem vec_S {b : List Int} (hb : Src b) {p : Int} (hp : 0 ≤ p) (hp2 : p ≤ 800000) : ∃ (v : List Int) (q : Int), v.length ≤ 4 ∧ p ≤ q ∧ q ≤ p + 19 ∧ ∀ (β : Type) (K : List Int → Int → List Int → Option β), spec_l91Vec.G sl1 b p K = K b q v := by
 obtain ⟨v, q, k1, k2, k3, k4⟩ := vec_l hb 4 0 sl1.n p [] (by omega) rfl (by rw [rounds_n]; omega) hp (by omega)
 obtain ⟨a, a0, a1, ea⟩ := pick_S hb (p := q) 40
 by_cases h0 : a = 0
 ·refine ⟨cutL v 1 v.length, q + 1, ?_, by omega, by omega, fun β K => (k4 _ _ _).trans ((ea _ _).trans (cT (eqT h0) (cT (andT (andT (andT rfl (leT (by omega))) (leT (by omega))) (leT (by omega))) ?_)))⟩
  ·unfold cutL
   simp; omega
  ·rw [Int.toNat_natCast]; rfl
 by_cases h1 : a = 1
 ·obtain ⟨c, c0, c1, ec⟩ := pick_S hb (p := q + 1) (v.length : Int)
  obtain ⟨e, e0, e1, ee⟩ := pick_S hb (p := q + 1 + 1) 2
  exact ⟨v.set (Int.toNat c) (List.getD [(-1), 31] (Int.toNat e) 0), q + 1 + 1 + 1, by rw [List.length_set]; omega, by omega, by omega, fun β K => (k4 _ _ _).trans ((ea _ _).trans (cF (eqF h0) (cT (eqT h1) ((ec _ _).trans ((ee _ _).trans (cT (irT e0 e1) (cT (irT c0 c1) rfl)))))))⟩
 ·exact ⟨v, q + 1, by omega, by omega, by omega, fun β K => (k4 _ _ _).trans ((ea _ _).trans (cF (eqF h0) (cF (eqF h1) rfl)))⟩
end Go.Proofs.YtnbighmbgmjbkaaGreat.E
end
section
set_option linter.unusedVariables false
set_option linter.unusedSimpArgs false
namespace Go.Proofs.YtnbighmbgmjbkaaGreat.E
open Go Go.RowKit
set_option linter.unusedVariables false
set_option maxRecDepth 100000
theorem drawWrite {l : List Int} (hl : ∀ x ∈ l, 0 ≤ x ∧ x ≤ 255) : ∃ kind vals vers there which data, Sd kind vals vers there ∧ which.length = 8 ∧ data.length ≤ 4 ∧ ∀ (β : Type) (K : List Int → List Int → List Bool → List Bool → Int → List Int → Option β), spec_DrawStripeWrite.G sl1 l K = K vals vers there which kind data := by
 obtain ⟨b, hb, ho⟩ := open_G hl
 obtain ⟨q, kind, vals, vers, there, q0, q1, hs, h⟩ := stripe_S hb (p := 0) (by omega) (by omega)
 obtain ⟨d, q', d4, q2, q3, hd⟩ := vec_S hb (p := q) (by omega) (by omega)
 obtain ⟨w, q'', _, _, hw, h'⟩ := which_G hb (p := q') (by omega) (by omega)
 exact ⟨kind, vals, vers, there, w, d, hs, hw, d4, fun β K => (ho _ _).trans ((h _ _).trans ((hd _ _).trans (h' _ _)))⟩
theorem writeV_le {kind : Int} {vals vers : List Int} {there : List Bool} {data : List Int} {which : List Bool} (h1 : vals.length = 8) (h2 : vers.length = 8) (h3 : there.length = 8) :
  (writeV kind vals vers there data which).1.1.length ≤ 8 ∧ (writeV kind vals vers there data which).1.2.1.length ≤ 8 ∧ (writeV kind vals vers there data which).1.2.2.length ≤ 8 := by
 cases ho : (writeV kind vals vers there data which).2.2
 ·unfold writeV at ho ⊢
  split at ho
  ·simp
  ·exact ⟨Nat.le_of_eq h1, Nat.le_of_eq h2, Nat.le_of_eq h3⟩
  ·cases ho
 ·obtain ⟨e, _⟩ := writeV_ok ho
  rw [e]
  have l : ∀ (n i : Nat) (a b : List Int) (c : List Bool) (v : Int), a.length = 8 → b.length = 8 → c.length = 8 → (writeF kind data which v n i a b c).1.length = 8 ∧ (writeF kind data which v n i a b c).2.1.length = 8 ∧ (writeF kind data which v n i a b c).2.2.length = 8 := by
   intro n
   induction n with
   | zero => intro i a b c v ha hb hc; exact ⟨ha, hb, hc⟩
   | succ n ih =>
    intro i a b c v ha hb hc
    unfold writeF
    cases which.getD i false
    ·exact ih (i + 1) a b c v ha hb hc
    ·exact ih (i + 1) _ _ _ v (by rw [List.length_set]; exact ha) (by rw [List.length_set]; exact hb) (by rw [List.length_set]; exact hc)
  obtain ⟨k1, k2, k3⟩ := l 8 0 vals vers there (topV vers 0 + 1) h1 h2 h3
  exact ⟨Nat.le_of_eq k1, Nat.le_of_eq k2, Nat.le_of_eq k3⟩
end Go.Proofs.YtnbighmbgmjbkaaGreat.E
end
section
set_option linter.unusedVariables false
set_option linter.unusedSimpArgs false
namespace Go.Proofs.YtnbighmbgmjbkaaGreat.E
open Go Go.RowKit
set_option linter.unusedVariables false
set_option maxRecDepth 100000
theorem bearsI_G {β : Type} {kind : Int} (hk : kind = 1 ∨ kind = 2) {th : List Bool} (h8 : th.length = 8) (K : Bool → Option β) : impl_CodeBears.G sl1 kind th K = K (covL kind (thereL th 0 8)) := by
 unfold impl_CodeBears.G
 refine (impl_in kind 1 2 _).trans ?_
 rw [inV_iff.2 (show 1 ≤ kind ∧ kind ≤ 2 by omega)]
 exact cT rfl (cT (eqT (by omega)) ((flag_G h8 _).trans (bears_G (by unfold thereL; rw [← List.range_eq_range']; exact tab_k hk _) _)))
end Go.Proofs.YtnbighmbgmjbkaaGreat.E
end
section
set_option linter.unusedVariables false
set_option linter.unusedSimpArgs false
namespace Go.Proofs.YtnbighmbgmjbkaaGreat.E
open Go Go.RowKit
set_option linter.unusedVariables false
set_option maxRecDepth 100000
theorem written_few {kind : Int} {vals vers : List Int} {there : List Bool} (h : stripeV kind vals vers there = true) {data : List Int} {which : List Bool} (hc : covL kind (thereL which 0 8) = false) {v : Int}
  (hv : readL kind (writeF kind data which (topV vers 0 + 1) 8 0 vals vers there).2.1 (writeF kind data which (topV vers 0 + 1) 8 0 vals vers there).2.2 = some v) : ∃ w, readL kind vers there = some w ∧ v ≤ w := by
 obtain ⟨hk, hf, h1, h2, h3, ho⟩ := stripe_iff.1 h
 obtain ⟨l1, l2, l3, g⟩ := writeF_at (kind := kind) (data := data) (which := which) (v := topV vers 0 + 1) 8 0 vals vers there (by omega) h1 h2 h3
 have cx : covV kind (writeF kind data which (topV vers 0 + 1) 8 0 vals vers there).2.1 (writeF kind data which (topV vers 0 + 1) 8 0 vals vers there).2.2 v = true := List.find?_some hv
 by_cases e : v = topV vers 0 + 1
 ·exfalso
  have : covL kind (thereL which 0 8) = true := covL_mono (fun b hb => by
   obtain ⟨q1, q2, q3⟩ := ofL_mem'.1 hb
   by_cases c : 0 ≤ b ∧ which.getD b false = true
   ·exact thereL_mem.2 ⟨q1, c.2⟩
   ·rw [(g b q1).2.1, if_neg c] at q3
    have := ver_le (vers := vers) (a := b) (by omega)
    omega) cx
  rw [hc] at this; cases this
 ·refine readL_ge hk (covL_mono (fun b hb => ?_) cx)
  obtain ⟨q1, q2, q3⟩ := ofL_mem'.1 hb
  obtain ⟨_, g2, g3⟩ := g b q1
  by_cases c : 0 ≤ b ∧ which.getD b false = true
  ·rw [g2, if_pos c] at q3; exact absurd q3.symm e
  ·rw [g2, if_neg c] at q3
   rw [g3, if_neg c] at q2
   exact ofL_mem'.2 ⟨q1, q2, q3⟩
theorem read_pos {kind : Int} {vals vers : List Int} {there : List Bool} (h : stripeV kind vals vers there = true) : 0 ≤ (readL kind vers there).getD 0 := by
 obtain ⟨hk, hf, h1, h2, h3, ho⟩ := stripe_iff.1 h
 cases hr : readL kind vers there with
 | none => exact Int.le_refl _
 | some w =>
  obtain ⟨a, ha, ta, rfl⟩ := versL_mem.1 (List.mem_of_find?_eq_some hr)
  have := (((ho a (by omega)).1 ta).1).1
  show 0 ≤ vers.getD a 0
  omega
end Go.Proofs.YtnbighmbgmjbkaaGreat.E
namespace Go.Proofs.YtnbighmbgmjbkaaGreat.Pure.FnWriteRead
open Go Go.Proofs.YtnbighmbgmjbkaaGreat.E
theorem pure {β : Type} (l : List Int) (hl : ∀ x ∈ l, 0 ≤ x ∧ x ≤ 255) (K : Bool → Option β) : laws_FnWriteRead.G sl1 l K = K true := by
 obtain ⟨kind, vals, vers, there, which, data, hs, hw, h4, hd⟩ := drawWrite hl
 have l1 := hs.l1
 have l2 := hs.l2
 have l3 := hs.l3
 unfold laws_FnWriteRead.G
 by_cases h : 1048576 < (l.length : Int)
 ·exact cT (ltT h) rfl
 obtain ⟨m1, m2, m3⟩ := writeV_le (kind := kind) (data := data) (which := which) l1 l2 l3
 have same := fun {γ : Type} (K : Bool → Option γ) => lkStripe_same (writeV kind vals vers there data which).2.1 (Nat.le_trans m1 (by omega)) (Nat.le_trans m2 (by omega)) (Nat.le_trans m3 (by omega)) K
 refine cF (ltF (by omega)) ((hd _ _).trans ((write_G kind vals vers there data which (by omega) (by omega) _).trans ((implWrite_G kind vals vers there data which (by omega) _).trans (cF (bne_self_eq_false _) ((same _).trans (cF rfl ?_))))))
 cases ok : (writeV kind vals vers there data which).2.2
 ·exact cT rfl (cT rfl (same _))
 obtain ⟨e, cs, cd, _, ht⟩ := writeV_ok ok
 obtain ⟨hk, hf, h1, h2, h3, _⟩ := stripe_iff.1 cs
 have hx := stripe_write cs cd ht (which := which)
 obtain ⟨d0, hT0, hr0⟩ := stripeRead_E cs
 obtain ⟨d1, hT1, hr1⟩ := stripeRead_E hx
 have t0 := (topV_ge vers 0).1
 rw [e]
 refine cF rfl ((hr0 _ _).trans ((hr1 _ _).trans ((bearsI_G hk hw _).trans ?_)))
 cases hc : covL kind (thereL which 0 8)
 ·refine cF rfl ?_
  refine (congrArg K (leT ?_))
  cases hr : readL kind (writeF kind data which (topV vers 0 + 1) 8 0 vals vers there).2.1 (writeF kind data which (topV vers 0 + 1) 8 0 vals vers there).2.2 with
  | none => exact read_pos cs
  | some v =>
   obtain ⟨w, hw', hle⟩ := written_few cs hc hr
   rw [hw']; exact hle
 ·obtain ⟨r1, r2⟩ := written_read cs cd ht hc
  have ed : d1 = data := tells_uniq hk hT1 (by unfold Tells; rw [r1]; exact r2)
  rw [r1, ed]
  refine cT rfl (cT rfl ((lkInts_same _ (by omega) _).trans (cT rfl ((stripeTop_G cs _).trans ?_))))
  rw [wE (by omega) (by omega)]
  exact congrArg K (eqT rfl)
end Go.Proofs.YtnbighmbgmjbkaaGreat.Pure.FnWriteRead
end
section
set_option linter.unusedVariables false
set_option linter.unusedSimpArgs false
namespace Go.Proofs.YtnbighmbgmjbkaaGreat.fnWriteRead
open Go.ChangeShapes Go.WideShapes Go.ChangeAt Go.RowKit
open Go.ChangeMaps (open_string shut_string)
set_option linter.unusedVariables false
theorem own : ownKnob Tryz.prog.godebug = none := by kernel_rfl
theorem laidOut : laidOutB Tryz.prog = true := by kernel_rfl
set_option maxRecDepth 100000 in
theorem lifted (os : Os) (started : os.Started) (H : Type) (enc : TypeId × Value → H) :
  ReturnsInHanded {} Tryz.checked os 3 .any (Rows.fnWriteReadSpec.pre6 enc Tryz.prog Tryz.f3 Rows.fnWriteReadRow.domain false) (Rows.fnWriteReadSpec.post enc Tryz.prog Tryz.f3 false true false false) := by
 refine returnsInHanded_of_change_sized (C := Tryz.checked) own started (by kernel_rfl) Tryz.func3
  (ChangeSpec.witness6 (enc := enc) (C := Tryz.checked) false ⟨#[], #[.slice none 0 0], []⟩ 8 (by kernel_rfl) (by kernel_rfl) (by kernel_rfl) (by kernel_rfl)) ?_
 intro W base args ds gs before hval0 hW hcnd hsz0 _
 have hval : ∀ (j : Nat) t v, Tryz.f3.params[j]? = some t → args[j]? = some v → Value.okWide Tryz.prog W .any base t v := hval0
 have hW' := hW
 obtain ⟨p, q, hA0, hV, rfl, hfz, hnd⟩ := hW
 have hA : DataW.TrodAll enc Tryz.prog W 0 (fun _ => true) true Tryz.f3.params.toList args.toList ds p := hA0
 rw [Tryz.params3] at hA hval
 obtain ⟨v0, vs0, d0, ds0, p0, q0, hargs, rfl, rfl, h0, r0⟩ := trodAll_cons hA
 obtain ⟨rfl, rfl, rfl⟩ := trodAll_nil r0
 obtain rfl : args = #[v0] := by cases args; simp_all
 obtain ⟨rfl, rfl⟩ := trodVars_none hV
 obtain ⟨a0, len0, cap0, rfl⟩ := okWide_slice Tryz.underlying22 (hval 0 22 v0 rfl rfl)
 have k0 := h0
 have lt0 : ∀ x ∈ p0, x.block < W.heap.size := by obtain ⟨m, hm⟩ := k0; exact DataW.trod_lt m _ _ _ hm
 obtain ⟨z0, w0, b0⟩ : ∃ zs, E.IsRowK .u8 W a0 len0 cap0 zs ∧ (∀ x ∈ zs, (Lit.int .u8 x).wf = true) := by
  obtain ⟨fuel, hf⟩ := h0
  rcases open_ints Tryz.underlying22 Tryz.underlying5 (by kernel_rfl) hf with ⟨hcs, _⟩ | ⟨x, l, c, zs, hcs, _, hl, hm, hz, _, hcell, hwz⟩
  ·simp [Value.cells] at hcs
   obtain ⟨rfl, rfl, rfl⟩ := hcs
   exact ⟨[], .inl ⟨rfl, rfl, rfl, rfl⟩, by simp⟩
  ·simp [Value.cells] at hcs
   obtain ⟨rfl, rfl, rfl⟩ := hcs
   exact ⟨zs, .inr ⟨_, rfl, hl, by simpa using hz, hcell⟩, hwz⟩
 clear hA0 hval0 hsz0
 have hp := Pure.FnWriteRead.pure (z0.take len0) (fun x hx => E.byte_wf (b0 x (List.mem_of_mem_take hx))) (fun b => some ((), (b, ())))
 rw [← E.sl_eq] at hp
 refine (E.law_bytes E.laws_FnWriteRead.ok w0 hp).mono fun e W' ⟨he, bel⟩ => ?_
 subst he
 exact ⟨_, rfl, _, _, _, [], _, [], hW', trodAll_mk1 (shut_bool Tryz.underlying4 _), (trodAll_cons_mk (Below.trod laidOut (by kernel_rfl) (of_decide_eq_true (by kernel_rfl)) k0 bel lt0) trodAll_mk0), rfl, bel.frame _, fun h => by cases h⟩
theorem closed : joinedFacts Tryz.prog 3 Tryz.f3 Rows.fnWriteReadSpec Rows.fnWriteReadRow = true := by
 unfold joinedFacts
 rw [Head.make, Head.final, Head.enter]
 kernel_rfl
theorem over : Rows.fnWriteReadRow.holds Tryz.pinned (OpenSpec.ofChange Rows.fnWriteReadSpec) :=
 OpenClaim.holds_of_wide 3 Tryz.f3 rfl rfl rfl rfl rfl rfl rfl ⟨rfl, rfl, rfl, rfl, rfl⟩ rfl rfl rfl rfl rfl (by kernel_rfl) Tryz.func3 closed
  (of_decide_eq_true (by kernel_rfl)) (by unfold Func.isWrapper; first | (rw [if_pos (by decide +kernel)]; kernel_rfl) | (rw [if_neg (by decide +kernel)]; exact ⟨rfl, rfl⟩))
  (fun os started H enc _ => lifted os started H enc)
theorem proved : Rows.FnWriteReadSaid := over
#print axioms proved
end Go.Proofs.YtnbighmbgmjbkaaGreat.fnWriteRead
end
