/- Part 1 of the proof of the statement FnBeginNot; the last part states it. No condition. -/
import Derived.Test.YtnbighmbgmjbkaaGreatRows
import Derived.WalkKit
import Derived.ProofKit
import Derived.OpenShut
import Derived.ShutString
import Derived.ChangeOld
import Derived.Below
import Derived.SizedLaws
import Derived.Test.YtnbighmbgmjbkaaGreatMGK2
import Derived.Test.YtnbighmbgmjbkaaGreatMGK3
import Derived.Test.YtnbighmbgmjbkaaGreatMGK4
import Derived.Test.YtnbighmbgmjbkaaGreatMGK5
import Derived.Test.YtnbighmbgmjbkaaGreatMGK21
section
set_option linter.unusedVariables false
set_option linter.unusedSimpArgs false
namespace Go.Proofs.YtnbighmbgmjbkaaGreat.E
open Go Go.RowKit
set_option linter.unusedVariables false
set_option maxRecDepth 100000
namespace impl_VecOk
def sin : Sig := ⟨[], [.one (.val (.sl I) false)]⟩
def sout : Sig := ⟨[], [.one (.val .bool false)]⟩
noncomputable def G {β : Type} (S : Sl) (a0 : (List Int)) (K : Bool → Option β) : Option β := impl_elementsOk.G S a0 4 (fun y1 => K y1)
noncomputable def o : Orac := ⟨134, sin, sout, fun s K => G sl0 s.2.1 (fun x0 => K ((), (x0, ())))⟩
noncomputable def C : Ctx := ⟨tyT, [impl_elementsOk.o], [], 5, 0⟩
theorem ctx : CtxOk Tryz.prog C := ⟨tyOk, all1 impl_elementsOk.ok (all0)⟩
theorem eG (β : Type) (s : sin.den) (K : sout.den → Option β) : evalFn C Tryz.f134 sin sout s K = o.F s K := by kernel_rfl
theorem ok : OracOk Tryz.prog o := fn_ok mixed Tryz.func134 (by kernel_rfl) ctx (c := bodyC Tryz.f134) (by kernel_rfl) (all0) (by kernel_rfl) (by kernel_rfl) (by kernel_rfl) (Nat.le_of_ble_eq_true (by kernel_rfl)) eG (by kernel_rfl) (Nat.le_of_ble_eq_true (by kernel_rfl))
end impl_VecOk
end Go.Proofs.YtnbighmbgmjbkaaGreat.E
end
section
set_option linter.unusedVariables false
set_option linter.unusedSimpArgs false
namespace Go.Proofs.YtnbighmbgmjbkaaGreat.E
open Go Go.RowKit
set_option linter.unusedVariables false
set_option maxRecDepth 100000
namespace impl_KeepBegin
def sin : Sig := ⟨[], [.agg [.val I false, .val (.sl I) false, .val (.sl I) false, .val (.sl .bool) false, .val .bool false, .val I false, .val (.sl I) false, .val I false], .one (.val I false), .one (.val (.sl I) false)]⟩
def sout : Sig := ⟨[.buf I false, .buf I false, .buf .bool false, .buf I false], [.agg [.val I false, .ref (.own 0), .ref (.own 1), .ref (.own 2), .val .bool false, .val I false, .ref (.own 3), .val I false], .one (.val .bool false)]⟩
noncomputable def G {β : Type} (S : Sl) (a0 : Int) (a1 : (List Int)) (a2 : (List Int)) (a3 : (List Bool)) (a4 : Bool) (a5 : Int) (a6 : (List Int)) (a7 : Int) (a8 : Int) (a9 : (List Int)) (K : (List Int) → (List Int) → (List Bool) → (List Int) → Int → Bool → Int → Int → Bool → Option β) : Option β := impl_KeepOk.G S a0 a1 a2 a3 a4 a5 a6 a7 (fun y1 => bif (!y1) then (K [] [] [] [] 0 false 0 0 false) else (impl_kindOk.G S a8 (fun y2 => bif (!y2) then (K [] [] [] [] 0 false 0 0 false) else (impl_VecOk.G S a9 (fun y3 => bif (!y3) then (K [] [] [] [] 0 false 0 0 false) else (impl_Keep_copied.G S a0 a1 a2 a3 a4 a5 a6 a7 (fun y4 y5 y6 y7 y8 y9 y10 y11 => bif a4 then (K y4 y5 y6 y7 y8 y9 y10 y11 false) else (impl_Stripe_top.G S a0 a1 a2 a3 (fun y12 => bif (S.eq y12 99) then (K y4 y5 y6 y7 y8 y9 y10 y11 false) else (slices_Clone_Sint_int.G S a9 (fun y13 => slices_Clip_Sint_int_.G S y13 (fun y14 => impl_Stripe_top.G S a0 a1 a2 a3 (fun y15 => K y4 y5 y6 y14 y8 true a8 (S.w (y15 + 1)) true)))))))))))))
noncomputable def o : Orac := ⟨49, sin, sout, fun s K => G sl0 s.2.1.1 s.2.1.2.1 s.2.1.2.2.1 s.2.1.2.2.2.1 s.2.1.2.2.2.2.1 s.2.1.2.2.2.2.2.1 s.2.1.2.2.2.2.2.2.1 s.2.1.2.2.2.2.2.2.2.1 s.2.2.1 s.2.2.2.1 (fun x0 x1 x2 x3 x4 x5 x6 x7 x8 => K ((x0, (x1, (x2, (x3, ())))), ((x4, (x5, (x6, (x7, ())))), (x8, ()))))⟩
noncomputable def C : Ctx := ⟨tyT, [impl_KeepOk.o, impl_Keep_copied.o, impl_Stripe_top.o, impl_VecOk.o, impl_kindOk.o, slices_Clip_Sint_int_.o, slices_Clone_Sint_int.o], [], 47, 0⟩
theorem ctx : CtxOk Tryz.prog C := ⟨tyOk, all1 impl_KeepOk.ok (all1 impl_Keep_copied.ok (all1 impl_Stripe_top.ok (all1 impl_VecOk.ok (all1 impl_kindOk.ok (all1 slices_Clip_Sint_int_.ok (all1 slices_Clone_Sint_int.ok (all0)))))))⟩
theorem eG (β : Type) (s : sin.den) (K : sout.den → Option β) : evalFn C Tryz.f49 sin sout s K = o.F s K := by kernel_rfl
theorem ok : OracOk Tryz.prog o := fn_ok mixed Tryz.func49 (by kernel_rfl) ctx (c := bodyC Tryz.f49) (by kernel_rfl) (all0) (by kernel_rfl) (by kernel_rfl) (by kernel_rfl) (Nat.le_of_ble_eq_true (by kernel_rfl)) eG (by kernel_rfl) (Nat.le_of_ble_eq_true (by kernel_rfl))
end impl_KeepBegin
end Go.Proofs.YtnbighmbgmjbkaaGreat.E
end
section
set_option linter.unusedVariables false
set_option linter.unusedSimpArgs false
namespace Go.Proofs.YtnbighmbgmjbkaaGreat.E
open Go Go.RowKit
set_option linter.unusedVariables false
set_option maxRecDepth 100000
namespace spec_DrawKeepBegin
def sin : Sig := ⟨[], [.one (.val (.sl (.int .u8)) false)]⟩
def sout : Sig := ⟨[.buf I false, .buf I false, .buf .bool false], [.agg [.val I false, .ref (.own 0), .ref (.own 1), .ref (.own 2), .val .bool false, .val I false, .val (.sl I) false, .val I false], .one (.val I false), .one (.val (.sl I) false)]⟩
noncomputable def G {β : Type} (S : Sl) (a0 : (List Int)) (K : (List Int) → (List Int) → (List Bool) → Int → Bool → Int → (List Int) → Int → Int → (List Int) → Option β) : Option β := spec_l6Open.G S a0 (fun y1 y2 => spec_l92Keep.G S y1 y2 (fun y3 y4 y5 y6 y7 y8 y9 y10 y11 y12 => bif y9 then (spec_l6Rd_pick.G S y3 y4 3 (fun y13 y14 y15 => bif (S.lt 0 y15) then (spec_KeepRedo.G S y8 y5 y6 y7 y9 y10 y11 y12 (fun y16 y17 y18 y19 y20 y21 y22 y23 => bif (S.eq (y17.length : Int) 0) then (spec_l92Keep.G S y13 y14 (fun y24 y25 y26 y27 y28 y29 y30 y31 y32 y33 => spec_l91Kind.G S y24 y25 (fun y34 y35 y36 => spec_l91Vec.G S y34 y35 (fun y37 y38 y39 => K y26 y27 y28 y29 y30 y31 y32 y33 y36 y39)))) else (spec_l91Kind.G S y13 y14 (fun y40 y41 y42 => spec_l91Vec.G S y40 y41 (fun y43 y44 y45 => K y16 y17 y18 y20 y21 y22 y19 y23 y42 y45))))) else (bif (S.eq (y6.length : Int) 0) then (spec_l92Keep.G S y13 y14 (fun y46 y47 y48 y49 y50 y51 y52 y53 y54 y55 => spec_l91Kind.G S y46 y47 (fun y56 y57 y58 => spec_l91Vec.G S y56 y57 (fun y59 y60 y61 => K y48 y49 y50 y51 y52 y53 y54 y55 y58 y61)))) else (spec_l91Kind.G S y13 y14 (fun y62 y63 y64 => spec_l91Vec.G S y62 y63 (fun y65 y66 y67 => K y5 y6 y7 y8 y9 y10 y11 y12 y64 y67)))))) else (bif (S.eq (y6.length : Int) 0) then (spec_l92Keep.G S y3 y4 (fun y68 y69 y70 y71 y72 y73 y74 y75 y76 y77 => spec_l91Kind.G S y68 y69 (fun y78 y79 y80 => spec_l91Vec.G S y78 y79 (fun y81 y82 y83 => K y70 y71 y72 y73 y74 y75 y76 y77 y80 y83)))) else (spec_l91Kind.G S y3 y4 (fun y84 y85 y86 => spec_l91Vec.G S y84 y85 (fun y87 y88 y89 => K y5 y6 y7 y8 y9 y10 y11 y12 y86 y89))))))
noncomputable def o : Orac := ⟨47, sin, sout, fun s K => G sl0 s.2.1 (fun x0 x1 x2 x3 x4 x5 x6 x7 x8 x9 => K ((x0, (x1, (x2, ()))), ((x3, (x4, (x5, (x6, (x7, ()))))), (x8, (x9, ())))))⟩
noncomputable def C : Ctx := ⟨tyT, [spec_KeepRedo.o, spec_l6Open.o, spec_l6Rd_pick.o, spec_l91Kind.o, spec_l91Vec.o, spec_l92Keep.o], [], 32, 0⟩
theorem ctx : CtxOk Tryz.prog C := ⟨tyOk, all1 spec_KeepRedo.ok (all1 spec_l6Open.ok (all1 spec_l6Rd_pick.ok (all1 spec_l91Kind.ok (all1 spec_l91Vec.ok (all1 spec_l92Keep.ok (all0))))))⟩
noncomputable def Cg (g0 : {β : Type} → (Int) → ((List Int)) → ((List Int)) → ((List Bool)) → (Bool) → (Int) → ((List Int)) → (Int) → ((List Int) → (List Int) → (List Bool) → (List Int) → Int → Bool → Int → Int → Option β) → Option β) (g1 : {β : Type} → ((List Int)) → ((List Int) → Int → Option β) → Option β) (g2 : {β : Type} → ((List Int)) → (Int) → (Int) → ((List Int) → Int → Int → Option β) → Option β) (g3 : {β : Type} → ((List Int)) → (Int) → ((List Int) → Int → Int → Option β) → Option β) (g4 : {β : Type} → ((List Int)) → (Int) → ((List Int) → Int → (List Int) → Option β) → Option β) (g5 : {β : Type} → ((List Int)) → (Int) → ((List Int) → Int → (List Int) → (List Int) → (List Bool) → Int → Bool → Int → (List Int) → Int → Option β) → Option β) : Ctx := ⟨tyT, [⟨132, spec_KeepRedo.sin, spec_KeepRedo.sout, fun s K => g0 s.2.1.1 s.2.1.2.1 s.2.1.2.2.1 s.2.1.2.2.2.1 s.2.1.2.2.2.2.1 s.2.1.2.2.2.2.2.1 s.2.1.2.2.2.2.2.2.1 s.2.1.2.2.2.2.2.2.2.1 (fun x0 x1 x2 x3 x4 x5 x6 x7 => K ((x0, (x1, (x2, (x3, ())))), ((x4, (x5, (x6, (x7, ())))), ())))⟩, ⟨81, spec_l6Open.sin, spec_l6Open.sout, fun s K => g1 s.2.1 (fun x0 x1 => K (((x0, (x1, ())), ()), ()))⟩, ⟨115, spec_l6Rd_pick.sin, spec_l6Rd_pick.sout, fun s K => g2 s.1.1.1 s.1.1.2.1 s.2.1 (fun x0 x1 x2 => K (((x0, (x1, ())), ()), (x2, ())))⟩, ⟨133, spec_l91Kind.sin, spec_l91Kind.sout, fun s K => g3 s.1.1.1 s.1.1.2.1 (fun x0 x1 x2 => K (((x0, (x1, ())), ()), (x2, ())))⟩, ⟨83, spec_l91Vec.sin, spec_l91Vec.sout, fun s K => g4 s.1.1.1 s.1.1.2.1 (fun x0 x1 x2 => K (((x0, (x1, ())), ()), (x2, ())))⟩, ⟨111, spec_l92Keep.sin, spec_l92Keep.sout, fun s K => g5 s.1.1.1 s.1.1.2.1 (fun x0 x1 x2 x3 x4 x5 x6 x7 x8 x9 => K (((x0, (x1, ())), (x2, (x3, (x4, ())))), ((x5, (x6, (x7, (x8, (x9, ()))))), ())))⟩], [], 32, 0⟩
noncomputable def bc {α : Type} (b : Bool) (x y : α) : α := Bool.rec (motive := fun _ => α) y x b
noncomputable def Gg (g0 : {β : Type} → (Int) → ((List Int)) → ((List Int)) → ((List Bool)) → (Bool) → (Int) → ((List Int)) → (Int) → ((List Int) → (List Int) → (List Bool) → (List Int) → Int → Bool → Int → Int → Option β) → Option β) (g1 : {β : Type} → ((List Int)) → ((List Int) → Int → Option β) → Option β) (g2 : {β : Type} → ((List Int)) → (Int) → (Int) → ((List Int) → Int → Int → Option β) → Option β) (g3 : {β : Type} → ((List Int)) → (Int) → ((List Int) → Int → Int → Option β) → Option β) (g4 : {β : Type} → ((List Int)) → (Int) → ((List Int) → Int → (List Int) → Option β) → Option β) (g5 : {β : Type} → ((List Int)) → (Int) → ((List Int) → Int → (List Int) → (List Int) → (List Bool) → Int → Bool → Int → (List Int) → Int → Option β) → Option β) {β : Type} (S : Sl) (a0 : (List Int)) (K : (List Int) → (List Int) → (List Bool) → Int → Bool → Int → (List Int) → Int → Int → (List Int) → Option β) : Option β := g1 a0 (fun y1 y2 => g5 y1 y2 (fun y3 y4 y5 y6 y7 y8 y9 y10 y11 y12 => bc (y9) (g2 y3 y4 3 (fun y13 y14 y15 => bc ((S.lt 0 y15)) (g0 y8 y5 y6 y7 y9 y10 y11 y12 (fun y16 y17 y18 y19 y20 y21 y22 y23 => bc ((S.eq (y17.length : Int) 0)) (g5 y13 y14 (fun y24 y25 y26 y27 y28 y29 y30 y31 y32 y33 => g3 y24 y25 (fun y34 y35 y36 => g4 y34 y35 (fun y37 y38 y39 => K y26 y27 y28 y29 y30 y31 y32 y33 y36 y39)))) (g3 y13 y14 (fun y40 y41 y42 => g4 y40 y41 (fun y43 y44 y45 => K y16 y17 y18 y20 y21 y22 y19 y23 y42 y45))))) (bc ((S.eq (y6.length : Int) 0)) (g5 y13 y14 (fun y46 y47 y48 y49 y50 y51 y52 y53 y54 y55 => g3 y46 y47 (fun y56 y57 y58 => g4 y56 y57 (fun y59 y60 y61 => K y48 y49 y50 y51 y52 y53 y54 y55 y58 y61)))) (g3 y13 y14 (fun y62 y63 y64 => g4 y62 y63 (fun y65 y66 y67 => K y5 y6 y7 y8 y9 y10 y11 y12 y64 y67)))))) (bc ((S.eq (y6.length : Int) 0)) (g5 y3 y4 (fun y68 y69 y70 y71 y72 y73 y74 y75 y76 y77 => g3 y68 y69 (fun y78 y79 y80 => g4 y78 y79 (fun y81 y82 y83 => K y70 y71 y72 y73 y74 y75 y76 y77 y80 y83)))) (g3 y3 y4 (fun y84 y85 y86 => g4 y84 y85 (fun y87 y88 y89 => K y5 y6 y7 y8 y9 y10 y11 y12 y86 y89))))))
theorem eGg (g0 : {β : Type} → (Int) → ((List Int)) → ((List Int)) → ((List Bool)) → (Bool) → (Int) → ((List Int)) → (Int) → ((List Int) → (List Int) → (List Bool) → (List Int) → Int → Bool → Int → Int → Option β) → Option β) (g1 : {β : Type} → ((List Int)) → ((List Int) → Int → Option β) → Option β) (g2 : {β : Type} → ((List Int)) → (Int) → (Int) → ((List Int) → Int → Int → Option β) → Option β) (g3 : {β : Type} → ((List Int)) → (Int) → ((List Int) → Int → Int → Option β) → Option β) (g4 : {β : Type} → ((List Int)) → (Int) → ((List Int) → Int → (List Int) → Option β) → Option β) (g5 : {β : Type} → ((List Int)) → (Int) → ((List Int) → Int → (List Int) → (List Int) → (List Bool) → Int → Bool → Int → (List Int) → Int → Option β) → Option β) (β : Type) (s : sin.den) (K : sout.den → Option β) : evalFn (Cg g0 g1 g2 g3 g4 g5) Tryz.f47 sin sout s K = Gg g0 g1 g2 g3 g4 g5 sl0 s.2.1 (fun x0 x1 x2 x3 x4 x5 x6 x7 x8 x9 => K ((x0, (x1, (x2, ()))), ((x3, (x4, (x5, (x6, (x7, ()))))), (x8, (x9, ()))))) := by kernel_rfl
theorem eG (β : Type) (s : sin.den) (K : sout.den → Option β) : evalFn C Tryz.f47 sin sout s K = o.F s K := by
 have h := eGg (spec_KeepRedo.G sl0) (spec_l6Open.G sl0) (spec_l6Rd_pick.G sl0) (spec_l91Kind.G sl0) (spec_l91Vec.G sl0) (spec_l92Keep.G sl0) β s K
 have hc : Cg (spec_KeepRedo.G sl0) (spec_l6Open.G sl0) (spec_l6Rd_pick.G sl0) (spec_l91Kind.G sl0) (spec_l91Vec.G sl0) (spec_l92Keep.G sl0) = C := by kernel_rfl
 rw [hc] at h
 exact h.trans (by kernel_rfl)
theorem ok : OracOk Tryz.prog o := fn_ok mixed Tryz.func47 (by kernel_rfl) ctx (c := bodyC Tryz.f47) (by kernel_rfl) (all0) (by kernel_rfl) (by kernel_rfl) (by kernel_rfl) (Nat.le_of_ble_eq_true (by kernel_rfl)) eG (by kernel_rfl) (Nat.le_of_ble_eq_true (by kernel_rfl))
end spec_DrawKeepBegin
end Go.Proofs.YtnbighmbgmjbkaaGreat.E
end
section
set_option linter.unusedVariables false
set_option linter.unusedSimpArgs false
namespace Go.Proofs.YtnbighmbgmjbkaaGreat.E
open Go Go.RowKit
set_option linter.unusedVariables false
set_option maxRecDepth 100000
namespace laws_FnBeginNot
def sin : Sig := ⟨[], [.one (.val (.sl (.int .u8)) false)]⟩
def sout : Sig := ⟨[], [.one (.val .bool false)]⟩
noncomputable def G {β : Type} (S : Sl) (a0 : (List Int)) (K : Bool → Option β) : Option β := bif (S.lt 1048576 (a0.length : Int)) then (K true) else (spec_DrawKeepBegin.G S a0 (fun y1 y2 y3 y4 y5 y6 y7 y8 y9 y10 => spec_KeepBegin.G S y4 y1 y2 y3 y5 y6 y7 y8 y9 y10 (fun y11 y12 y13 y14 y15 y16 y17 y18 y19 => impl_KeepBegin.G S y4 y1 y2 y3 y5 y6 y7 y8 y9 y10 (fun y20 y21 y22 y23 y24 y25 y26 y27 y28 => bif (y28 != y19) then (bif (y28 == y19) then (laws_lkKeep.G S y24 y20 y21 y22 y25 y26 y23 y27 y15 y11 y12 y13 y16 y17 y14 y18 (fun y29 => K y29)) else (K false)) else (laws_lkKeep.G S y24 y20 y21 y22 y25 y26 y23 y27 y15 y11 y12 y13 y16 y17 y14 y18 (fun y30 => bif (!y30) then (bif (y28 == y19) then (laws_lkKeep.G S y24 y20 y21 y22 y25 y26 y23 y27 y15 y11 y12 y13 y16 y17 y14 y18 (fun y31 => K y31)) else (K false)) else (bif (!y28) then (bif (y28 == y19) then (laws_lkKeep.G S y24 y20 y21 y22 y25 y26 y23 y27 y15 y11 y12 y13 y16 y17 y14 y18 (fun y32 => K y32)) else (K false)) else (impl_KeepBegin.G S y24 y20 y21 y22 y25 y26 y23 y27 1 [1, 2, 3, 4] (fun y33 y34 y35 y36 y37 y38 y39 y40 y41 => bif (!y41) then (laws_lkKeep.G S y37 y33 y34 y35 y38 y39 y36 y40 y24 y20 y21 y22 y25 y26 y23 y27 (fun y42 => bif y42 then (K (!y5)) else (K false))) else (K false))))))))))
noncomputable def o : Orac := ⟨9, sin, sout, fun s K => G sl0 s.2.1 (fun x0 => K ((), (x0, ())))⟩
noncomputable def C : Ctx := ⟨tyT, [impl_KeepBegin.o, laws_lkKeep.o, spec_DrawKeepBegin.o, spec_KeepBegin.o], [], 74, 0⟩
theorem ctx : CtxOk Tryz.prog C := ⟨tyOk, all1 impl_KeepBegin.ok (all1 laws_lkKeep.ok (all1 spec_DrawKeepBegin.ok (all1 spec_KeepBegin.ok (all0))))⟩
noncomputable def Cg (g0 : {β : Type} → (Int) → ((List Int)) → ((List Int)) → ((List Bool)) → (Bool) → (Int) → ((List Int)) → (Int) → (Int) → ((List Int)) → ((List Int) → (List Int) → (List Bool) → (List Int) → Int → Bool → Int → Int → Bool → Option β) → Option β) (g1 : {β : Type} → (Int) → ((List Int)) → ((List Int)) → ((List Bool)) → (Bool) → (Int) → ((List Int)) → (Int) → (Int) → ((List Int)) → ((List Int)) → ((List Bool)) → (Bool) → (Int) → ((List Int)) → (Int) → (Bool → Option β) → Option β) (g2 : {β : Type} → ((List Int)) → ((List Int) → (List Int) → (List Bool) → Int → Bool → Int → (List Int) → Int → Int → (List Int) → Option β) → Option β) (g3 : {β : Type} → (Int) → ((List Int)) → ((List Int)) → ((List Bool)) → (Bool) → (Int) → ((List Int)) → (Int) → (Int) → ((List Int)) → ((List Int) → (List Int) → (List Bool) → (List Int) → Int → Bool → Int → Int → Bool → Option β) → Option β) : Ctx := ⟨tyT, [⟨49, impl_KeepBegin.sin, impl_KeepBegin.sout, fun s K => g0 s.2.1.1 s.2.1.2.1 s.2.1.2.2.1 s.2.1.2.2.2.1 s.2.1.2.2.2.2.1 s.2.1.2.2.2.2.2.1 s.2.1.2.2.2.2.2.2.1 s.2.1.2.2.2.2.2.2.2.1 s.2.2.1 s.2.2.2.1 (fun x0 x1 x2 x3 x4 x5 x6 x7 x8 => K ((x0, (x1, (x2, (x3, ())))), ((x4, (x5, (x6, (x7, ())))), (x8, ()))))⟩, ⟨37, laws_lkKeep.sin, laws_lkKeep.sout, fun s K => g1 s.2.1.1 s.2.1.2.1 s.2.1.2.2.1 s.2.1.2.2.2.1 s.2.1.2.2.2.2.1 s.2.1.2.2.2.2.2.1 s.2.1.2.2.2.2.2.2.1 s.2.1.2.2.2.2.2.2.2.1 s.2.2.1.1 s.2.2.1.2.1 s.2.2.1.2.2.1 s.2.2.1.2.2.2.1 s.2.2.1.2.2.2.2.1 s.2.2.1.2.2.2.2.2.1 s.2.2.1.2.2.2.2.2.2.1 s.2.2.1.2.2.2.2.2.2.2.1 (fun x0 => K ((), (x0, ())))⟩, ⟨47, spec_DrawKeepBegin.sin, spec_DrawKeepBegin.sout, fun s K => g2 s.2.1 (fun x0 x1 x2 x3 x4 x5 x6 x7 x8 x9 => K ((x0, (x1, (x2, ()))), ((x3, (x4, (x5, (x6, (x7, ()))))), (x8, (x9, ())))))⟩, ⟨48, spec_KeepBegin.sin, spec_KeepBegin.sout, fun s K => g3 s.2.1.1 s.2.1.2.1 s.2.1.2.2.1 s.2.1.2.2.2.1 s.2.1.2.2.2.2.1 s.2.1.2.2.2.2.2.1 s.2.1.2.2.2.2.2.2.1 s.2.1.2.2.2.2.2.2.2.1 s.2.2.1 s.2.2.2.1 (fun x0 x1 x2 x3 x4 x5 x6 x7 x8 => K ((x0, (x1, (x2, (x3, ())))), ((x4, (x5, (x6, (x7, ())))), (x8, ()))))⟩], [], 74, 0⟩
noncomputable def bc {α : Type} (b : Bool) (x y : α) : α := Bool.rec (motive := fun _ => α) y x b
noncomputable def Gg (g0 : {β : Type} → (Int) → ((List Int)) → ((List Int)) → ((List Bool)) → (Bool) → (Int) → ((List Int)) → (Int) → (Int) → ((List Int)) → ((List Int) → (List Int) → (List Bool) → (List Int) → Int → Bool → Int → Int → Bool → Option β) → Option β) (g1 : {β : Type} → (Int) → ((List Int)) → ((List Int)) → ((List Bool)) → (Bool) → (Int) → ((List Int)) → (Int) → (Int) → ((List Int)) → ((List Int)) → ((List Bool)) → (Bool) → (Int) → ((List Int)) → (Int) → (Bool → Option β) → Option β) (g2 : {β : Type} → ((List Int)) → ((List Int) → (List Int) → (List Bool) → Int → Bool → Int → (List Int) → Int → Int → (List Int) → Option β) → Option β) (g3 : {β : Type} → (Int) → ((List Int)) → ((List Int)) → ((List Bool)) → (Bool) → (Int) → ((List Int)) → (Int) → (Int) → ((List Int)) → ((List Int) → (List Int) → (List Bool) → (List Int) → Int → Bool → Int → Int → Bool → Option β) → Option β) {β : Type} (S : Sl) (a0 : (List Int)) (K : Bool → Option β) : Option β := bc ((S.lt 1048576 (a0.length : Int))) (K true) (g2 a0 (fun y1 y2 y3 y4 y5 y6 y7 y8 y9 y10 => g3 y4 y1 y2 y3 y5 y6 y7 y8 y9 y10 (fun y11 y12 y13 y14 y15 y16 y17 y18 y19 => g0 y4 y1 y2 y3 y5 y6 y7 y8 y9 y10 (fun y20 y21 y22 y23 y24 y25 y26 y27 y28 => bc ((y28 != y19)) (bc ((y28 == y19)) (g1 y24 y20 y21 y22 y25 y26 y23 y27 y15 y11 y12 y13 y16 y17 y14 y18 (fun y29 => K y29)) (K false)) (g1 y24 y20 y21 y22 y25 y26 y23 y27 y15 y11 y12 y13 y16 y17 y14 y18 (fun y30 => bc ((!y30)) (bc ((y28 == y19)) (g1 y24 y20 y21 y22 y25 y26 y23 y27 y15 y11 y12 y13 y16 y17 y14 y18 (fun y31 => K y31)) (K false)) (bc ((!y28)) (bc ((y28 == y19)) (g1 y24 y20 y21 y22 y25 y26 y23 y27 y15 y11 y12 y13 y16 y17 y14 y18 (fun y32 => K y32)) (K false)) (g0 y24 y20 y21 y22 y25 y26 y23 y27 1 [1, 2, 3, 4] (fun y33 y34 y35 y36 y37 y38 y39 y40 y41 => bc ((!y41)) (g1 y37 y33 y34 y35 y38 y39 y36 y40 y24 y20 y21 y22 y25 y26 y23 y27 (fun y42 => bc (y42) (K (!y5)) (K false))) (K false))))))))))
theorem eGg (g0 : {β : Type} → (Int) → ((List Int)) → ((List Int)) → ((List Bool)) → (Bool) → (Int) → ((List Int)) → (Int) → (Int) → ((List Int)) → ((List Int) → (List Int) → (List Bool) → (List Int) → Int → Bool → Int → Int → Bool → Option β) → Option β) (g1 : {β : Type} → (Int) → ((List Int)) → ((List Int)) → ((List Bool)) → (Bool) → (Int) → ((List Int)) → (Int) → (Int) → ((List Int)) → ((List Int)) → ((List Bool)) → (Bool) → (Int) → ((List Int)) → (Int) → (Bool → Option β) → Option β) (g2 : {β : Type} → ((List Int)) → ((List Int) → (List Int) → (List Bool) → Int → Bool → Int → (List Int) → Int → Int → (List Int) → Option β) → Option β) (g3 : {β : Type} → (Int) → ((List Int)) → ((List Int)) → ((List Bool)) → (Bool) → (Int) → ((List Int)) → (Int) → (Int) → ((List Int)) → ((List Int) → (List Int) → (List Bool) → (List Int) → Int → Bool → Int → Int → Bool → Option β) → Option β) (β : Type) (s : sin.den) (K : sout.den → Option β) : evalFn (Cg g0 g1 g2 g3) Tryz.f9 sin sout s K = Gg g0 g1 g2 g3 sl0 s.2.1 (fun x0 => K ((), (x0, ()))) := by kernel_rfl
theorem eG (β : Type) (s : sin.den) (K : sout.den → Option β) : evalFn C Tryz.f9 sin sout s K = o.F s K := by
 have h := eGg (impl_KeepBegin.G sl0) (laws_lkKeep.G sl0) (spec_DrawKeepBegin.G sl0) (spec_KeepBegin.G sl0) β s K
 have hc : Cg (impl_KeepBegin.G sl0) (laws_lkKeep.G sl0) (spec_DrawKeepBegin.G sl0) (spec_KeepBegin.G sl0) = C := by kernel_rfl
 rw [hc] at h
 exact h.trans (by kernel_rfl)
theorem ok : OracOk Tryz.prog o := fn_ok mixed Tryz.func9 (by kernel_rfl) ctx (c := bodyC Tryz.f9) (by kernel_rfl) (all0) (by kernel_rfl) (by kernel_rfl) (by kernel_rfl) (Nat.le_of_ble_eq_true (by kernel_rfl)) eG (by kernel_rfl) (Nat.le_of_ble_eq_true (by kernel_rfl))
end laws_FnBeginNot
end Go.Proofs.YtnbighmbgmjbkaaGreat.E
end
section
set_option linter.unusedVariables false
set_option linter.unusedSimpArgs false
namespace Go.Proofs.YtnbighmbgmjbkaaGreat.E
open Go Go.RowKit
set_option linter.unusedVariables false
set_option maxRecDepth 100000
theorem keepBegin_D {kind : Int} {vals vers : List Int} {there : List Bool} {on : Bool} {kd : Int} {data : List Int} {kv : Int} {k : Int} {d : List Int} (h1 : vals.length = 8) (h2 : vers.length = 8) (h3 : there.length = 8) (hdl : data.length ≤ 4) (hd : d.length ≤ 4) :
  (∃ (a b : List Int) (c : List Bool) (e : List Int) (x1 : Int) (x2 : Bool) (x3 x4 : Int), (a.length ≤ 8 ∧ b.length ≤ 8 ∧ c.length ≤ 8 ∧ e.length ≤ 8) ∧
  (∀ (β : Type) (K : List Int → List Int → List Bool → List Int → Int → Bool → Int → Int → Bool → Option β), spec_KeepBegin.G sl1 kind vals vers there on kd data kv k d K = K a b c e x1 x2 x3 x4 false) ∧
  ∀ (β : Type) (K : List Int → List Int → List Bool → List Int → Int → Bool → Int → Int → Bool → Option β), impl_KeepBegin.G sl1 kind vals vers there on kd data kv k d K = K a b c e x1 x2 x3 x4 false) ∨
  (on = false ∧ keepV kind vals vers there false kd data kv = true ∧ (k = 1 ∨ k = 2) ∧ vecV d = true ∧ topV vers 0 < 99 ∧
  (∀ (β : Type) (K : List Int → List Int → List Bool → List Int → Int → Bool → Int → Int → Bool → Option β), spec_KeepBegin.G sl1 kind vals vers there on kd data kv k d K = K vals vers there d kind true k (topV vers 0 + 1) true) ∧
  ∀ (β : Type) (K : List Int → List Int → List Bool → List Int → Int → Bool → Int → Int → Bool → Option β), impl_KeepBegin.G sl1 kind vals vers there on kd data kv k d K = K vals vers there d kind true k (topV vers 0 + 1) true) := by
 cases ck : keepV kind vals vers there on kd data kv
 ·refine .inl ⟨[], [], [], [], 0, false, 0, 0, by simp, fun β K => ?_, fun β K => ?_⟩
  ·refine (keepS_G kind on kd kv (by omega) (by omega) _).trans ?_
   rw [ck]; exact cT rfl rfl
  ·refine (keepI_G kind on kd kv (by omega) _).trans ?_
   rw [keep_same, ck]; exact cT rfl rfl
 cases c2 : inV k 1 2
 ·refine .inl ⟨[], [], [], [], 0, false, 0, 0, by simp, fun β K => ?_, fun β K => ?_⟩
  ·refine (keepS_G kind on kd kv (by omega) (by omega) _).trans ?_
   rw [ck]
   refine cF rfl ((spec_kind _ _).trans ?_)
   rw [c2]; exact cT rfl rfl
  ·refine (keepI_G kind on kd kv (by omega) _).trans ?_
   rw [keep_same, ck]
   refine cF rfl ((impl_in k 1 2 _).trans ?_)
   rw [c2]; exact cT rfl rfl
 cases c3 : vecV d
 ·refine .inl ⟨[], [], [], [], 0, false, 0, 0, by simp, fun β K => ?_, fun β K => ?_⟩
  ·refine (keepS_G kind on kd kv (by omega) (by omega) _).trans ?_
   rw [ck]
   refine cF rfl ((spec_kind _ _).trans ?_)
   rw [c2]
   refine cF rfl ((vecOk_G d (by omega) _).trans ?_)
   rw [c3]; exact cT rfl rfl
  ·refine (keepI_G kind on kd kv (by omega) _).trans ?_
   rw [keep_same, ck]
   refine cF rfl ((impl_in k 1 2 _).trans ?_)
   rw [c2]
   refine cF rfl ((elems_G d 4 (by omega) _).trans ?_)
   rw [show (decide (d.length = 4) && fldL d) = vecV d by unfold vecV; rw [Bool.and_comm], c3]
   exact cT rfl rfl
 obtain ⟨hk, hf, e1, e2, e3, ho, _⟩ := keepV_facts ck
 have startS : ∀ (β : Type) (K : List Int → List Int → List Bool → List Int → Int → Bool → Int → Int → Bool → Option β) (r : Option β), (bif on then (K vals vers there data kind on kd kv false) else (spec_l21Top.G sl1 kind vals vers there (fun y12 => bif (sl1.le 99 y12) then (K vals vers there data kind on kd kv false) else (bif (sl1.fw ([] ++ d).length) then (spec_l21Top.G sl1 kind vals vers there (fun y13 => K vals vers there ([] ++ d) kind true k (sl1.w (y13 + 1)) true)) else none)))) = r →
   spec_KeepBegin.G sl1 kind vals vers there on kd data kv k d K = r := fun β K r h => by
  refine (keepS_G kind on kd kv (by omega) (by omega) _).trans ?_
  rw [ck]
  refine cF rfl ((spec_kind _ _).trans ?_)
  rw [c2]
  refine cF rfl ((vecOk_G d (by omega) _).trans ?_)
  rw [c3]
  exact cF rfl ((kcopyS_G kind on kd kv (by omega) (by omega) (by omega) (by omega) _).trans h)
 have startI : ∀ (β : Type) (K : List Int → List Int → List Bool → List Int → Int → Bool → Int → Int → Bool → Option β) (r : Option β), (bif on then (K vals vers there data kind on kd kv false) else (impl_Stripe_top.G sl1 kind vals vers there (fun y12 => bif (sl1.eq y12 99) then (K vals vers there data kind on kd kv false) else (slices_Clone_Sint_int.G sl1 d (fun y13 => slices_Clip_Sint_int_.G sl1 y13 (fun y14 => impl_Stripe_top.G sl1 kind vals vers there (fun y15 => K vals vers there y14 kind true k (sl1.w (y15 + 1)) true))))))) = r →
   impl_KeepBegin.G sl1 kind vals vers there on kd data kv k d K = r := fun β K r h => by
  refine (keepI_G kind on kd kv (by omega) _).trans ?_
  rw [keep_same, ck]
  refine cF rfl ((impl_in k 1 2 _).trans ?_)
  rw [c2]
  refine cF rfl ((elems_G d 4 (by omega) _).trans ?_)
  rw [show (decide (d.length = 4) && fldL d) = vecV d by unfold vecV; rw [Bool.and_comm], c3]
  exact cF rfl ((kcopyI_G kind on kd kv (by omega) (by omega) (by omega) (by omega) _).trans h)
 cases on
 ·obtain ⟨cs, _⟩ := ho rfl
  have t9 := top_99' cs
  have t0 := (topV_ge vers 0).1
  by_cases c : topV vers 0 = 99
  ·refine .inl ⟨vals, vers, there, data, kind, false, kd, kv, by omega, fun β K => startS β K _ (cF rfl ((top_G _ _ _ _ (by omega) _).trans (cT (leT (by omega)) rfl))), fun β K => startI β K _ (cF rfl ((topI_G cs _).trans (cT (eqT c) rfl)))⟩
  ·refine .inr ⟨rfl, ck, by have := inV_iff.1 c2; omega, rfl, by omega, fun β K => startS β K _ (cF rfl ((top_G _ _ _ _ (by omega) _).trans (cF (leF (by omega)) ?_))), fun β K => startI β K _ (cF rfl ((topI_G cs _).trans (cF (eqF c) (cT (fwT (by omega)) ((clipI_G _ _).trans ((topI_G cs _).trans ?_))))))⟩
   ·rw [List.nil_append]
    refine cT (fwT (by omega)) ((top_G _ _ _ _ (by omega) _).trans ?_)
    rw [wE (by omega) (by omega)]
   ·rw [wE (by omega) (by omega)]
 ·exact .inl ⟨vals, vers, there, data, kind, true, kd, kv, by omega, fun β K => startS β K _ rfl, fun β K => startI β K _ rfl⟩
theorem drawBegin {l : List Int} (hl : ∀ x ∈ l, 0 ≤ x ∧ x ≤ 255) : ∃ (kind : Int) (vals vers : List Int) (there : List Bool) (on : Bool) (kd : Int) (data : List Int) (kv k : Int) (d : List Int), (vals.length = 8 ∧ vers.length = 8 ∧ there.length = 8 ∧ data.length ≤ 4 ∧ d.length ≤ 4) ∧
  ∀ (β : Type) (K : List Int → List Int → List Bool → Int → Bool → Int → List Int → Int → Int → List Int → Option β), spec_DrawKeepBegin.G sl1 l K = K vals vers there kind on kd data kv k d := by
 obtain ⟨b, hb, ho⟩ := open_G hl
 obtain ⟨q, kind, vals, vers, there, on, kd, data, kv, q0, q1, ⟨l1, l2, l3, l4⟩, hd⟩ := keep_S hb (p := 0) (by omega) (by omega)
 have tail : ∀ p : Int, 0 ≤ p → p ≤ 1000 → ∃ (k : Int) (d : List Int), d.length ≤ 4 ∧ ∀ (β : Type) (K : Int → List Int → Option β), spec_l91Kind.G sl1 b p (fun y1 y2 y3 => spec_l91Vec.G sl1 y1 y2 (fun y4 y5 y6 => K y3 y6)) = K k d := fun p p0 p1 => by
  obtain ⟨k, r, r0, r1, _, _, ek⟩ := kind_G hb (p := p) (by omega) (by omega)
  obtain ⟨d, s, d4, _, _, ed⟩ := vec_S hb (p := r) (by omega) (by omega)
  exact ⟨k, d, d4, fun β K => (ek _ _).trans (ed _ _)⟩
 have n8 : ∀ v : List Int, v.length = 8 → sl1.eq (v.length : Int) 0 = false := fun v h => eqF (by omega)
 cases on
 ·obtain ⟨k, d, d4, et⟩ := tail q (by omega) (by omega)
  refine ⟨kind, vals, vers, there, false, kd, data, kv, k, d, ⟨l1, l2, l3, l4, d4⟩, fun β K => ?_⟩
  unfold spec_DrawKeepBegin.G
  exact (ho _ _).trans ((hd _ _).trans (cF rfl (cF (n8 _ l2) (et _ _))))
 obtain ⟨c, c0, c1, ec⟩ := pick_S hb (p := q) 3
 by_cases h0 : 0 < c
 ·cases ck : keepV kind vals vers there true kd data kv
  ·obtain ⟨q', kind', vals', vers', there', on', kd', data', kv', q0', q1', ⟨l1', l2', l3', l4'⟩, hd'⟩ := keep_S hb (p := q + 1) (by omega) (by omega)
   obtain ⟨k, d, d4, et⟩ := tail q' (by omega) (by omega)
   refine ⟨kind', vals', vers', there', on', kd', data', kv', k, d, ⟨l1', l2', l3', l4', d4⟩, fun β K => ?_⟩
   unfold spec_DrawKeepBegin.G
   refine (ho _ _).trans ((hd _ _).trans (cT rfl ((ec _ _).trans (cT (ltT h0) ?_))))
   refine (keepS_G kind true kd kv (by omega) (by omega) _).trans ?_
   rw [ck]
   exact cT rfl (cT rfl ((hd' _ _).trans (et _ _)))
  ·obtain ⟨a', b', c', e', x1, x2, x3, x4, ck', er⟩ := redo_D ck
   obtain ⟨_, _, m1, m2, m3, _, _⟩ := keepV_facts ck'
   obtain ⟨k, d, d4, et⟩ := tail (q + 1) (by omega) (by omega)
   refine ⟨x1, a', b', c', x2, x3, e', x4, k, d, ⟨m1, m2, m3, keep_data ck', d4⟩, fun β K => ?_⟩
   unfold spec_DrawKeepBegin.G
   exact (ho _ _).trans ((hd _ _).trans (cT rfl ((ec _ _).trans (cT (ltT h0) ((er _ _).trans (cF (n8 _ m2) (et _ _)))))))
 ·obtain ⟨k, d, d4, et⟩ := tail (q + 1) (by omega) (by omega)
  refine ⟨kind, vals, vers, there, true, kd, data, kv, k, d, ⟨l1, l2, l3, l4, d4⟩, fun β K => ?_⟩
  unfold spec_DrawKeepBegin.G
  exact (ho _ _).trans ((hd _ _).trans (cT rfl ((ec _ _).trans (cF (ltF (by omega)) (cF (n8 _ l2) (et _ _))))))
end Go.Proofs.YtnbighmbgmjbkaaGreat.E
namespace Go.Proofs.YtnbighmbgmjbkaaGreat.Pure.FnBeginNot
open Go Go.Proofs.YtnbighmbgmjbkaaGreat.E
theorem pure {β : Type} (l : List Int) (hl : ∀ x ∈ l, 0 ≤ x ∧ x ≤ 255) (K : Bool → Option β) : laws_FnBeginNot.G sl1 l K = K true := by
 obtain ⟨kind, vals, vers, there, on, kd, data, kv, k, d, ⟨l1, l2, l3, l4, l5⟩, hd⟩ := drawBegin hl
 unfold laws_FnBeginNot.G
 by_cases h : 1048576 < (l.length : Int)
 ·exact cT (ltT h) rfl
 refine cF (ltF (by omega)) ((hd _ _).trans ?_)
 rcases keepBegin_D (kind := kind) (vals := vals) (vers := vers) (there := there) (on := on) (kd := kd) (data := data) (kv := kv) (k := k) (d := d) l1 l2 l3 l4 l5 with ⟨a, b, c, e, x1, x2, x3, x4, ⟨m1, m2, m3, m4⟩, es, ei⟩ | ⟨rfl, ck, hk, hv, ht, es, ei⟩
 ·have same := fun {γ : Type} (K : Bool → Option γ) => lkKeep_same (β := γ) x1 (vals := a) (vers := b) (there := c) x2 x3 (data := e) x4 (by omega) (by omega) (by omega) (by omega) K
  exact (es _ _).trans ((ei _ _).trans (cF rfl ((same _).trans (cF rfl (cT rfl (cT rfl (same _)))))))
 ·have same := fun {γ : Type} (K : Bool → Option γ) => lkKeep_same (β := γ) kind (vals := vals) (vers := vers) (there := there) true k (data := d) (topV vers 0 + 1) (by omega) (by omega) (by omega) (by omega) K
  have ck' := keep_begin ck hk hv ht
  have h4 : vecV [1, 2, 3, 4] = true := by decide
  refine (es _ _).trans ((ei _ _).trans (cF rfl ((same _).trans (cF rfl (cF rfl ?_)))))
  refine (keepI_G kind true k (topV vers 0 + 1) (by omega) _).trans ?_
  rw [keep_same, ck']
  refine cF rfl ((impl_in 1 1 2 _).trans ?_)
  rw [show inV 1 1 2 = true by decide]
  refine cF rfl ((elems_G [1, 2, 3, 4] 4 (by simp) _).trans ?_)
  rw [show (decide (([1, 2, 3, 4] : List Int).length = 4) && fldL ([1, 2, 3, 4] : List Int)) = vecV [1, 2, 3, 4] by unfold vecV; rw [Bool.and_comm], h4]
  exact cF rfl ((kcopyI_G kind true k (topV vers 0 + 1) (by omega) (by omega) (by omega) (by omega) _).trans (cT rfl (cT rfl ((same _).trans (cT rfl rfl)))))
end Go.Proofs.YtnbighmbgmjbkaaGreat.Pure.FnBeginNot
end
section
set_option linter.unusedVariables false
set_option linter.unusedSimpArgs false
namespace Go.Proofs.YtnbighmbgmjbkaaGreat.fnBeginNot
open Go.ChangeShapes Go.WideShapes Go.ChangeAt Go.RowKit
open Go.ChangeMaps (open_string shut_string)
set_option linter.unusedVariables false
theorem own : ownKnob Tryz.prog.godebug = none := by kernel_rfl
theorem laidOut : laidOutB Tryz.prog = true := by kernel_rfl
set_option maxRecDepth 100000 in
theorem lifted (os : Os) (started : os.Started) (H : Type) (enc : TypeId × Value → H) :
  ReturnsInHanded {} Tryz.checked os 9 .any (Rows.fnBeginNotSpec.pre6 enc Tryz.prog Tryz.f9 Rows.fnBeginNotRow.domain false) (Rows.fnBeginNotSpec.post enc Tryz.prog Tryz.f9 false true false false) := by
 refine returnsInHanded_of_change_sized (C := Tryz.checked) own started (by kernel_rfl) Tryz.func9
  (ChangeSpec.witness6 (enc := enc) (C := Tryz.checked) false ⟨#[], #[.slice none 0 0], []⟩ 8 (by kernel_rfl) (by kernel_rfl) (by kernel_rfl) (by kernel_rfl)) ?_
 intro W base args ds gs before hval0 hW hcnd hsz0 _
 have hval : ∀ (j : Nat) t v, Tryz.f9.params[j]? = some t → args[j]? = some v → Value.okWide Tryz.prog W .any base t v := hval0
 have hW' := hW
 obtain ⟨p, q, hA0, hV, rfl, hfz, hnd⟩ := hW
 have hA : DataW.TrodAll enc Tryz.prog W 0 (fun _ => true) true Tryz.f9.params.toList args.toList ds p := hA0
 rw [Tryz.params9] at hA hval
 obtain ⟨v0, vs0, d0, ds0, p0, q0, hargs, rfl, rfl, h0, r0⟩ := trodAll_cons hA
 obtain ⟨rfl, rfl, rfl⟩ := trodAll_nil r0
 obtain rfl : args = #[v0] := by cases args; simp_all
 obtain ⟨rfl, rfl⟩ := trodVars_none hV
 obtain ⟨a0, len0, cap0, rfl⟩ := okWide_slice Tryz.underlying22 (hval 0 22 v0 rfl rfl)
 have k0 := h0
 have lt0 : ∀ x ∈ p0, x.block < W.heap.size := by obtain ⟨m, hm⟩ := k0; exact DataW.trod_lt m _ _ _ hm
 obtain ⟨z0, w0, b0⟩ : ∃ zs, E.IsRowK .u8 W a0 len0 cap0 zs ∧ (∀ x ∈ zs, (Lit.int .u8 x).wf = true) := by
  obtain ⟨fuel, hf⟩ := h0
  rcases open_ints Tryz.underlying22 Tryz.underlying5 (by kernel_rfl) hf with ⟨hcs, _⟩ | ⟨x, l, c, zs, hcs, _, hl, hm, hz, _, hcell, hwz⟩
  ·simp [Value.cells] at hcs
   obtain ⟨rfl, rfl, rfl⟩ := hcs
   exact ⟨[], .inl ⟨rfl, rfl, rfl, rfl⟩, by simp⟩
  ·simp [Value.cells] at hcs
   obtain ⟨rfl, rfl, rfl⟩ := hcs
   exact ⟨zs, .inr ⟨_, rfl, hl, by simpa using hz, hcell⟩, hwz⟩
 clear hA0 hval0 hsz0
 have hp := Pure.FnBeginNot.pure (z0.take len0) (fun x hx => E.byte_wf (b0 x (List.mem_of_mem_take hx))) (fun b => some ((), (b, ())))
 rw [← E.sl_eq] at hp
 refine (E.law_bytes E.laws_FnBeginNot.ok w0 hp).mono fun e W' ⟨he, bel⟩ => ?_
 subst he
 exact ⟨_, rfl, _, _, _, [], _, [], hW', trodAll_mk1 (shut_bool Tryz.underlying4 _), (trodAll_cons_mk (Below.trod laidOut (by kernel_rfl) (of_decide_eq_true (by kernel_rfl)) k0 bel lt0) trodAll_mk0), rfl, bel.frame _, fun h => by cases h⟩
theorem closed : joinedFacts Tryz.prog 9 Tryz.f9 Rows.fnBeginNotSpec Rows.fnBeginNotRow = true := by
 unfold joinedFacts
 rw [Head.make, Head.final, Head.enter]
 kernel_rfl
theorem over : Rows.fnBeginNotRow.holds Tryz.pinned (OpenSpec.ofChange Rows.fnBeginNotSpec) :=
 OpenClaim.holds_of_wide 9 Tryz.f9 rfl rfl rfl rfl rfl rfl rfl ⟨rfl, rfl, rfl, rfl, rfl⟩ rfl rfl rfl rfl rfl (by kernel_rfl) Tryz.func9 closed
  (of_decide_eq_true (by kernel_rfl)) (by unfold Func.isWrapper; first | (rw [if_pos (by decide +kernel)]; kernel_rfl) | (rw [if_neg (by decide +kernel)]; exact ⟨rfl, rfl⟩))
  (fun os started H enc _ => lifted os started H enc)
theorem proved : Rows.FnBeginNotSaid := over
#print axioms proved
end Go.Proofs.YtnbighmbgmjbkaaGreat.fnBeginNot
end
