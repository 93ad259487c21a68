/- Part 1 of the proof of the statement FnRotRead; the last part states it. No condition. -/
import Derived.Test.YtechafkfchmggaaGreatRows
import Derived.WalkKit
import Derived.ProofKit
import Derived.OpenShut
import Derived.ShutString
import Derived.ChangeOld
import Derived.Below
import Derived.SizedLaws
import Derived.Test.YtechafkfchmggaaGreatMGA2
import Derived.Test.YtechafkfchmggaaGreatMGA3
import Derived.Test.YtechafkfchmggaaGreatMGA4
import Derived.Test.YtechafkfchmggaaGreatMGA11
section
set_option linter.unusedVariables false
set_option linter.unusedSimpArgs false
namespace Go.Proofs.YtechafkfchmggaaGreat.E
open Go Go.RowKit
set_option linter.unusedVariables false
set_option maxRecDepth 100000
namespace laws_lkIn
def sin : Sig := ⟨[], [.one (.val (.sl I) false), .one (.val I false)]⟩
def sout : Sig := ⟨[], [.one (.val .bool false)]⟩
def h2 : SS := ⟨[0, 1, 5], ⟨[], [.one (.val (.sl I) false), .one (.val I false), .one (.val I false)]⟩⟩
def x2 : SS := ⟨[], ⟨[], []⟩⟩
def y2 : SS := ⟨[4], ⟨[], [.one (.val .bool false)]⟩⟩
noncomputable def b2 {β : Type} (S : Sl) (L : (List Int) → Int → Int → Option β) (kx : Option β) (kr : Bool → Option β) (s0 : (List Int)) (s1 : Int) (s2 : Int) : Option β := bif (S.lt s2 (s0.length : Int)) then (bif (S.ir s2 s0.length) then (bif (S.eq (List.getD s0 (Int.toNat s2) 0) s1) then (kr true) else (L s0 s1 (S.w (s2 + 1)))) else (none)) else (kx)
noncomputable def r2 {β : Type} (S : Sl) (n : Nat) (kx : x2.sig.den → Option β) (kr : y2.sig.den → Option β) (s : h2.sig.den) : Option β := rounds (fun L kx kr s => b2 S (fun x0 x1 x2 => L ((), (x0, (x1, (x2, ()))))) (kx ((), ())) (fun x0 => kr ((), (x0, ()))) s.2.1 s.2.2.1 s.2.2.2.1) kx kr n s
noncomputable def l2 {β : Type} (S : Sl) (n : Nat) (kx : Option β) (kr : Bool → Option β) (s0 : (List Int)) (s1 : Int) (s2 : Int) : Option β := r2 S n (fun s => kx) (fun s => kr s.2.1) ((), (s0, (s1, (s2, ()))))
theorem t2 {β : Type} (S : Sl) (n : Nat) (kx : Option β) (kr : Bool → Option β) (s0 : (List Int)) (s1 : Int) (s2 : Int) : l2 S (n + 1) kx kr s0 s1 s2 = b2 S (l2 S n kx kr) kx kr s0 s1 s2 := by kernel_rfl
noncomputable def G {β : Type} (S : Sl) (a0 : (List Int)) (a1 : Int) (K : Bool → Option β) : Option β := l2 S S.n (K false) (fun y1 => K y1) a0 a1 0
noncomputable def o : Orac := ⟨43, sin, sout, fun s K => G sl0 s.2.1 s.2.2.1 (fun x0 => K ((), (x0, ())))⟩
noncomputable def C : Ctx := ⟨tyT, [], [⟨2, 0, h2, x2, y2, fun s kx kr => r2 sl0 sl0.n kx kr s⟩], 18, 0⟩
theorem ctx : CtxOk Tryz.prog C := ⟨tyOk, all0⟩
theorem e2 (β : Type) (L : h2.sig.den → Option β) (kx : x2.sig.den → Option β) (kr : y2.sig.den → Option β) (s : h2.sig.den) : evalBody C (nthC (loopsOf (bodyC Tryz.f43)) 0) 0 h2 x2 y2 L kx kr s = b2 sl0 (fun x0 x1 x2 => L ((), (x0, (x1, (x2, ()))))) (kx ((), ())) (fun x0 => kr ((), (x0, ()))) s.2.1 s.2.2.1 s.2.2.2.1 := by kernel_rfl
theorem g2 : LS Tryz.prog C ⟨2, 0, h2, x2, y2, fun s kx kr => r2 sl0 sl0.n kx kr s⟩ (loopsOf (bodyC Tryz.f43)) := LS.at (i := 0) (by kernel_rfl) (loop_good mixed ctx (ctx_nat ctx) (N := sl0.n) (fun _ _ _ _ => rfl) e2 (all1 (LS.none (by kernel_rfl)) (all0)))
theorem eG (β : Type) (s : sin.den) (K : sout.den → Option β) : evalFn C Tryz.f43 sin sout s K = o.F s K := by kernel_rfl
theorem ok : OracOk Tryz.prog o := fn_ok mixed Tryz.func43 (by kernel_rfl) ctx (c := bodyC Tryz.f43) (by kernel_rfl) (all1 g2 (all0)) (by kernel_rfl) (by kernel_rfl) (by kernel_rfl) (Nat.le_of_ble_eq_true (by kernel_rfl)) eG (by kernel_rfl) (Nat.le_of_ble_eq_true (by kernel_rfl))
end laws_lkIn
end Go.Proofs.YtechafkfchmggaaGreat.E
end
section
set_option linter.unusedVariables false
set_option linter.unusedSimpArgs false
namespace Go.Proofs.YtechafkfchmggaaGreat.E
open Go Go.RowKit
set_option linter.unusedVariables false
set_option maxRecDepth 100000
namespace spec_l93Disks
def sin : Sig := ⟨[.box [.val (.sl (.int .u8)) false, .val I false]], [.one (.ref (.ptr 0))]⟩
def sout : Sig := ⟨[.box [.val (.sl (.int .u8)) false, .val I false]], [.one (.val I false), .one (.val (.sl (.pair I (.pair I (.pair I .unit)))) false)]⟩
def h4 : SS := ⟨[0, 4, 5, 6], ⟨[.box [.val (.sl (.int .u8)) false, .val I false], .box [.val I false, .ref (.own 3), .ref (.own 4), .ref (.own 5)], .buf (.pair I (.pair I (.pair I .unit))) false, .buf I false, .buf I false, .buf .bool false], [.one (.ref (.ptr 0)), .one (.ref (.ptr 1)), .one (.ref (.own 2)), .one (.val I false)]⟩⟩
def x4 : SS := ⟨[0, 4, 5], ⟨[.box [.val (.sl (.int .u8)) false, .val I false], .box [.val I false, .ref (.own 3), .ref (.own 4), .ref (.own 5)], .buf (.pair I (.pair I (.pair I .unit))) false, .buf I false, .buf I false, .buf .bool false], [.one (.ref (.ptr 0)), .one (.ref (.ptr 1)), .one (.ref (.own 2))]⟩⟩
def y4 : SS := ⟨[], ⟨[], []⟩⟩
noncomputable def b4 {β : Type} (S : Sl) (L : (List Int) → Int → Int → (List (Int × (Int × (Int × Unit)))) → (List Int) → (List Int) → (List Bool) → Int → Option β) (kx : (List Int) → Int → Int → (List (Int × (Int × (Int × Unit)))) → (List Int) → (List Int) → (List Bool) → Option β) (kr : Option β) (s0 : (List Int)) (s1 : Int) (s2 : Int) (s3 : (List (Int × (Int × (Int × Unit))))) (s4 : (List Int)) (s5 : (List Int)) (s6 : (List Bool)) (s7 : Int) : Option β := bif (S.lt 0 s7) then (bif (S.lt 0 (s3.length : Int)) then (spec_l6Rd_pick.G S s0 s1 (s3.length : Int) (fun y1 y2 y3 => spec_l6Rd_pick.G S y1 y2 3 (fun y4 y5 y6 => bif (S.eq y6 0) then (spec_l91Num.G S y4 y5 (fun y7 y8 y9 => bif (S.ir y3 s3.length) then (L y7 y8 s2 (List.set s3 (Int.toNat y3) (y9, (List.getD s3 (Int.toNat y3) (0, (0, (0, ())))).2)) s4 s5 s6 (S.w (s7 - 1))) else (none))) else (bif (S.eq y6 1) then (spec_l6Rd_pick.G S y4 y5 91 (fun y10 y11 y12 => bif (S.ir y3 s3.length) then (L y10 y11 s2 (List.set s3 (Int.toNat y3) ((List.getD s3 (Int.toNat y3) (0, (0, (0, ())))).1, ((List.getD s3 (Int.toNat y3) (0, (0, (0, ())))).2.1, (y12, (List.getD s3 (Int.toNat y3) (0, (0, (0, ())))).2.2.2)))) s4 s5 s6 (S.w (s7 - 1))) else (none))) else (bif (S.ir y3 s3.length) then (L y4 y5 s2 (List.set s3 (Int.toNat y3) (0, (0, (0, ())))) s4 s5 s6 (S.w (s7 - 1))) else (none)))))) else (kx s0 s1 s2 s3 s4 s5 s6)) else (kx s0 s1 s2 s3 s4 s5 s6)
noncomputable def r4 {β : Type} (S : Sl) (n : Nat) (kx : x4.sig.den → Option β) (kr : y4.sig.den → Option β) (s : h4.sig.den) : Option β := rounds (fun L kx kr s => b4 S (fun x0 x1 x2 x3 x4 x5 x6 x7 => L (((x0, (x1, ())), ((x2, ()), (x3, (x4, (x5, (x6, ())))))), (x7, ()))) (fun x0 x1 x2 x3 x4 x5 x6 => kx (((x0, (x1, ())), ((x2, ()), (x3, (x4, (x5, (x6, ())))))), ())) (kr ((), ())) s.1.1.1 s.1.1.2.1 s.1.2.1.1 s.1.2.2.1 s.1.2.2.2.1 s.1.2.2.2.2.1 s.1.2.2.2.2.2.1 s.2.1) kx kr n s
noncomputable def l4 {β : Type} (S : Sl) (n : Nat) (kx : (List Int) → Int → Int → (List (Int × (Int × (Int × Unit)))) → (List Int) → (List Int) → (List Bool) → Option β) (kr : Option β) (s0 : (List Int)) (s1 : Int) (s2 : Int) (s3 : (List (Int × (Int × (Int × Unit))))) (s4 : (List Int)) (s5 : (List Int)) (s6 : (List Bool)) (s7 : Int) : Option β := r4 S n (fun s => kx s.1.1.1 s.1.1.2.1 s.1.2.1.1 s.1.2.2.1 s.1.2.2.2.1 s.1.2.2.2.2.1 s.1.2.2.2.2.2.1) (fun s => kr) (((s0, (s1, ())), ((s2, ()), (s3, (s4, (s5, (s6, ())))))), (s7, ()))
theorem t4 {β : Type} (S : Sl) (n : Nat) (kx : (List Int) → Int → Int → (List (Int × (Int × (Int × Unit)))) → (List Int) → (List Int) → (List Bool) → Option β) (kr : Option β) (s0 : (List Int)) (s1 : Int) (s2 : Int) (s3 : (List (Int × (Int × (Int × Unit))))) (s4 : (List Int)) (s5 : (List Int)) (s6 : (List Bool)) (s7 : Int) : l4 S (n + 1) kx kr s0 s1 s2 s3 s4 s5 s6 s7 = b4 S (l4 S n kx kr) kx kr s0 s1 s2 s3 s4 s5 s6 s7 := by kernel_rfl
noncomputable def G {β : Type} (S : Sl) (a0 : (List Int)) (a1 : Int) (K : (List Int) → Int → Int → (List (Int × (Int × (Int × Unit)))) → Option β) : Option β := spec_l92Stripe.G S a0 a1 (fun y1 y2 y3 y4 y5 y6 => spec_RotWrite.G S y6 y3 y4 y5 (fun y7 => spec_l6Rd_pick.G S y1 y2 3 (fun y8 y9 y10 => l4 S S.n (fun y11 y12 y13 y14 y15 y16 y17 => spec_l6Rd_pick.G S y11 y12 40 (fun y18 y19 y20 => bif (S.eq y20 0) then (bif (S.lt 0 (y14.length : Int)) then (bif ((S.le 0 1) && (S.le 1 (y14.length : Int)) && (S.le (y14.length : Int) (y14.length : Int)) && (S.le (y14.length : Int) (y14.length : Int))) then (K y18 y19 y13 (cutL y14 (Int.toNat 1) (Int.toNat (y14.length : Int)))) else (none)) else (K y18 y19 y13 y14)) else (K y18 y19 y13 y14))) none y8 y9 y6 y7 y3 y4 y5 y10)))
noncomputable def o : Orac := ⟨106, sin, sout, fun s K => G sl0 s.1.1.1 s.1.1.2.1 (fun x0 x1 x2 x3 => K (((x0, (x1, ())), ()), (x2, (x3, ()))))⟩
noncomputable def C : Ctx := ⟨tyT, [spec_RotWrite.o, spec_l6Rd_pick.o, spec_l91Num.o, spec_l92Stripe.o], [⟨4, 0, h4, x4, y4, fun s kx kr => r4 sl0 sl0.n kx kr s⟩], 64, 1⟩
theorem ctx : CtxOk Tryz.prog C := ⟨tyOk, all1 spec_RotWrite.ok (all1 spec_l6Rd_pick.ok (all1 spec_l91Num.ok (all1 spec_l92Stripe.ok (all0))))⟩
theorem e4 (β : Type) (L : h4.sig.den → Option β) (kx : x4.sig.den → Option β) (kr : y4.sig.den → Option β) (s : h4.sig.den) : evalBody C (nthC (loopsOf (bodyC Tryz.f106)) 0) 0 h4 x4 y4 L kx kr s = b4 sl0 (fun x0 x1 x2 x3 x4 x5 x6 x7 => L (((x0, (x1, ())), ((x2, ()), (x3, (x4, (x5, (x6, ())))))), (x7, ()))) (fun x0 x1 x2 x3 x4 x5 x6 => kx (((x0, (x1, ())), ((x2, ()), (x3, (x4, (x5, (x6, ())))))), ())) (kr ((), ())) s.1.1.1 s.1.1.2.1 s.1.2.1.1 s.1.2.2.1 s.1.2.2.2.1 s.1.2.2.2.2.1 s.1.2.2.2.2.2.1 s.2.1 := by kernel_rfl
theorem g4 : LS Tryz.prog C ⟨4, 0, h4, x4, y4, fun s kx kr => r4 sl0 sl0.n kx kr s⟩ (loopsOf (bodyC Tryz.f106)) := LS.at (i := 0) (by kernel_rfl) (loop_good mixed ctx (ctx_nat ctx) (N := sl0.n) (fun _ _ _ _ => rfl) e4 (all1 (LS.none (by kernel_rfl)) (all0)))
theorem eG (β : Type) (s : sin.den) (K : sout.den → Option β) : evalFn C Tryz.f106 sin sout s K = o.F s K := by kernel_rfl
theorem ok : OracOk Tryz.prog o := fn_ok mixed Tryz.func106 (by kernel_rfl) ctx (c := bodyC Tryz.f106) (by kernel_rfl) (all1 g4 (all0)) (by kernel_rfl) (by kernel_rfl) (by kernel_rfl) (Nat.le_of_ble_eq_true (by kernel_rfl)) eG (by kernel_rfl) (Nat.le_of_ble_eq_true (by kernel_rfl))
end spec_l93Disks
end Go.Proofs.YtechafkfchmggaaGreat.E
end
section
set_option linter.unusedVariables false
set_option linter.unusedSimpArgs false
namespace Go.Proofs.YtechafkfchmggaaGreat.E
open Go Go.RowKit
set_option linter.unusedVariables false
set_option maxRecDepth 100000
namespace spec_DrawRotRead
def sin : Sig := ⟨[], [.one (.val (.sl (.int .u8)) false)]⟩
def sout : Sig := ⟨[], [.one (.val I false), .one (.val (.sl (.pair I (.pair I (.pair I .unit)))) false)]⟩
noncomputable def G {β : Type} (S : Sl) (a0 : (List Int)) (K : Int → (List (Int × (Int × (Int × Unit)))) → Option β) : Option β := spec_l6Open.G S a0 (fun y1 y2 => spec_l93Disks.G S y1 y2 (fun y3 y4 y5 y6 => K y5 y6))
noncomputable def o : Orac := ⟨41, sin, sout, fun s K => G sl0 s.2.1 (fun x0 x1 => K ((), (x0, (x1, ()))))⟩
noncomputable def C : Ctx := ⟨tyT, [spec_l6Open.o, spec_l93Disks.o], [], 9, 0⟩
theorem ctx : CtxOk Tryz.prog C := ⟨tyOk, all1 spec_l6Open.ok (all1 spec_l93Disks.ok (all0))⟩
theorem eG (β : Type) (s : sin.den) (K : sout.den → Option β) : evalFn C Tryz.f41 sin sout s K = o.F s K := by kernel_rfl
theorem ok : OracOk Tryz.prog o := fn_ok mixed Tryz.func41 (by kernel_rfl) ctx (c := bodyC Tryz.f41) (by kernel_rfl) (all0) (by kernel_rfl) (by kernel_rfl) (by kernel_rfl) (Nat.le_of_ble_eq_true (by kernel_rfl)) eG (by kernel_rfl) (Nat.le_of_ble_eq_true (by kernel_rfl))
end spec_DrawRotRead
end Go.Proofs.YtechafkfchmggaaGreat.E
end
section
set_option linter.unusedVariables false
set_option linter.unusedSimpArgs false
namespace Go.Proofs.YtechafkfchmggaaGreat.E
open Go Go.RowKit
set_option linter.unusedVariables false
set_option maxRecDepth 100000
namespace laws_FnRotRead
def sin : Sig := ⟨[], [.one (.val (.sl (.int .u8)) false)]⟩
def sout : Sig := ⟨[], [.one (.val .bool false)]⟩
def h10 : SS := ⟨[4, 7, 9, 10], ⟨[.box [.val I false, .ref (.own 2), .ref (.own 3), .ref (.own 4)], .buf I false, .buf I false, .buf I false, .buf .bool false], [.one (.val (.sl (.pair I (.pair I (.pair I .unit)))) false), .one (.ref (.ptr 0)), .one (.ref (.own 1)), .one (.val I false)]⟩⟩
def x10 : SS := ⟨[7], ⟨[.box [.val I false, .ref (.own 1), .ref (.own 2), .ref (.own 3)], .buf I false, .buf I false, .buf .bool false], [.one (.ref (.ptr 0))]⟩⟩
def y10 : SS := ⟨[2], ⟨[], [.one (.val .bool false)]⟩⟩
noncomputable def b10 {β : Type} (S : Sl) (L : Int → (List Int) → (List Int) → (List Int) → (List Bool) → (List (Int × (Int × (Int × Unit)))) → Int → Option β) (kx : Int → (List Int) → (List Int) → (List Bool) → Option β) (kr : Bool → Option β) (s0 : Int) (s1 : (List Int)) (s2 : (List Int)) (s3 : (List Int)) (s4 : (List Bool)) (s5 : (List (Int × (Int × (Int × Unit))))) (s6 : Int) : Option β := bif (S.lt s6 (s5.length : Int)) then (bif (S.ir s6 s5.length) then (bif (!((S.eq ((List.getD s5 (Int.toNat s6) (0, (0, (0, ())))).1) 0) && ((S.eq ((List.getD s5 (Int.toNat s6) (0, (0, (0, ())))).2.1) 0) && ((S.eq ((List.getD s5 (Int.toNat s6) (0, (0, (0, ())))).2.2.1) 0) && true)))) then (laws_lkIn.G S s1 s6 (fun y1 => bif (S.ir s6 s4.length) then (bif ((List.getD s4 (Int.toNat s6) false) != (!y1)) then (kr false) else (bif (!y1) then (bif (S.ir s6 s2.length) then (bif (S.ir s6 s5.length) then (bif (!S.eq (List.getD s2 (Int.toNat s6) 0) ((List.getD s5 (Int.toNat s6) (0, (0, (0, ())))).1)) then (kr false) else (bif (S.ir s6 s3.length) then (bif (S.ir s6 s5.length) then (bif (!S.eq (List.getD s3 (Int.toNat s6) 0) ((List.getD s5 (Int.toNat s6) (0, (0, (0, ())))).2.1)) then (kr false) else (L s0 s1 s2 s3 s4 s5 (S.w (s6 + 1)))) else (none)) else (none))) else (none)) else (none)) else (L s0 s1 s2 s3 s4 s5 (S.w (s6 + 1))))) else (none))) else (bif (S.ir s6 s4.length) then (bif ((List.getD s4 (Int.toNat s6) false) != false) then (kr false) else (L s0 s1 s2 s3 s4 s5 (S.w (s6 + 1)))) else (none))) else (none)) else (kx s0 s2 s3 s4)
noncomputable def r10 {β : Type} (S : Sl) (n : Nat) (kx : x10.sig.den → Option β) (kr : y10.sig.den → Option β) (s : h10.sig.den) : Option β := rounds (fun L kx kr s => b10 S (fun x0 x1 x2 x3 x4 x5 x6 => L (((x0, ()), (x1, (x2, (x3, (x4, ()))))), (x5, (x6, ())))) (fun x0 x1 x2 x3 => kx (((x0, ()), (x1, (x2, (x3, ())))), ())) (fun x0 => kr ((), (x0, ()))) s.1.1.1 s.1.2.1 s.1.2.2.1 s.1.2.2.2.1 s.1.2.2.2.2.1 s.2.1 s.2.2.1) kx kr n s
noncomputable def l10 {β : Type} (S : Sl) (n : Nat) (kx : Int → (List Int) → (List Int) → (List Bool) → Option β) (kr : Bool → Option β) (s0 : Int) (s1 : (List Int)) (s2 : (List Int)) (s3 : (List Int)) (s4 : (List Bool)) (s5 : (List (Int × (Int × (Int × Unit))))) (s6 : Int) : Option β := r10 S n (fun s => kx s.1.1.1 s.1.2.1 s.1.2.2.1 s.1.2.2.2.1) (fun s => kr s.2.1) (((s0, ()), (s1, (s2, (s3, (s4, ()))))), (s5, (s6, ())))
theorem t10 {β : Type} (S : Sl) (n : Nat) (kx : Int → (List Int) → (List Int) → (List Bool) → Option β) (kr : Bool → Option β) (s0 : Int) (s1 : (List Int)) (s2 : (List Int)) (s3 : (List Int)) (s4 : (List Bool)) (s5 : (List (Int × (Int × (Int × Unit))))) (s6 : Int) : l10 S (n + 1) kx kr s0 s1 s2 s3 s4 s5 s6 = b10 S (l10 S n kx kr) kx kr s0 s1 s2 s3 s4 s5 s6 := by kernel_rfl
noncomputable def G {β : Type} (S : Sl) (a0 : (List Int)) (K : Bool → Option β) : Option β := bif (S.lt 1048576 (a0.length : Int)) then (K true) else (spec_DrawRotRead.G S a0 (fun y1 y2 => spec_RotRead.G S y1 y2 (fun y3 y4 y5 y6 y7 => impl_RotRead.G S y1 y2 (fun y8 y9 y10 y11 y12 => bif (y12 != y7) then (bif (y12 == y7) then (laws_lkStripe.G S y11 y8 y9 y10 y6 y3 y4 y5 (fun y13 => K y13)) else (K false)) else (laws_lkStripe.G S y11 y8 y9 y10 y6 y3 y4 y5 (fun y14 => bif (!y14) then (bif (y12 == y7) then (laws_lkStripe.G S y11 y8 y9 y10 y6 y3 y4 y5 (fun y15 => K y15)) else (K false)) else (bif (!y12) then (bif (y12 == y7) then (laws_lkStripe.G S y11 y8 y9 y10 y6 y3 y4 y5 (fun y16 => K y16)) else (K false)) else (impl_RotFind.G S y2 (fun y17 => l10 S S.n (fun y18 y19 y20 y21 => impl_StripeOk.G S y18 y19 y20 y21 (fun y22 => K y22)) (fun y23 => K y23) y11 y17 y8 y9 y10 y2 0)))))))))
noncomputable def o : Orac := ⟨5, sin, sout, fun s K => G sl0 s.2.1 (fun x0 => K ((), (x0, ())))⟩
noncomputable def C : Ctx := ⟨tyT, [impl_RotFind.o, impl_RotRead.o, impl_StripeOk.o, laws_lkIn.o, laws_lkStripe.o, spec_DrawRotRead.o, spec_RotRead.o], [⟨10, 0, h10, x10, y10, fun s kx kr => r10 sl0 sl0.n kx kr s⟩], 111, 0⟩
theorem ctx : CtxOk Tryz.prog C := ⟨tyOk, all1 impl_RotFind.ok (all1 impl_RotRead.ok (all1 impl_StripeOk.ok (all1 laws_lkIn.ok (all1 laws_lkStripe.ok (all1 spec_DrawRotRead.ok (all1 spec_RotRead.ok (all0)))))))⟩
theorem e10 (β : Type) (L : h10.sig.den → Option β) (kx : x10.sig.den → Option β) (kr : y10.sig.den → Option β) (s : h10.sig.den) : evalBody C (nthC (loopsOf (bodyC Tryz.f5)) 0) 0 h10 x10 y10 L kx kr s = b10 sl0 (fun x0 x1 x2 x3 x4 x5 x6 => L (((x0, ()), (x1, (x2, (x3, (x4, ()))))), (x5, (x6, ())))) (fun x0 x1 x2 x3 => kx (((x0, ()), (x1, (x2, (x3, ())))), ())) (fun x0 => kr ((), (x0, ()))) s.1.1.1 s.1.2.1 s.1.2.2.1 s.1.2.2.2.1 s.1.2.2.2.2.1 s.2.1 s.2.2.1 := by kernel_rfl
theorem g10 : LS Tryz.prog C ⟨10, 0, h10, x10, y10, fun s kx kr => r10 sl0 sl0.n kx kr s⟩ (loopsOf (bodyC Tryz.f5)) := LS.at (i := 0) (by kernel_rfl) (loop_good mixed ctx (ctx_nat ctx) (N := sl0.n) (fun _ _ _ _ => rfl) e10 (all1 (LS.none (by kernel_rfl)) (all0)))
theorem eG (β : Type) (s : sin.den) (K : sout.den → Option β) : evalFn C Tryz.f5 sin sout s K = o.F s K := by kernel_rfl
theorem ok : OracOk Tryz.prog o := fn_ok mixed Tryz.func5 (by kernel_rfl) ctx (c := bodyC Tryz.f5) (by kernel_rfl) (all1 g10 (all0)) (by kernel_rfl) (by kernel_rfl) (by kernel_rfl) (Nat.le_of_ble_eq_true (by kernel_rfl)) eG (by kernel_rfl) (Nat.le_of_ble_eq_true (by kernel_rfl))
end laws_FnRotRead
end Go.Proofs.YtechafkfchmggaaGreat.E
end
section
set_option linter.unusedVariables false
set_option linter.unusedSimpArgs false
namespace Go.Proofs.YtechafkfchmggaaGreat.E
open Go Go.RowKit
set_option linter.unusedVariables false
set_option maxRecDepth 100000
theorem lkIn_l {β : Type} (l : List Int) (x : Int) (hl : l.length ≤ 1000000) (kx : Option β) (kr : Bool → Option β) (d : Nat) : ∀ (i n : Nat), i + d = l.length → d < n → laws_lkIn.l2 sl1 n kx kr l x (i : Int) = bif (l.drop i).any (· == x) then kr true else kx := by
  induction d with
  | zero =>
    intro i n hi hn
    obtain ⟨n, rfl⟩ : ∃ m, n = m + 1 := ⟨n - 1, by omega⟩
    rw [laws_lkIn.t2, List.drop_of_length_le (by omega)]; exact cF (ltF (by omega)) rfl
  | succ d ih =>
    intro i n hi hn
    obtain ⟨n, rfl⟩ : ∃ m, n = m + 1 := ⟨n - 1, by omega⟩
    have h1 : i < l.length := by omega
    rw [laws_lkIn.t2]
    unfold laws_lkIn.b2
    refine cT (ltT (by omega)) (cT (irT (by omega) (by omega)) ?_)
    rw [getN l i h1, w_succ (by omega), List.drop_eq_getElem_cons h1, List.any_cons]
    by_cases h : l[i] = x
    · rw [show (l[i] == x) = true from beq_iff_eq.2 h]
      exact cT (eqT h) rfl
    · rw [show (l[i] == x) = false from beq_eq_false_iff_ne.2 h, Bool.false_or]
      exact cF (eqF h) (ih (i + 1) n (by omega) (by omega))
theorem lkIn_G {β : Type} (l : List Int) (x : Int) (hl : l.length ≤ 1000000) (K : Bool → Option β) : laws_lkIn.G sl1 l x K = K (l.any (· == x)) := by
  refine (lkIn_l l x hl (K false) (fun y1 => K y1) l.length 0 sl1.n (by omega) (by rw [rounds_n]; omega)).trans ?_
  rw [List.drop_zero]
  cases l.any (· == x) <;> rfl
end Go.Proofs.YtechafkfchmggaaGreat.E
end
section
set_option linter.unusedVariables false
set_option linter.unusedSimpArgs false
namespace Go.Proofs.YtechafkfchmggaaGreat.E
open Go Go.RowKit
set_option linter.unusedVariables false
set_option maxRecDepth 100000
theorem rotw_l {β : Type} (kind : Int) {vals vers : List Int} {there : List Bool} (h1 : vals.length = 8) (h2 : vers.length = 8) (h3 : there.length = 8) (d : Nat) : ∀ (i n : Nat) (acc : List Dk'), i + d = 8 → acc.length = i → d < n →
    ∃ r : List Dk', r.length = 8 ∧ ∀ (β : Type) (kx : List Dk' → Option β) (kr : Option β), spec_RotWrite.l5 sl1 n kx kr kind vals vers there acc (i : Int) = kx r := by
  induction d with
  | zero =>
    intro i n acc hi ha hn
    obtain ⟨n, rfl⟩ : ∃ m, n = m + 1 := ⟨n - 1, by omega⟩
    exact ⟨acc, by omega, fun β kx kr => by rw [spec_RotWrite.t5]; exact cF (ltF (by omega)) rfl⟩
  | succ d ih =>
    intro i n acc hi ha hn
    obtain ⟨n, rfl⟩ : ∃ m, n = m + 1 := ⟨n - 1, by omega⟩
    cases ct : there.getD i false
    · obtain ⟨r, k1, k2⟩ := ih (i + 1) n (acc ++ [(0, (0, (0, ())))]) (by omega) (by simp; omega) (by omega)
      refine ⟨r, k1, fun β kx kr => ?_⟩
      rw [spec_RotWrite.t5]
      unfold spec_RotWrite.b5
      refine cT (ltT (by omega)) (cT (irT (by omega) (by omega)) ?_)
      rw [getC false, ct, w_succ (by omega)]
      exact cF rfl (cT (fwT (by simp; omega)) (k2 β kx kr))
    · obtain ⟨r, k1, k2⟩ := ih (i + 1) n (acc ++ [(vals.getD i 0, (vers.getD i 0, (rotRaw (vals.getD i 0) (vers.getD i 0) (i : Int), ())))]) (by omega) (by simp; omega) (by omega)
      refine ⟨r, k1, fun β kx kr => ?_⟩
      rw [spec_RotWrite.t5]
      unfold spec_RotWrite.b5
      refine cT (ltT (by omega)) (cT (irT (by omega) (by omega)) ?_)
      simp only [getC]
      rw [ct, w_succ (by omega)]
      refine cT rfl (cT (irT (by omega) (by omega)) (cT (irT (by omega) (by omega)) (cT (irT (by omega) (by omega)) (cT (irT (by omega) (by omega)) ?_))))
      exact cT (fwT (by simp; omega)) (k2 β kx kr)
theorem rotw_G {kind : Int} {vals vers : List Int} {there : List Bool} (hs : Sd kind vals vers there) : ∃ r : List Dk', r.length ≤ 8 ∧ ∀ (β : Type) (K : List Dk' → Option β), spec_RotWrite.G sl1 kind vals vers there K = K r := by
  cases ho : stripeV kind vals vers there
  · exact ⟨[], by simp, fun β K => (stripeOk_G _ _ _ _ (by have := hs.l1; omega) _).trans (cT (by rw [ho]; rfl) rfl)⟩
  · obtain ⟨r, k1, k2⟩ := rotw_l (β := Unit) kind hs.l1 hs.l2 hs.l3 8 0 sl1.n [] (by omega) rfl (by rw [rounds_n]; omega)
    exact ⟨r, by omega, fun β K => (stripeOk_G _ _ _ _ (by have := hs.l1; omega) _).trans (cF (by rw [ho]; rfl) (k2 β _ _))⟩
theorem disks_l {b : List Int} (hb : Src b) (kind : Int) (vals vers : List Int) (there : List Bool) (m : Nat) : ∀ (n : Nat) (p : Int) (l : List Dk'), m < n → m ≤ 100 → 0 ≤ p → p + 6 * m ≤ 1000 → l.length ≤ 8 →
    ∃ q l', p ≤ q ∧ q ≤ p + 6 * m ∧ l'.length ≤ 8 ∧ ∃ v' w' t', ∀ (β : Type) (kx : List Int → Int → Int → List Dk' → List Int → List Int → List Bool → Option β) (kr : Option β),
      spec_l93Disks.l4 sl1 n kx kr b p kind l vals vers there (m : Int) = kx b q kind l' v' w' t' := by
  induction m with
  | zero =>
    intro n p l hn hm hp hp2 hl
    obtain ⟨n, rfl⟩ : ∃ m, n = m + 1 := ⟨n - 1, by omega⟩
    exact ⟨p, l, by omega, by omega, hl, vals, vers, there, fun β kx kr => by rw [spec_l93Disks.t4]; exact cF (ltF (by omega)) rfl⟩
  | succ m ih =>
    intro n p l hn hm hp hp2 hl
    obtain ⟨n, rfl⟩ : ∃ m, n = m + 1 := ⟨n - 1, by omega⟩
    have wm : sl1.w (((m + 1 : Nat) : Int) - 1) = (m : Int) := by rw [wE (by omega) (by omega)]; omega
    by_cases hl0 : l.length = 0
    · exact ⟨p, l, by omega, by omega, hl, vals, vers, there, fun β kx kr => by rw [spec_l93Disks.t4]; exact cT (ltT (by omega)) (cF (ltF (by omega)) rfl)⟩
    obtain ⟨i, i0, i1, ei⟩ := pick_S hb (p := p) (l.length : Int)
    obtain ⟨c, c0, c1, ec⟩ := pick_S hb (p := p + 1) 3
    have start : ∀ (β : Type) (kx : List Int → Int → Int → List Dk' → List Int → List Int → List Bool → Option β) (kr r : Option β), (_ : Option β) = r → spec_l93Disks.l4 sl1 (n + 1) kx kr b p kind l vals vers there ((m + 1 : Nat) : Int) = r := fun β kx kr r h => by
      rw [spec_l93Disks.t4]
      unfold spec_l93Disks.b4
      exact cT (ltT (by omega)) (cT (ltT (by omega)) ((ei _ _).trans ((ec _ _).trans h)))
    by_cases h0 : c = 0
    · obtain ⟨v, q, q0, q1, v0, v1, ev⟩ := num_G hb (p := p + 1 + 1) (by omega) (by omega)
      obtain ⟨q', l', k1, k2, k3, v', w', t', k4⟩ := ih n q (l.set (Int.toNat i) (v, (List.getD l (Int.toNat i) (0, (0, (0, ())))).2)) (by omega) (by omega) (by omega) (by omega) (by rw [List.length_set]; exact hl)
      refine ⟨q', l', by omega, by omega, k3, v', w', t', fun β kx kr => start β kx kr _ (cT (eqT h0) ((ev _ _).trans (cT (irT i0 i1) ?_)))⟩
      rw [wm]
      exact k4 β kx kr
    by_cases h1 : c = 1
    · obtain ⟨v, v0, v1, ev⟩ := pick_S hb (p := p + 1 + 1) 91
      obtain ⟨q', l', k1, k2, k3, v', w', t', k4⟩ := ih n (p + 1 + 1 + 1) (l.set (Int.toNat i) ((List.getD l (Int.toNat i) (0, (0, (0, ())))).1, ((List.getD l (Int.toNat i) (0, (0, (0, ())))).2.1, (v, (List.getD l (Int.toNat i) (0, (0, (0, ())))).2.2.2)))) (by omega) (by omega) (by omega) (by omega) (by rw [List.length_set]; exact hl)
      refine ⟨q', l', by omega, by omega, k3, v', w', t', fun β kx kr => start β kx kr _ (cF (eqF h0) (cT (eqT h1) ((ev _ _).trans (cT (irT i0 i1) ?_))))⟩
      rw [wm]
      exact k4 β kx kr
    · obtain ⟨q', l', k1, k2, k3, v', w', t', k4⟩ := ih n (p + 1 + 1) (l.set (Int.toNat i) (0, (0, (0, ())))) (by omega) (by omega) (by omega) (by omega) (by rw [List.length_set]; exact hl)
      refine ⟨q', l', by omega, by omega, k3, v', w', t', fun β kx kr => start β kx kr _ (cF (eqF h0) (cF (eqF h1) (cT (irT i0 i1) ?_)))⟩
      rw [wm]
      exact k4 β kx kr
theorem disks_G {b : List Int} (hb : Src b) : ∃ q kind l, l.length ≤ 8 ∧ ∀ (β : Type) (K : List Int → Int → Int → List Dk' → Option β), spec_l93Disks.G sl1 b 0 K = K b q kind l := by
  obtain ⟨q, kind, vals, vers, there, q0, q1, hs, es⟩ := stripe_S hb (p := 0) (by omega) (by omega)
  obtain ⟨l, hl, el⟩ := rotw_G hs
  obtain ⟨m, m0, m1, em⟩ := pick_S hb (p := q) 3
  obtain ⟨m, rfl⟩ := Int.eq_ofNat_of_zero_le m0
  obtain ⟨q', l', k1, k2, k3, v', w', t', k4⟩ := disks_l hb kind vals vers there m sl1.n (q + 1) l (by rw [rounds_n]; omega) (by omega) (by omega) (by omega) hl
  obtain ⟨c, c0, c1, ec⟩ := pick_S hb (p := q') 40
  have start : ∀ (β : Type) (K : List Int → Int → Int → List Dk' → Option β) (r : Option β), (_ : Option β) = r → spec_l93Disks.G sl1 b 0 K = r := fun β K r h => by
    unfold spec_l93Disks.G
    exact (es _ _).trans ((el _ _).trans ((em _ _).trans ((k4 _ _ _).trans ((ec _ _).trans h))))
  by_cases h0 : c = 0
  · by_cases h1 : l'.length = 0
    · exact ⟨q' + 1, kind, l', k3, fun β K => start β K _ (cT (eqT h0) (cF (ltF (by omega)) rfl))⟩
    · exact ⟨q' + 1, kind, cutL l' 1 l'.length, by simp [cutL]; omega, fun β K => start β K _ (cT (eqT h0) (cT (ltT (by omega)) (cT (andT (andT (andT rfl (leT (by omega))) (leT (by omega))) (leT (by omega))) rfl)))⟩
  · exact ⟨q' + 1, kind, l', k3, fun β K => start β K _ (cF (eqF h0) rfl)⟩
end Go.Proofs.YtechafkfchmggaaGreat.E
end
section
set_option linter.unusedVariables false
set_option linter.unusedSimpArgs false
namespace Go.Proofs.YtechafkfchmggaaGreat.E
open Go Go.RowKit
set_option linter.unusedVariables false
set_option maxRecDepth 100000
theorem good_bad {l : List Dk'} {i : Nat} (h : zeroD (l.getD i noDk) = false) : badV l i = !rdC l i := by
  unfold badV rdC
  rw [show zeroD (l.getD i (0, (0, (0, ())))) = false from h]; rfl
theorem zero_good {l : List Dk'} {i : Nat} (h : zeroD (l.getD i noDk) = true) : rdC l i = false := by
  unfold rdC goodV
  unfold zeroD at h
  simp only [Bool.and_eq_true] at h
  obtain ⟨_, _, h, _⟩ := h
  have h : (l.getD i noDk).2.2.1 = 0 := beq_iff_eq.1 h
  rw [h]; rfl
theorem rowN_at {α : Type} (f : Nat → α) (d : α) {i : Nat} (hi : i < 8) : (rowN f 8).getD i d = f i := by
  unfold rowN
  rw [List.getD_eq_getElem?_getD, List.getElem?_map, List.getElem?_range hi]; rfl
theorem rotRead_l {β : Type} (kind : Int) (l : List Dk') (hl : l.length = 8) (kx : Int → List Int → List Int → List Bool → Option β) (kr : Bool → Option β) (d : Nat) : ∀ (i n : Nat), i + d = 8 → d < n →
    laws_FnRotRead.l10 sl1 n kx kr kind (findW l 8) (rowN (rdA l) 8) (rowN (rdB l) 8) (rowN (rdC l) 8) l (i : Int) = kx kind (rowN (rdA l) 8) (rowN (rdB l) 8) (rowN (rdC l) 8) := by
  induction d with
  | zero =>
    intro i n hi hn
    obtain ⟨n, rfl⟩ : ∃ m, n = m + 1 := ⟨n - 1, by omega⟩
    rw [laws_FnRotRead.t10]; exact cF (ltF (by omega)) rfl
  | succ d ih =>
    intro i n hi hn
    obtain ⟨n, rfl⟩ : ∃ m, n = m + 1 := ⟨n - 1, by omega⟩
    have next := ih (i + 1) n (by omega) (by omega)
    have a1 := rowN_len (rdA l) 8
    have a2 := rowN_len (rdB l) 8
    have a3 := rowN_len (rdC l) 8
    have hw := findW_len l 8
    rw [laws_FnRotRead.t10]
    unfold laws_FnRotRead.b10
    rw [w_succ (by omega)]
    simp only [getC]
    rw [rowN_at _ _ (by omega), rowN_at _ _ (by omega), rowN_at _ _ (by omega)]
    refine cT (ltT (by omega)) (cT (irT (by omega) (by omega)) ?_)
    change (bif !zeroD (l.getD i noDk) then _ else _) = _
    cases hz : zeroD (l.getD i noDk)
    · refine cT rfl ((lkIn_G _ _ (by omega) _).trans (cT (irT (by omega) (by omega)) ?_))
      rw [any_find l (by omega), good_bad hz, Bool.not_not]
      refine cF (bne_self_eq_false _) ?_
      cases hc : rdC l i
      · exact cF rfl next
      · have eA : rdA l i = (l.getD i noDk).1 := by unfold rdA; rw [show goodV (l.getD i noDk) (i : Int) = true from hc]; rfl
        have eB : rdB l i = (l.getD i noDk).2.1 := by unfold rdB; rw [show goodV (l.getD i noDk) (i : Int) = true from hc]; rfl
        exact cT rfl (cT (irT (by omega) (by omega)) (cT (irT (by omega) (by omega)) (cF (neF eA) (cT (irT (by omega) (by omega)) (cT (irT (by omega) (by omega)) (cF (neF eB) next))))))
    · refine cF rfl (cT (irT (by omega) (by omega)) ?_)
      rw [zero_good hz]
      exact cF rfl next
end Go.Proofs.YtechafkfchmggaaGreat.E
namespace Go.Proofs.YtechafkfchmggaaGreat.Pure.FnRotRead
open Go Go.Proofs.YtechafkfchmggaaGreat.E
theorem pure {β : Type} (l : List Int) (hl : ∀ x ∈ l, 0 ≤ x ∧ x ≤ 255) (K : Bool → Option β) : laws_FnRotRead.G sl1 l K = K true := by
  obtain ⟨b, hb, ho⟩ := open_G hl
  obtain ⟨q, kind, ds, h8, hd⟩ := disks_G hb
  obtain ⟨m1, m2, m3⟩ := rdV_len kind ds
  unfold laws_FnRotRead.G
  by_cases h : 1048576 < (l.length : Int)
  · exact cT (ltT h) rfl
  refine cF (ltF (by omega)) ?_
  unfold spec_DrawRotRead.G
  refine (ho _ _).trans ((hd _ _).trans ((specRd_G kind (by omega) _).trans ((implRd_G kind (by omega) _).trans (cF (bne_self_eq_false _) ?_))))
  have hlen : (rdV kind ds).1.length ≤ 1000000 ∧ (rdV kind ds).2.1.length ≤ 1000000 ∧ (rdV kind ds).2.2.1.length ≤ 1000000 := by
    unfold rdV
    cases inV kind 1 2 && (decide (ds.length = 8) && stripeV kind (rowN (rdA ds) 8) (rowN (rdB ds) 8) (rowN (rdC ds) 8))
    · simp
    · refine ⟨?_, ?_, ?_⟩
      · show (rowN (rdA ds) 8).length ≤ _; rw [rowN_len]; omega
      · show (rowN (rdB ds) 8).length ≤ _; rw [rowN_len]; omega
      · show (rowN (rdC ds) 8).length ≤ _; rw [rowN_len]; omega
  have same := fun {γ : Type} (K : Bool → Option γ) => lkStripe_same (rdV kind ds).2.2.2.1 hlen.1 hlen.2.1 hlen.2.2 K
  refine (same _).trans (cF rfl ?_)
  cases ok : (rdV kind ds).2.2.2.2
  · exact cT rfl (cT rfl (same _))
  · have hc : (inV kind 1 2 && (decide (ds.length = 8) && stripeV kind (rowN (rdA ds) 8) (rowN (rdB ds) 8) (rowN (rdC ds) 8))) = true := by
      cases c : (inV kind 1 2 && (decide (ds.length = 8) && stripeV kind (rowN (rdA ds) 8) (rowN (rdB ds) 8) (rowN (rdC ds) 8)))
      · unfold rdV at ok; rw [c] at ok; cases ok
      · rfl
    have e : rdV kind ds = (rowN (rdA ds) 8, rowN (rdB ds) 8, rowN (rdC ds) 8, kind, true) := by unfold rdV; rw [hc]; rfl
    simp only [Bool.and_eq_true, decide_eq_true_eq] at hc
    obtain ⟨_, hl8, hs⟩ := hc
    have ef : findV ds = findW ds 8 := by unfold findV; rw [decide_eq_true hl8]; rfl
    refine cF rfl ((find_impl _ _).trans ?_)
    rw [e, ef]
    refine (rotRead_l kind ds hl8 _ _ 8 0 sl1.n (by omega) (by rw [rounds_n]; omega)).trans ((stripeI_G _ _ _ _ _).trans ?_)
    rw [hs]
end Go.Proofs.YtechafkfchmggaaGreat.Pure.FnRotRead
end
section
set_option linter.unusedVariables false
set_option linter.unusedSimpArgs false
namespace Go.Proofs.YtechafkfchmggaaGreat.fnRotRead
open Go.ChangeShapes Go.WideShapes Go.ChangeAt Go.RowKit
open Go.ChangeMaps (open_string shut_string)
set_option linter.unusedVariables false
theorem own : ownKnob Tryz.prog.godebug = none := by kernel_rfl
theorem laidOut : laidOutB Tryz.prog = true := by kernel_rfl
set_option maxRecDepth 100000 in
theorem lifted (os : Os) (started : os.Started) (H : Type) (enc : TypeId × Value → H) :
    ReturnsInHanded {} Tryz.checked os 5 .any (Rows.fnRotReadSpec.pre6 enc Tryz.prog Tryz.f5 Rows.fnRotReadRow.domain false) (Rows.fnRotReadSpec.post enc Tryz.prog Tryz.f5 false true false false) := by
  refine returnsInHanded_of_change_sized (C := Tryz.checked) own started (by kernel_rfl) Tryz.func5
    (ChangeSpec.witness6 (enc := enc) (C := Tryz.checked) false ⟨#[], #[.slice none 0 0], []⟩ 8 (by kernel_rfl) (by kernel_rfl) (by kernel_rfl) (by kernel_rfl)) ?_
  intro W base args ds gs before hval0 hW hcnd hsz0 _
  have hval : ∀ (j : Nat) t v, Tryz.f5.params[j]? = some t → args[j]? = some v → Value.okWide Tryz.prog W .any base t v := hval0
  have hW' := hW
  obtain ⟨p, q, hA0, hV, rfl, hfz, hnd⟩ := hW
  have hA : DataW.TrodAll enc Tryz.prog W 0 (fun _ => true) true Tryz.f5.params.toList args.toList ds p := hA0
  rw [Tryz.params5] at hA hval
  obtain ⟨v0, vs0, d0, ds0, p0, q0, hargs, rfl, rfl, h0, r0⟩ := trodAll_cons hA
  obtain ⟨rfl, rfl, rfl⟩ := trodAll_nil r0
  obtain rfl : args = #[v0] := by cases args; simp_all
  obtain ⟨rfl, rfl⟩ := trodVars_none hV
  obtain ⟨a0, len0, cap0, rfl⟩ := okWide_slice Tryz.underlying40 (hval 0 40 v0 rfl rfl)
  have k0 := h0
  have lt0 : ∀ x ∈ p0, x.block < W.heap.size := by obtain ⟨m, hm⟩ := k0; exact DataW.trod_lt m _ _ _ hm
  obtain ⟨z0, w0, b0⟩ : ∃ zs, E.IsRowK .u8 W a0 len0 cap0 zs ∧ (∀ x ∈ zs, (Lit.int .u8 x).wf = true) := by
    obtain ⟨fuel, hf⟩ := h0
    rcases open_ints Tryz.underlying40 Tryz.underlying5 (by kernel_rfl) hf with ⟨hcs, _⟩ | ⟨x, l, c, zs, hcs, _, hl, hm, hz, _, hcell, hwz⟩
    · simp [Value.cells] at hcs
      obtain ⟨rfl, rfl, rfl⟩ := hcs
      exact ⟨[], .inl ⟨rfl, rfl, rfl, rfl⟩, by simp⟩
    · simp [Value.cells] at hcs
      obtain ⟨rfl, rfl, rfl⟩ := hcs
      exact ⟨zs, .inr ⟨_, rfl, hl, by simpa using hz, hcell⟩, hwz⟩
  clear hA0 hval0 hsz0
  have hp := Pure.FnRotRead.pure (z0.take len0) (fun x hx => E.byte_wf (b0 x (List.mem_of_mem_take hx))) (fun b => some ((), (b, ())))
  rw [← E.sl_eq] at hp
  refine (E.law_bytes E.laws_FnRotRead.ok w0 hp).mono fun e W' ⟨he, bel⟩ => ?_
  subst he
  exact ⟨_, rfl, _, _, _, [], _, [], hW', trodAll_mk1 (shut_bool Tryz.underlying4 _), (trodAll_cons_mk (Below.trod laidOut (by kernel_rfl) (of_decide_eq_true (by kernel_rfl)) k0 bel lt0) trodAll_mk0), rfl, bel.frame _, fun h => by cases h⟩
theorem closed : joinedFacts Tryz.prog 5 Tryz.f5 Rows.fnRotReadSpec Rows.fnRotReadRow = true := by
  unfold joinedFacts
  rw [Head.make, Head.final, Head.enter]
  kernel_rfl
theorem over : Rows.fnRotReadRow.holds Tryz.pinned (OpenSpec.ofChange Rows.fnRotReadSpec) :=
  OpenClaim.holds_of_wide 5 Tryz.f5 rfl rfl rfl rfl rfl rfl rfl ⟨rfl, rfl, rfl, rfl, rfl⟩ rfl rfl rfl rfl rfl (by kernel_rfl) Tryz.func5 closed
    (of_decide_eq_true (by kernel_rfl)) (by unfold Func.isWrapper; first | (rw [if_pos (by decide +kernel)]; kernel_rfl) | (rw [if_neg (by decide +kernel)]; exact ⟨rfl, rfl⟩))
    (fun os started H enc _ => lifted os started H enc)
theorem proved : Rows.FnRotReadSaid := over
#print axioms proved
end Go.Proofs.YtechafkfchmggaaGreat.fnRotRead
end
