/- Part 1 of the proof of the statement FnLoseFew; the last part states it. No condition. -/
import Derived.Test.YtnbighmbgmjbkaaGreatRows
import Derived.WalkKit
import Derived.ProofKit
import Derived.OpenShut
import Derived.ShutString
import Derived.ChangeOld
import Derived.Below
import Derived.SizedLaws
import Derived.Test.YtnbighmbgmjbkaaGreatMGN2
import Derived.Test.YtnbighmbgmjbkaaGreatMGN3
import Derived.Test.YtnbighmbgmjbkaaGreatMGN4
import Derived.Test.YtnbighmbgmjbkaaGreatMGN5
import Derived.Test.YtnbighmbgmjbkaaGreatMGN21
section
set_option linter.unusedVariables false
set_option linter.unusedSimpArgs false
namespace Go.Proofs.YtnbighmbgmjbkaaGreat.E
open Go Go.RowKit
set_option linter.unusedVariables false
set_option maxRecDepth 100000
namespace impl_CodeMost_1
def sin : Sig := ⟨[.buf I false, .box [.val I false]], [.one (.ref (.own 0)), .one (.ref (.ptr 1))]⟩
def sout : Sig := ⟨[.buf I false, .box [.val I false]], [.one (.val .bool false)]⟩
noncomputable def G {β : Type} (S : Sl) (a0 : (List Int)) (a1 : Int) (K : (List Int) → Int → Bool → Option β) : Option β := impl_bears.G S a1 a0 (fun y1 => K a0 a1 (!y1))
noncomputable def o : Orac := ⟨140, sin, sout, fun s K => G sl0 s.1.1 s.1.2.1.1 (fun x0 x1 x2 => K ((x0, ((x1, ()), ())), (x2, ())))⟩
noncomputable def C : Ctx := ⟨tyT, [impl_bears.o], [], 8, 2⟩
theorem ctx : CtxOk Tryz.prog C := ⟨tyOk, all1 impl_bears.ok (all0)⟩
theorem eG (β : Type) (s : sin.den) (K : sout.den → Option β) : evalFn C Tryz.f140 sin sout s K = o.F s K := by kernel_rfl
theorem ok : OracOk Tryz.prog o := fn_ok mixed Tryz.func140 (by kernel_rfl) ctx (c := bodyC Tryz.f140) (by kernel_rfl) (all0) (by kernel_rfl) (by kernel_rfl) (by kernel_rfl) (Nat.le_of_ble_eq_true (by kernel_rfl)) eG (by kernel_rfl) (Nat.le_of_ble_eq_true (by kernel_rfl))
end impl_CodeMost_1
end Go.Proofs.YtnbighmbgmjbkaaGreat.E
end
section
set_option linter.unusedVariables false
set_option linter.unusedSimpArgs false
namespace Go.Proofs.YtnbighmbgmjbkaaGreat.E
open Go Go.RowKit
set_option linter.unusedVariables false
set_option maxRecDepth 100000
namespace impl_chosen_1
def sin : Sig := ⟨[.box [.ref (.own 5)], .box [.val I false], .box [.ref (.fn 140 [6])], .box [.ref (.own 7)], .box [.ref (.fn 196 [0, 1, 2, 3, 4])], .buf I false, .box [.val I false], .buf I false], [.one (.val I false), .one (.ref (.ptr 0)), .one (.ref (.ptr 1)), .one (.ref (.ptr 2)), .one (.ref (.ptr 3)), .one (.ref (.ptr 4))]⟩
def sout : Sig := ⟨[.box [.ref (.own 8)], .box [.val I false], .box [.ref (.fn 140 [6])], .box [.ref (.own 7)], .box [.ref (.fn 196 [0, 1, 2, 3, 4])], .dead, .box [.val I false], .buf I false, .buf I false], [.one (.val .bool false)]⟩
def h4 : SS := ⟨[1, 4, 5, 8], ⟨[.box [.ref (.own 8)], .box [.val I false], .box [.ref (.fn 140 [6])], .box [.ref (.own 7)], .box [.ref (.fn 196 [0, 1, 2, 3, 4])], .dead, .box [.val I false], .buf I false, .buf I false], [.one (.ref (.ptr 0)), .one (.ref (.ptr 3)), .one (.ref (.ptr 4)), .one (.val I false)]⟩⟩
def x4 : SS := ⟨[], ⟨[.box [.ref (.own 8)], .box [.val I false], .box [.ref (.fn 140 [6])], .box [.ref (.own 7)], .box [.ref (.fn 196 [0, 1, 2, 3, 4])], .dead, .box [.val I false], .buf I false, .buf I false], []⟩⟩
def y4 : SS := ⟨[7], ⟨[.box [.ref (.own 8)], .box [.val I false], .box [.ref (.fn 140 [6])], .box [.ref (.own 7)], .box [.ref (.fn 196 [0, 1, 2, 3, 4])], .dead, .box [.val I false], .buf I false, .buf I false], [.one (.val .bool false)]⟩⟩
noncomputable def b4 {β : Type} (S : Sl) (R : Int → (List Int) → Int → (List Int) → Int → (Int → Int → (List Int) → (List Int) → Bool → Option β) → Option β) (L : Int → Int → (List Int) → (List Int) → Int → Option β) (kx : Int → Int → (List Int) → (List Int) → Option β) (kr : Int → Int → (List Int) → (List Int) → Bool → Option β) (s0 : Int) (s1 : Int) (s2 : (List Int)) (s3 : (List Int)) (s4 : Int) : Option β := bif (S.lt s4 (s2.length : Int)) then (bif (S.ir s4 s2.length) then (bif (S.fw (s3 ++ [(List.getD s2 (Int.toNat s4) 0)]).length) then (R s0 (s3 ++ [(List.getD s2 (Int.toNat s4) 0)]) s1 s2 (S.w (s4 + 1)) (fun y1 y2 y3 y4 y5 => bif y5 then (kr y1 y2 y3 y4 true) else (bif ((S.le 0 (S.w ((y4.length : Int) - 1))) && (S.le (S.w ((y4.length : Int) - 1)) (y4.length : Int)) && (S.le (y4.length : Int) (y4.length : Int))) then (L y1 y2 y3 (List.take (Int.toNat (S.w ((y4.length : Int) - 1))) y4) (S.w (s4 + 1))) else (none)))) else (none)) else (none)) else (kx s0 s1 s2 s3)
noncomputable def r4 {β : Type} (S : Sl) (R : Int → (List Int) → Int → (List Int) → Int → (Int → Int → (List Int) → (List Int) → Bool → Option β) → Option β) (n : Nat) (kx : x4.sig.den → Option β) (kr : y4.sig.den → Option β) (s : h4.sig.den) : Option β := rounds (fun L kx kr s => b4 S R (fun x0 x1 x2 x3 x4 => L (((), ((x0, ()), ((), ((), ((), ((x1, ()), (x2, (x3, ())))))))), (x4, ()))) (fun x0 x1 x2 x3 => kx (((), ((x0, ()), ((), ((), ((), ((x1, ()), (x2, (x3, ())))))))), ())) (fun x0 x1 x2 x3 x4 => kr (((), ((x0, ()), ((), ((), ((), ((x1, ()), (x2, (x3, ())))))))), (x4, ()))) s.1.2.1.1 s.1.2.2.2.2.2.1.1 s.1.2.2.2.2.2.2.1 s.1.2.2.2.2.2.2.2.1 s.2.1) kx kr n s
noncomputable def l4 {β : Type} (S : Sl) (R : Int → (List Int) → Int → (List Int) → Int → (Int → Int → (List Int) → (List Int) → Bool → Option β) → Option β) (n : Nat) (kx : Int → Int → (List Int) → (List Int) → Option β) (kr : Int → Int → (List Int) → (List Int) → Bool → Option β) (s0 : Int) (s1 : Int) (s2 : (List Int)) (s3 : (List Int)) (s4 : Int) : Option β := r4 S R n (fun s => kx s.1.2.1.1 s.1.2.2.2.2.2.1.1 s.1.2.2.2.2.2.2.1 s.1.2.2.2.2.2.2.2.1) (fun s => kr s.1.2.1.1 s.1.2.2.2.2.2.1.1 s.1.2.2.2.2.2.2.1 s.1.2.2.2.2.2.2.2.1 s.2.1) (((), ((s0, ()), ((), ((), ((), ((s1, ()), (s2, (s3, ())))))))), (s4, ()))
theorem t4 {β : Type} (S : Sl) (R : Int → (List Int) → Int → (List Int) → Int → (Int → Int → (List Int) → (List Int) → Bool → Option β) → Option β) (n : Nat) (kx : Int → Int → (List Int) → (List Int) → Option β) (kr : Int → Int → (List Int) → (List Int) → Bool → Option β) (s0 : Int) (s1 : Int) (s2 : (List Int)) (s3 : (List Int)) (s4 : Int) : l4 S R (n + 1) kx kr s0 s1 s2 s3 s4 = b4 S R (l4 S R n kx kr) kx kr s0 s1 s2 s3 s4 := by kernel_rfl
noncomputable def B {β : Type} (S : Sl) (R : Int → (List Int) → Int → (List Int) → Int → (Int → Int → (List Int) → (List Int) → Bool → Option β) → Option β) (a0 : Int) (a1 : (List Int)) (a2 : Int) (a3 : (List Int)) (a4 : Int) (K : Int → Int → (List Int) → (List Int) → Bool → Option β) : Option β := bif (S.eq (a1.length : Int) a0) then (impl_CodeMost_1.G S a1 a2 (fun y1 y2 y3 => K a0 y2 a3 y1 y3)) else (l4 S R S.n (fun y4 y5 y6 y7 => K y4 y5 y6 y7 false) (fun y8 y9 y10 y11 y12 => K y8 y9 y10 y11 y12) a0 a2 a3 a1 a4)
noncomputable def Gn {β : Type} (S : Sl) (n : Nat) : Int → (List Int) → Int → (List Int) → Int → (Int → Int → (List Int) → (List Int) → Bool → Option β) → Option β := Nat.rec (motive := fun _ => Int → (List Int) → Int → (List Int) → Int → (Int → Int → (List Int) → (List Int) → Bool → Option β) → Option β) (fun _ _ _ _ _ _ => none) (fun _ R => B S R) n
noncomputable def G {β : Type} (S : Sl) (a0 : Int) (a1 : (List Int)) (a2 : Int) (a3 : (List Int)) (a4 : Int) (K : Int → Int → (List Int) → (List Int) → Bool → Option β) : Option β := Gn S S.n a0 a1 a2 a3 a4 K
theorem tG {β : Type} (S : Sl) (n : Nat) (a0 : Int) (a1 : (List Int)) (a2 : Int) (a3 : (List Int)) (a4 : Int) (K : Int → Int → (List Int) → (List Int) → Bool → Option β) : Gn S (n + 1) a0 a1 a2 a3 a4 K = B S (Gn S n) a0 a1 a2 a3 a4 K := by kernel_rfl
noncomputable def o : Orac := ⟨196, sin, sout, fun s K => G sl0 s.1.2.1.1 s.1.2.2.2.2.2.1 s.1.2.2.2.2.2.2.1.1 s.1.2.2.2.2.2.2.2.1 s.2.1 (fun x0 x1 x2 x3 x4 => K (((), ((x0, ()), ((), ((), ((), ((x1, ()), (x2, (x3, ())))))))), (x4, ())))⟩
noncomputable def oN (n : Nat) : Orac := ⟨196, sin, sout, fun s K => Gn sl0 n s.1.2.1.1 s.1.2.2.2.2.2.1 s.1.2.2.2.2.2.2.1.1 s.1.2.2.2.2.2.2.2.1 s.2.1 (fun x0 x1 x2 x3 x4 => K (((), ((x0, ()), ((), ((), ((), ((x1, ()), (x2, (x3, ())))))))), (x4, ())))⟩
noncomputable def C (n : Nat) : Ctx := ⟨tyT, [oN n, impl_CodeMost_1.o], [⟨4, 0, h4, x4, y4, fun s kx kr => r4 sl0 (Gn sl0 n) sl0.n kx kr s⟩], 39, 8⟩
theorem ctx (n : Nat) (hn : OracOk Tryz.prog (oN n)) : CtxOk Tryz.prog (C n) := ⟨tyOk, all1 hn (all1 impl_CodeMost_1.ok (all0))⟩
theorem e4 (n : Nat) (β : Type) (L : h4.sig.den → Option β) (kx : x4.sig.den → Option β) (kr : y4.sig.den → Option β) (s : h4.sig.den) : evalBody (C n) (nthC (loopsOf (bodyC Tryz.f196)) 0) 0 h4 x4 y4 L kx kr s = b4 sl0 (Gn sl0 n) (fun x0 x1 x2 x3 x4 => L (((), ((x0, ()), ((), ((), ((), ((x1, ()), (x2, (x3, ())))))))), (x4, ()))) (fun x0 x1 x2 x3 => kx (((), ((x0, ()), ((), ((), ((), ((x1, ()), (x2, (x3, ())))))))), ())) (fun x0 x1 x2 x3 x4 => kr (((), ((x0, ()), ((), ((), ((), ((x1, ()), (x2, (x3, ())))))))), (x4, ()))) s.1.2.1.1 s.1.2.2.2.2.2.1.1 s.1.2.2.2.2.2.2.1 s.1.2.2.2.2.2.2.2.1 s.2.1 := by kernel_rfl
theorem g4 (n : Nat) (hn : OracOk Tryz.prog (oN n)) : LS Tryz.prog (C n) ⟨4, 0, h4, x4, y4, fun s kx kr => r4 sl0 (Gn sl0 n) sl0.n kx kr s⟩ (loopsOf (bodyC Tryz.f196)) := LS.at (i := 0) (by kernel_rfl) (loop_good mixed (ctx n hn) (ctx_nat (ctx n hn)) (N := sl0.n) (fun _ _ _ _ => rfl) (e4 n) (all1 (LS.none (by kernel_rfl)) (all0)))
theorem eG (n : Nat) (β : Type) (s : sin.den) (K : sout.den → Option β) : evalFn (C n) Tryz.f196 sin sout s K = (oN (n + 1)).F s K := by kernel_rfl
theorem ok0 : OracOk Tryz.prog (oN 0) := none_ok (o := oN 0) Tryz.func196 (by kernel_rfl) (by kernel_rfl) (by kernel_rfl) (Nat.le_of_ble_eq_true (by kernel_rfl)) (fun _ _ _ => by kernel_rfl)
theorem ok1 (n : Nat) (hn : OracOk Tryz.prog (oN n)) : OracOk Tryz.prog (oN (n + 1)) := fn_ok mixed Tryz.func196 (by kernel_rfl) (ctx n hn) (c := bodyC Tryz.f196) (by kernel_rfl) (all1 (g4 n hn) (all0)) (by kernel_rfl) (by kernel_rfl) (by kernel_rfl) (Nat.le_of_ble_eq_true (by kernel_rfl)) (eG n) (by kernel_rfl) (Nat.le_of_ble_eq_true (by kernel_rfl))
theorem okN (n : Nat) : OracOk Tryz.prog (oN n) := Nat.rec ok0 (fun n hn => ok1 n hn) n
theorem ok : OracOk Tryz.prog o := okN sl0.n
end impl_chosen_1
end Go.Proofs.YtnbighmbgmjbkaaGreat.E
end
section
set_option linter.unusedVariables false
set_option linter.unusedSimpArgs false
namespace Go.Proofs.YtnbighmbgmjbkaaGreat.E
open Go Go.RowKit
set_option linter.unusedVariables false
set_option maxRecDepth 100000
namespace impl_chosen
def sin : Sig := ⟨[.buf I false, .box [.val I false]], [.one (.ref (.own 0)), .one (.val I false), .one (.ref (.fn 140 [1]))]⟩
def sout : Sig := ⟨[.buf I false, .box [.val I false]], [.one (.val .bool false)]⟩
noncomputable def G {β : Type} (S : Sl) (a0 : (List Int)) (a1 : Int) (a2 : Int) (K : (List Int) → Int → Bool → Option β) : Option β := bif ((S.le 0 0) && (S.le 0 a2) && S.fw (Int.toNat a2)) then (impl_chosen_1.G S a2 (List.replicate (Int.toNat 0) (0 : Int)) a1 a0 0 (fun y1 y2 y3 y4 y5 => K y3 y2 y5)) else (none)
noncomputable def o : Orac := ⟨138, sin, sout, fun s K => G sl0 s.1.1 s.1.2.1.1 s.2.1 (fun x0 x1 x2 => K ((x0, ((x1, ()), ())), (x2, ())))⟩
noncomputable def C : Ctx := ⟨tyT, [impl_chosen_1.o], [], 14, 2⟩
theorem ctx : CtxOk Tryz.prog C := ⟨tyOk, all1 impl_chosen_1.ok (all0)⟩
theorem eG (β : Type) (s : sin.den) (K : sout.den → Option β) : evalFn C Tryz.f138 sin sout s K = o.F s K := by kernel_rfl
theorem ok : OracOk Tryz.prog o := fn_ok mixed Tryz.func138 (by kernel_rfl) ctx (c := bodyC Tryz.f138) (by kernel_rfl) (all0) (by kernel_rfl) (by kernel_rfl) (by kernel_rfl) (Nat.le_of_ble_eq_true (by kernel_rfl)) eG (by kernel_rfl) (Nat.le_of_ble_eq_true (by kernel_rfl))
end impl_chosen
end Go.Proofs.YtnbighmbgmjbkaaGreat.E
end
section
set_option linter.unusedVariables false
set_option linter.unusedSimpArgs false
namespace Go.Proofs.YtnbighmbgmjbkaaGreat.E
open Go Go.RowKit
set_option linter.unusedVariables false
set_option maxRecDepth 100000
namespace impl_everyShard
def sin : Sig := ⟨[], []⟩
def sout : Sig := ⟨[.buf I false], [.one (.ref (.own 0))]⟩
def h3 : SS := ⟨[1, 4], ⟨[.buf I false], [.one (.ref (.own 0)), .one (.val I false)]⟩⟩
def x3 : SS := ⟨[1], ⟨[.buf I false], [.one (.ref (.own 0))]⟩⟩
def y3 : SS := ⟨[], ⟨[], []⟩⟩
noncomputable def b3 {β : Type} (S : Sl) (L : (List Int) → Int → Option β) (kx : (List Int) → Option β) (kr : Option β) (s0 : (List Int)) (s1 : Int) : Option β := bif (S.lt s1 8) then (bif (S.fw (s0 ++ [s1]).length) then (L (s0 ++ [s1]) (S.w (s1 + 1))) else (none)) else (kx s0)
noncomputable def r3 {β : Type} (S : Sl) (n : Nat) (kx : x3.sig.den → Option β) (kr : y3.sig.den → Option β) (s : h3.sig.den) : Option β := rounds (fun L kx kr s => b3 S (fun x0 x1 => L ((x0, ()), (x1, ()))) (fun x0 => kx ((x0, ()), ())) (kr ((), ())) s.1.1 s.2.1) kx kr n s
noncomputable def l3 {β : Type} (S : Sl) (n : Nat) (kx : (List Int) → Option β) (kr : Option β) (s0 : (List Int)) (s1 : Int) : Option β := r3 S n (fun s => kx s.1.1) (fun s => kr) ((s0, ()), (s1, ()))
theorem t3 {β : Type} (S : Sl) (n : Nat) (kx : (List Int) → Option β) (kr : Option β) (s0 : (List Int)) (s1 : Int) : l3 S (n + 1) kx kr s0 s1 = b3 S (l3 S n kx kr) kx kr s0 s1 := by kernel_rfl
noncomputable def G {β : Type} (S : Sl)  (K : (List Int) → Option β) : Option β := bif ((S.le 0 0) && (S.le 0 8) && S.fw (Int.toNat 8)) then (l3 S S.n (fun y1 => K y1) none (List.replicate (Int.toNat 0) (0 : Int)) 0) else (none)
noncomputable def o : Orac := ⟨139, sin, sout, fun s K => G sl0 (fun x0 => K ((x0, ()), ()))⟩
noncomputable def C : Ctx := ⟨tyT, [], [⟨3, 0, h3, x3, y3, fun s kx kr => r3 sl0 sl0.n kx kr s⟩], 13, 0⟩
theorem ctx : CtxOk Tryz.prog C := ⟨tyOk, all0⟩
theorem e3 (β : Type) (L : h3.sig.den → Option β) (kx : x3.sig.den → Option β) (kr : y3.sig.den → Option β) (s : h3.sig.den) : evalBody C (nthC (loopsOf (bodyC Tryz.f139)) 0) 0 h3 x3 y3 L kx kr s = b3 sl0 (fun x0 x1 => L ((x0, ()), (x1, ()))) (fun x0 => kx ((x0, ()), ())) (kr ((), ())) s.1.1 s.2.1 := by kernel_rfl
theorem g3 : LS Tryz.prog C ⟨3, 0, h3, x3, y3, fun s kx kr => r3 sl0 sl0.n kx kr s⟩ (loopsOf (bodyC Tryz.f139)) := LS.at (i := 0) (by kernel_rfl) (loop_good mixed ctx (ctx_nat ctx) (N := sl0.n) (fun _ _ _ _ => rfl) e3 (all1 (LS.none (by kernel_rfl)) (all0)))
theorem eG (β : Type) (s : sin.den) (K : sout.den → Option β) : evalFn C Tryz.f139 sin sout s K = o.F s K := by kernel_rfl
theorem ok : OracOk Tryz.prog o := fn_ok mixed Tryz.func139 (by kernel_rfl) ctx (c := bodyC Tryz.f139) (by kernel_rfl) (all1 g3 (all0)) (by kernel_rfl) (by kernel_rfl) (by kernel_rfl) (Nat.le_of_ble_eq_true (by kernel_rfl)) eG (by kernel_rfl) (Nat.le_of_ble_eq_true (by kernel_rfl))
end impl_everyShard
end Go.Proofs.YtnbighmbgmjbkaaGreat.E
end
section
set_option linter.unusedVariables false
set_option linter.unusedSimpArgs false
namespace Go.Proofs.YtnbighmbgmjbkaaGreat.E
open Go Go.RowKit
set_option linter.unusedVariables false
set_option maxRecDepth 100000
namespace impl_CodeMost
def sin : Sig := ⟨[], [.one (.val I false)]⟩
def sout : Sig := ⟨[], [.one (.val I false)]⟩
def h4 : SS := ⟨[1, 3], ⟨[.box [.val I false]], [.one (.ref (.ptr 0)), .one (.val I false)]⟩⟩
def x4 : SS := ⟨[3], ⟨[], [.one (.val I false)]⟩⟩
def y4 : SS := ⟨[], ⟨[], []⟩⟩
noncomputable def b4 {β : Type} (S : Sl) (L : Int → Int → Option β) (kx : Int → Option β) (kr : Option β) (s0 : Int) (s1 : Int) : Option β := bif (S.lt 0 s1) then (impl_everyShard.G S (fun y1 => impl_chosen.G S y1 s0 (S.w (s1 - 1)) (fun y2 y3 y4 => bif (!y4) then (L y3 (S.w (s1 - 1))) else (kx s1)))) else (kx s1)
noncomputable def r4 {β : Type} (S : Sl) (n : Nat) (kx : x4.sig.den → Option β) (kr : y4.sig.den → Option β) (s : h4.sig.den) : Option β := rounds (fun L kx kr s => b4 S (fun x0 x1 => L (((x0, ()), ()), (x1, ()))) (fun x0 => kx ((), (x0, ()))) (kr ((), ())) s.1.1.1 s.2.1) kx kr n s
noncomputable def l4 {β : Type} (S : Sl) (n : Nat) (kx : Int → Option β) (kr : Option β) (s0 : Int) (s1 : Int) : Option β := r4 S n (fun s => kx s.2.1) (fun s => kr) (((s0, ()), ()), (s1, ()))
theorem t4 {β : Type} (S : Sl) (n : Nat) (kx : Int → Option β) (kr : Option β) (s0 : Int) (s1 : Int) : l4 S (n + 1) kx kr s0 s1 = b4 S (l4 S n kx kr) kx kr s0 s1 := by kernel_rfl
noncomputable def G {β : Type} (S : Sl) (a0 : Int) (K : Int → Option β) : Option β := impl_kindOk.G S a0 (fun y1 => bif (!y1) then (K (-1)) else (l4 S S.n (fun y2 => K (S.w ((8 : Int) - y2))) none a0 8))
noncomputable def o : Orac := ⟨56, sin, sout, fun s K => G sl0 s.2.1 (fun x0 => K ((), (x0, ())))⟩
noncomputable def C : Ctx := ⟨tyT, [impl_chosen.o, impl_everyShard.o, impl_kindOk.o], [⟨4, 0, h4, x4, y4, fun s kx kr => r4 sl0 sl0.n kx kr s⟩], 21, 0⟩
theorem ctx : CtxOk Tryz.prog C := ⟨tyOk, all1 impl_chosen.ok (all1 impl_everyShard.ok (all1 impl_kindOk.ok (all0)))⟩
theorem e4 (β : Type) (L : h4.sig.den → Option β) (kx : x4.sig.den → Option β) (kr : y4.sig.den → Option β) (s : h4.sig.den) : evalBody C (nthC (loopsOf (bodyC Tryz.f56)) 0) 0 h4 x4 y4 L kx kr s = b4 sl0 (fun x0 x1 => L (((x0, ()), ()), (x1, ()))) (fun x0 => kx ((), (x0, ()))) (kr ((), ())) s.1.1.1 s.2.1 := by kernel_rfl
theorem g4 : LS Tryz.prog C ⟨4, 0, h4, x4, y4, fun s kx kr => r4 sl0 sl0.n kx kr s⟩ (loopsOf (bodyC Tryz.f56)) := LS.at (i := 0) (by kernel_rfl) (loop_good mixed ctx (ctx_nat ctx) (N := sl0.n) (fun _ _ _ _ => rfl) e4 (all1 (LS.none (by kernel_rfl)) (all0)))
theorem eG (β : Type) (s : sin.den) (K : sout.den → Option β) : evalFn C Tryz.f56 sin sout s K = o.F s K := by kernel_rfl
theorem ok : OracOk Tryz.prog o := fn_ok mixed Tryz.func56 (by kernel_rfl) ctx (c := bodyC Tryz.f56) (by kernel_rfl) (all1 g4 (all0)) (by kernel_rfl) (by kernel_rfl) (by kernel_rfl) (Nat.le_of_ble_eq_true (by kernel_rfl)) eG (by kernel_rfl) (Nat.le_of_ble_eq_true (by kernel_rfl))
end impl_CodeMost
end Go.Proofs.YtnbighmbgmjbkaaGreat.E
end
section
set_option linter.unusedVariables false
set_option linter.unusedSimpArgs false
namespace Go.Proofs.YtnbighmbgmjbkaaGreat.E
open Go Go.RowKit
set_option linter.unusedVariables false
set_option maxRecDepth 100000
namespace spec_DrawStripeNew
def sin : Sig := ⟨[], [.one (.val (.sl (.int .u8)) false)]⟩
def sout : Sig := ⟨[], [.one (.val I false), .one (.val (.sl I) false), .one (.val I false)]⟩
noncomputable def G {β : Type} (S : Sl) (a0 : (List Int)) (K : Int → (List Int) → Int → Option β) : Option β := spec_l6Open.G S a0 (fun y1 y2 => spec_l91Kind.G S y1 y2 (fun y3 y4 y5 => spec_l91Vec.G S y3 y4 (fun y6 y7 y8 => spec_l6Rd_pick.G S y6 y7 5 (fun y9 y10 y11 => spec_l6Rd_pick.G S y9 y10 24 (fun y12 y13 y14 => K y5 y8 (S.w ((S.w ((1 : Int) + y11)) - (S.w ((S.w (Int.tdiv y14 23)) * 6)))))))))
noncomputable def o : Orac := ⟨54, sin, sout, fun s K => G sl0 s.2.1 (fun x0 x1 x2 => K ((), (x0, (x1, (x2, ())))))⟩
noncomputable def C : Ctx := ⟨tyT, [spec_l6Open.o, spec_l6Rd_pick.o, spec_l91Kind.o, spec_l91Vec.o], [], 20, 0⟩
theorem ctx : CtxOk Tryz.prog C := ⟨tyOk, all1 spec_l6Open.ok (all1 spec_l6Rd_pick.ok (all1 spec_l91Kind.ok (all1 spec_l91Vec.ok (all0))))⟩
theorem eG (β : Type) (s : sin.den) (K : sout.den → Option β) : evalFn C Tryz.f54 sin sout s K = o.F s K := by kernel_rfl
theorem ok : OracOk Tryz.prog o := fn_ok mixed Tryz.func54 (by kernel_rfl) ctx (c := bodyC Tryz.f54) (by kernel_rfl) (all0) (by kernel_rfl) (by kernel_rfl) (by kernel_rfl) (Nat.le_of_ble_eq_true (by kernel_rfl)) eG (by kernel_rfl) (Nat.le_of_ble_eq_true (by kernel_rfl))
end spec_DrawStripeNew
end Go.Proofs.YtnbighmbgmjbkaaGreat.E
end
section
set_option linter.unusedVariables false
set_option linter.unusedSimpArgs false
namespace Go.Proofs.YtnbighmbgmjbkaaGreat.E
open Go Go.RowKit
set_option linter.unusedVariables false
set_option maxRecDepth 100000
namespace laws_FnLoseFew
def sin : Sig := ⟨[], [.one (.val (.sl (.int .u8)) false), .one (.val (.sl (.int .u8)) false)]⟩
def sout : Sig := ⟨[], [.one (.val .bool false)]⟩
def h9 : SS := ⟨[1, 5, 6, 7, 10, 12], ⟨[.box [.val I false, .ref (.own 1), .ref (.own 2), .ref (.own 3)], .buf I false, .buf I false, .buf .bool false], [.one (.val (.sl (.int .u8)) false), .one (.val I false), .one (.val (.sl I) false), .one (.val I false), .one (.ref (.ptr 0)), .one (.val I false)]⟩⟩
def x9 : SS := ⟨[6, 7, 10], ⟨[.box [.val I false, .ref (.own 1), .ref (.own 2), .ref (.own 3)], .buf I false, .buf I false, .buf .bool false], [.one (.val (.sl I) false), .one (.val I false), .one (.ref (.ptr 0))]⟩⟩
def y9 : SS := ⟨[], ⟨[], []⟩⟩
noncomputable def b9 {β : Type} (S : Sl) (L : Int → (List Int) → (List Int) → (List Bool) → (List Int) → Int → (List Int) → Int → Int → Option β) (kx : Int → (List Int) → (List Int) → (List Bool) → (List Int) → Int → Option β) (kr : Option β) (s0 : Int) (s1 : (List Int)) (s2 : (List Int)) (s3 : (List Bool)) (s4 : (List Int)) (s5 : Int) (s6 : (List Int)) (s7 : Int) (s8 : Int) : Option β := impl_CodeMost.G S s5 (fun y1 => bif (S.lt s8 y1) then (impl_StripeLose.G S s0 s1 s2 s3 (Int.tmod (S.w ((s4.length : Int) + (S.w (s8 * 3)))) 8) (fun y2 y3 y4 y5 => L y5 y2 y3 y4 s4 s5 s6 s7 (S.w (s8 + 1)))) else (kx s0 s1 s2 s3 s6 s7))
noncomputable def r9 {β : Type} (S : Sl) (n : Nat) (kx : x9.sig.den → Option β) (kr : y9.sig.den → Option β) (s : h9.sig.den) : Option β := rounds (fun L kx kr s => b9 S (fun x0 x1 x2 x3 x4 x5 x6 x7 x8 => L (((x0, ()), (x1, (x2, (x3, ())))), (x4, (x5, (x6, (x7, (x8, ()))))))) (fun x0 x1 x2 x3 x4 x5 => kx (((x0, ()), (x1, (x2, (x3, ())))), (x4, (x5, ())))) (kr ((), ())) s.1.1.1 s.1.2.1 s.1.2.2.1 s.1.2.2.2.1 s.2.1 s.2.2.1 s.2.2.2.1 s.2.2.2.2.1 s.2.2.2.2.2.1) kx kr n s
noncomputable def l9 {β : Type} (S : Sl) (n : Nat) (kx : Int → (List Int) → (List Int) → (List Bool) → (List Int) → Int → Option β) (kr : Option β) (s0 : Int) (s1 : (List Int)) (s2 : (List Int)) (s3 : (List Bool)) (s4 : (List Int)) (s5 : Int) (s6 : (List Int)) (s7 : Int) (s8 : Int) : Option β := r9 S n (fun s => kx s.1.1.1 s.1.2.1 s.1.2.2.1 s.1.2.2.2.1 s.2.1 s.2.2.1) (fun s => kr) (((s0, ()), (s1, (s2, (s3, ())))), (s4, (s5, (s6, (s7, (s8, ()))))))
theorem t9 {β : Type} (S : Sl) (n : Nat) (kx : Int → (List Int) → (List Int) → (List Bool) → (List Int) → Int → Option β) (kr : Option β) (s0 : Int) (s1 : (List Int)) (s2 : (List Int)) (s3 : (List Bool)) (s4 : (List Int)) (s5 : Int) (s6 : (List Int)) (s7 : Int) (s8 : Int) : l9 S (n + 1) kx kr s0 s1 s2 s3 s4 s5 s6 s7 s8 = b9 S (l9 S n kx kr) kx kr s0 s1 s2 s3 s4 s5 s6 s7 s8 := by kernel_rfl
noncomputable def G {β : Type} (S : Sl) (a0 : (List Int)) (a1 : (List Int)) (K : Bool → Option β) : Option β := bif (S.lt 1048576 (a0.length : Int)) then (K true) else (bif (S.lt 1048576 (a1.length : Int)) then (K true) else (spec_DrawStripeNew.G S a0 (fun y1 y2 y3 => spec_StripeNew.G S y1 y2 y3 (fun y4 y5 y6 y7 y8 => impl_StripeNew.G S y1 y2 y3 (fun y9 y10 y11 y12 y13 => bif (y13 != y8) then (bif (y13 == y8) then (laws_lkStripe.G S y12 y9 y10 y11 y7 y4 y5 y6 (fun y14 => K y14)) else (K false)) else (laws_lkStripe.G S y12 y9 y10 y11 y7 y4 y5 y6 (fun y15 => bif (!y15) then (bif (y13 == y8) then (laws_lkStripe.G S y12 y9 y10 y11 y7 y4 y5 y6 (fun y16 => K y16)) else (K false)) else (bif (!y13) then (bif (y13 == y8) then (laws_lkStripe.G S y12 y9 y10 y11 y7 y4 y5 y6 (fun y17 => K y17)) else (K false)) else (l9 S S.n (fun y18 y19 y20 y21 y22 y23 => impl_StripeRead.G S y18 y19 y20 y21 (fun y24 y25 y26 => bif y26 then (bif (S.eq y25 y23) then (laws_lkInts.G S y24 y22 (fun y27 => K y27)) else (K false)) else (K false))) none y12 y9 y10 y11 a1 y1 y2 y3 0)))))))))
noncomputable def o : Orac := ⟨11, sin, sout, fun s K => G sl0 s.2.1 s.2.2.1 (fun x0 => K ((), (x0, ())))⟩
noncomputable def C : Ctx := ⟨tyT, [impl_CodeMost.o, impl_StripeLose.o, impl_StripeNew.o, impl_StripeRead.o, laws_lkInts.o, laws_lkStripe.o, spec_DrawStripeNew.o, spec_StripeNew.o], [⟨9, 0, h9, x9, y9, fun s kx kr => r9 sl0 sl0.n kx kr s⟩], 96, 0⟩
theorem ctx : CtxOk Tryz.prog C := ⟨tyOk, all1 impl_CodeMost.ok (all1 impl_StripeLose.ok (all1 impl_StripeNew.ok (all1 impl_StripeRead.ok (all1 laws_lkInts.ok (all1 laws_lkStripe.ok (all1 spec_DrawStripeNew.ok (all1 spec_StripeNew.ok (all0))))))))⟩
theorem e9 (β : Type) (L : h9.sig.den → Option β) (kx : x9.sig.den → Option β) (kr : y9.sig.den → Option β) (s : h9.sig.den) : evalBody C (nthC (loopsOf (bodyC Tryz.f11)) 0) 0 h9 x9 y9 L kx kr s = b9 sl0 (fun x0 x1 x2 x3 x4 x5 x6 x7 x8 => L (((x0, ()), (x1, (x2, (x3, ())))), (x4, (x5, (x6, (x7, (x8, ()))))))) (fun x0 x1 x2 x3 x4 x5 => kx (((x0, ()), (x1, (x2, (x3, ())))), (x4, (x5, ())))) (kr ((), ())) s.1.1.1 s.1.2.1 s.1.2.2.1 s.1.2.2.2.1 s.2.1 s.2.2.1 s.2.2.2.1 s.2.2.2.2.1 s.2.2.2.2.2.1 := by kernel_rfl
theorem g9 : LS Tryz.prog C ⟨9, 0, h9, x9, y9, fun s kx kr => r9 sl0 sl0.n kx kr s⟩ (loopsOf (bodyC Tryz.f11)) := LS.at (i := 0) (by kernel_rfl) (loop_good mixed ctx (ctx_nat ctx) (N := sl0.n) (fun _ _ _ _ => rfl) e9 (all1 (LS.none (by kernel_rfl)) (all0)))
theorem eG (β : Type) (s : sin.den) (K : sout.den → Option β) : evalFn C Tryz.f11 sin sout s K = o.F s K := by kernel_rfl
theorem ok : OracOk Tryz.prog o := fn_ok mixed Tryz.func11 (by kernel_rfl) ctx (c := bodyC Tryz.f11) (by kernel_rfl) (all1 g9 (all0)) (by kernel_rfl) (by kernel_rfl) (by kernel_rfl) (Nat.le_of_ble_eq_true (by kernel_rfl)) eG (by kernel_rfl) (Nat.le_of_ble_eq_true (by kernel_rfl))
end laws_FnLoseFew
end Go.Proofs.YtnbighmbgmjbkaaGreat.E
end
section
set_option linter.unusedVariables false
set_option linter.unusedSimpArgs false
namespace Go.Proofs.YtnbighmbgmjbkaaGreat.E
open Go Go.RowKit
set_option maxRecDepth 100000
theorem most_1 : impl_CodeMost.G sl1 1 (fun y => some y) = some (3 : Int) := by kernel_rfl
end Go.Proofs.YtnbighmbgmjbkaaGreat.E
end
section
set_option linter.unusedVariables false
set_option linter.unusedSimpArgs false
namespace Go.Proofs.YtnbighmbgmjbkaaGreat.E
open Go Go.RowKit
set_option maxRecDepth 100000
theorem most_2 : impl_CodeMost.G sl1 2 (fun y => some y) = some (4 : Int) := by kernel_rfl
end Go.Proofs.YtnbighmbgmjbkaaGreat.E
end
section
set_option linter.unusedVariables false
set_option linter.unusedSimpArgs false
namespace Go.Proofs.YtnbighmbgmjbkaaGreat.E
open Go Go.RowKit
set_option linter.unusedVariables false
set_option maxRecDepth 100000
theorem drawNew {l : List Int} (hl : ∀ x ∈ l, 0 ≤ x ∧ x ≤ 255) : ∃ (kind : Int) (data : List Int) (v : Int), data.length ≤ 4 ∧ ∀ (β : Type) (K : Int → List Int → Int → Option β), spec_DrawStripeNew.G sl1 l K = K kind data v := by
 obtain ⟨b, hb, ho⟩ := open_G hl
 obtain ⟨kind, r, r0, r1, _, _, ek⟩ := kind_G hb (p := 0) (by omega) (by omega)
 obtain ⟨data, s, d4, _, _, ed⟩ := vec_S hb (p := r) (by omega) (by omega)
 obtain ⟨c, _, _, ec⟩ := pick_S hb (p := s) 5
 obtain ⟨e, _, _, ee⟩ := pick_S hb (p := s + 1) 24
 exact ⟨kind, data, _, d4, fun β K => (ho _ _).trans ((ek _ _).trans ((ed _ _).trans ((ec _ _).trans (ee _ _))))⟩
def mostN (kind : Int) : Nat := if kind = 1 then 3 else 4
theorem most_nat {β : Type} (kind : Int) (K : Int → Option β) : impl_CodeMost.G sl1 kind K = (impl_CodeMost.G sl1 kind (fun y => some y)).bind K := by
 have h : ∀ {γ : Type} (K : Int → Option γ), impl_CodeMost.G sl0 kind K = (impl_CodeMost.G sl0 kind (fun x => some ((), (x, ())))).bind (fun y => K y.2.1) := fun K => impl_CodeMost.ok.nat ((), (kind, ())) (fun y => K y.2.1)
 rw [sl_eq] at h
 rw [h K, h (fun y => some y), Option.bind_assoc]; rfl
theorem most_G {β : Type} {kind : Int} (hk : kind = 1 ∨ kind = 2) (K : Int → Option β) : impl_CodeMost.G sl1 kind K = K (mostN kind : Int) := by
 rw [most_nat]
 rcases hk with rfl | rfl
 ·rw [most_1]; rfl
 ·rw [most_2]; rfl
def lostN (r i j : Nat) : Bool := (List.range i).any fun t => (r + 3 * t) % 8 == j
theorem lostN_succ (r i j : Nat) : lostN r (i + 1) j = (lostN r i j || ((r + 3 * i) % 8 == j)) := by
 unfold lostN
 rw [List.range_succ, List.any_append]
 simp
theorem lostN_mod (r i j : Nat) : lostN (r % 8) i j = lostN r i j := by
 unfold lostN
 congr 1
 funext t
 rw [show (r % 8 + 3 * t) % 8 = (r + 3 * t) % 8 by omega]
def fewT (r i : Nat) : List Bool := (List.range 8).map fun j => !lostN r i j
theorem few_1 : (List.range 8).all (fun r => covL 1 (thereL (fewT r 3) 0 8)) = true := by kernel_rfl
theorem few_2 : (List.range 8).all (fun r => covL 2 (thereL (fewT r 4) 0 8)) = true := by kernel_rfl
theorem few_k {kind : Int} (hk : kind = 1 ∨ kind = 2) (r : Nat) : covL kind (thereL (fewT (r % 8) (mostN kind)) 0 8) = true := by
 have hr : r % 8 ∈ List.range 8 := List.mem_range.2 (by omega)
 rcases hk with rfl | rfl
 ·exact List.all_eq_true.1 few_1 _ hr
 ·exact List.all_eq_true.1 few_2 _ hr
theorem fewT_at (r i : Nat) {j : Nat} (hj : j < 8) : (fewT r i).getD j false = !lostN r i j := by
 unfold fewT
 rw [List.getD_eq_getElem?_getD, List.getElem?_map, List.getElem?_range hj]; rfl
structure Few (kind : Int) (data : List Int) (v : Int) (r i : Nat) (A B : List Int) (C : List Bool) : Prop where
 ok : stripeV kind A B C = true
 l1 : A.length = 8
 l2 : B.length = 8
 l3 : C.length = 8
 at_ : ∀ j, j < 8 → A.getD j 0 = (if lostN r i j = true then 0 else (allV kind data).getD j 0) ∧ B.getD j 0 = (if lostN r i j = true then 0 else v) ∧ C.getD j false = !lostN r i j
theorem Few.zero {kind : Int} {data : List Int} {v : Int} (h : newOk kind data v = true) (r : Nat) : Few kind data v r 0 (allV kind data) (List.replicate 8 v) (List.replicate 8 true) :=
 ⟨all_stripe h, allV_len _ _, by simp, by simp, fun j hj => by rw [rep8 _ _ hj, rep8 _ _ hj]; exact ⟨rfl, rfl, rfl⟩⟩
theorem Few.succ {kind : Int} {data : List Int} {v : Int} {r i : Nat} {A B : List Int} {C : List Bool} (h : Few kind data v r i A B C) : Few kind data v r (i + 1) (A.set ((r + 3 * i) % 8) 0) (B.set ((r + 3 * i) % 8) 0) (C.set ((r + 3 * i) % 8) false) := by
 have l1 := h.l1
 have l2 := h.l2
 have l3 := h.l3
 have hi : (r + 3 * i) % 8 < 8 := by omega
 refine ⟨stripe_lose h.ok hi, by rw [List.length_set]; exact l1, by rw [List.length_set]; exact l2, by rw [List.length_set]; exact l3, fun j hj => ?_⟩
 rw [getD_set _ _ _ _ _ (by omega), getD_set _ _ _ _ _ (by omega), getD_set _ _ _ _ _ (by omega), lostN_succ]
 obtain ⟨a1, a2, a3⟩ := h.at_ j hj
 by_cases e : (r + 3 * i) % 8 = j
 ·rw [if_pos e, if_pos e, if_pos e, beq_iff_eq.2 e, Bool.or_true, if_pos rfl, if_pos rfl]; exact ⟨rfl, rfl, rfl⟩
 ·rw [if_neg e, if_neg e, if_neg e, beq_eq_false_iff_ne.2 e, Bool.or_false]; exact ⟨a1, a2, a3⟩
theorem Few.read {kind : Int} {data : List Int} {v : Int} {r : Nat} {A B : List Int} {C : List Bool} (hn : newOk kind data v = true) (h : Few kind data v r (mostN kind) A B C) : readL kind B C = some v ∧ Told1 kind A B C v data := by
 obtain ⟨hk, hd, hv⟩ := newOk_iff.1 hn
 have hb : ∀ a, a < 8 → C.getD a false = true → B.getD a 0 = v ∧ A.getD a 0 = (allV kind data).getD a 0 := fun a ha ta => by
  obtain ⟨a1, a2, a3⟩ := h.at_ a ha
  rw [a3] at ta
  have : ¬(lostN r (mostN kind) a = true) := fun e => by rw [e] at ta; cases ta
  rw [if_neg this] at a1 a2
  exact ⟨a2, a1⟩
 have hc : covV kind B C v = true := covL_mono (fun b hb' => by
  obtain ⟨q1, q2⟩ := thereL_mem.1 hb'
  rw [fewT_at _ _ q1, lostN_mod] at q2
  have tb : C.getD b false = true := by rw [(h.at_ b q1).2.2]; exact q2
  exact ofL_mem'.2 ⟨q1, tb, (hb b q1 tb).1⟩) (few_k hk r)
 obtain ⟨w, hw, _⟩ := readL_ge hk hc
 obtain ⟨a, ha, ta, va⟩ := versL_mem.1 (List.mem_of_find?_eq_some hw)
 rw [(hb a ha ta).1] at va
 refine ⟨by rw [hw, va], vec_V4 hd, fun a ha => ?_⟩
 obtain ⟨q1, q2, _⟩ := ofL_mem'.1 ha
 rw [(hb a q1 q2).2]
 exact allV_at hk (vec_V4 hd) q1
end Go.Proofs.YtnbighmbgmjbkaaGreat.E
end
section
set_option linter.unusedVariables false
set_option linter.unusedSimpArgs false
namespace Go.Proofs.YtnbighmbgmjbkaaGreat.E
open Go Go.RowKit
set_option linter.unusedVariables false
set_option maxRecDepth 100000
theorem few_l {kind : Int} {data : List Int} {v : Int} (hn : newOk kind data v = true) (more : List Int) (hm : more.length ≤ 1048576) (d : Nat) : ∀ (i n : Nat) (A B : List Int) (C : List Bool), i + d = mostN kind → d < n → Few kind data v more.length i A B C →
  ∃ (A' B' : List Int) (C' : List Bool), Few kind data v more.length (mostN kind) A' B' C' ∧ ∀ (β : Type) (kx : Int → List Int → List Int → List Bool → List Int → Int → Option β) (kr : Option β), laws_FnLoseFew.l9 sl1 n kx kr kind A B C more kind data v (i : Int) = kx kind A' B' C' data v := by
 obtain ⟨hk, hd, hv⟩ := newOk_iff.1 hn
 have hm4 : mostN kind ≤ 4 := by unfold mostN; split <;> omega
 induction d with
 | zero =>
  intro i n A B C hi hn' h
  obtain ⟨n, rfl⟩ : ∃ m, n = m + 1 := ⟨n - 1, by omega⟩
  obtain rfl : i = mostN kind := by omega
  refine ⟨A, B, C, h, fun β kx kr => ?_⟩
  rw [laws_FnLoseFew.t9]
  unfold laws_FnLoseFew.b9
  exact (most_G hk _).trans (cF (ltF (Int.le_refl _)) rfl)
 | succ d ih =>
  intro i n A B C hi hn' h
  obtain ⟨n, rfl⟩ : ∃ m, n = m + 1 := ⟨n - 1, by omega⟩
  obtain ⟨A', B', C', h', e⟩ := ih (i + 1) n _ _ _ (by omega) (by omega) h.succ
  refine ⟨A', B', C', h', fun β kx kr => ?_⟩
  have ew : Int.tmod (sl1.w ((more.length : Int) + sl1.w ((i : Int) * 3))) 8 = (((more.length + 3 * i) % 8 : Nat) : Int) := by
   rw [wE (a := (i : Int) * 3) (by omega) (by omega), wE (by omega) (by omega), Int.tmod_eq_emod_of_nonneg (by omega)]; omega
  rw [laws_FnLoseFew.t9]
  unfold laws_FnLoseFew.b9
  rw [ew, w_succ (by omega)]
  refine (most_G hk _).trans (cT (ltT (by omega)) ((implLose_G kind _ _).trans ?_))
  unfold loseV
  rw [h.ok, inV_iff.2 (show (0 : Int) ≤ (((more.length + 3 * i) % 8 : Nat) : Int) ∧ (((more.length + 3 * i) % 8 : Nat) : Int) ≤ 7 by omega), Int.toNat_natCast]
  exact e β kx kr
end Go.Proofs.YtnbighmbgmjbkaaGreat.E
namespace Go.Proofs.YtnbighmbgmjbkaaGreat.Pure.FnLoseFew
open Go Go.Proofs.YtnbighmbgmjbkaaGreat.E
theorem pure {β : Type} (l m : List Int) (hl : ∀ x ∈ l, 0 ≤ x ∧ x ≤ 255) (hm : ∀ x ∈ m, 0 ≤ x ∧ x ≤ 255) (K : Bool → Option β) : laws_FnLoseFew.G sl1 l m K = K true := by
 obtain ⟨kind, data, v, d4, hd⟩ := drawNew hl
 unfold laws_FnLoseFew.G
 by_cases h : 1048576 < (l.length : Int)
 ·exact cT (ltT h) rfl
 refine cF (ltF (by omega)) ?_
 by_cases h' : 1048576 < (m.length : Int)
 ·exact cT (ltT h') rfl
 refine cF (ltF (by omega)) ((hd _ _).trans ((newS_G kind v (by omega) _).trans ?_))
 cases ok : newOk kind data v
 ·have same := fun {γ : Type} (K : Bool → Option γ) => lkStripe_same (β := γ) 0 (vals := []) (vers := []) (there := []) (by simp) (by simp) (by simp) K
  refine cF rfl ((newI_G kind v (by omega) _).trans ?_)
  rw [ok]
  exact cF rfl (cF rfl ((same _).trans (cF rfl (cT rfl (cT rfl (same _))))))
 ·have la := allV_len kind data
  have same := fun {γ : Type} (K : Bool → Option γ) => lkStripe_same (β := γ) kind (vals := allV kind data) (vers := List.replicate 8 v) (there := List.replicate 8 true) (by omega) (by simp) (by simp) K
  refine cT rfl ((newI_G kind v (by omega) _).trans ?_)
  rw [ok]
  obtain ⟨A, B, C, hF, e⟩ := few_l ok m (by omega) (mostN kind) 0 sl1.n _ _ _ (by omega) (by rw [rounds_n]; unfold mostN; split <;> omega) (Few.zero ok m.length)
  obtain ⟨hk, _, _⟩ := newOk_iff.1 ok
  obtain ⟨d, hT, er⟩ := stripeRead_E hF.ok
  obtain ⟨r1, r2⟩ := hF.read ok
  obtain rfl : d = data := tells_uniq hk hT (by unfold Tells; rw [r1]; exact r2)
  refine cT rfl (cF rfl ((same _).trans (cF rfl (cF rfl ((e _ _ _).trans ((er _ _).trans ?_))))))
  rw [r1]
  exact cT rfl (cT (eqT rfl) (lkInts_same _ (by omega) _))
end Go.Proofs.YtnbighmbgmjbkaaGreat.Pure.FnLoseFew
end
section
set_option linter.unusedVariables false
set_option linter.unusedSimpArgs false
namespace Go.Proofs.YtnbighmbgmjbkaaGreat.fnLoseFew
open Go.ChangeShapes Go.WideShapes Go.ChangeAt Go.RowKit
open Go.ChangeMaps (open_string shut_string)
set_option linter.unusedVariables false
theorem own : ownKnob Tryz.prog.godebug = none := by kernel_rfl
theorem laidOut : laidOutB Tryz.prog = true := by kernel_rfl
set_option maxRecDepth 100000 in
theorem lifted (os : Os) (started : os.Started) (H : Type) (enc : TypeId × Value → H) :
  ReturnsInHanded {} Tryz.checked os 11 .any (Rows.fnLoseFewSpec.pre6 enc Tryz.prog Tryz.f11 Rows.fnLoseFewRow.domain false) (Rows.fnLoseFewSpec.post enc Tryz.prog Tryz.f11 false true false false) := by
 refine returnsInHanded_of_change_sized (C := Tryz.checked) own started (by kernel_rfl) Tryz.func11
  (ChangeSpec.witness6 (enc := enc) (C := Tryz.checked) false ⟨#[], #[.slice none 0 0, .slice none 0 0], []⟩ 8 (by kernel_rfl) (by kernel_rfl) (by kernel_rfl) (by kernel_rfl)) ?_
 intro W base args ds gs before hval0 hW hcnd hsz0 _
 have hval : ∀ (j : Nat) t v, Tryz.f11.params[j]? = some t → args[j]? = some v → Value.okWide Tryz.prog W .any base t v := hval0
 have hW' := hW
 obtain ⟨p, q, hA0, hV, rfl, hfz, hnd⟩ := hW
 have hA : DataW.TrodAll enc Tryz.prog W 0 (fun _ => true) true Tryz.f11.params.toList args.toList ds p := hA0
 rw [Tryz.params11] at hA hval
 obtain ⟨v0, vs0, d0, ds0, p0, q0, hargs0, rfl, rfl, h0, r0⟩ := trodAll_cons hA
 obtain ⟨v1, vs1, d1, ds1, p1, q1, hargs1, rfl, rfl, h1, r1⟩ := trodAll_cons r0
 obtain ⟨rfl, rfl, rfl⟩ := trodAll_nil r1
 obtain rfl : args = #[v0, v1] := by cases args; simp_all
 obtain ⟨rfl, rfl⟩ := trodVars_none hV
 obtain ⟨a0, len0, cap0, rfl⟩ := okWide_slice Tryz.underlying22 (hval 0 22 v0 rfl rfl)
 obtain ⟨a1, len1, cap1, rfl⟩ := okWide_slice Tryz.underlying22 (hval 1 22 v1 rfl rfl)
 have k0 := h0
 have lt0 : ∀ x ∈ p0, x.block < W.heap.size := by obtain ⟨m, hm⟩ := k0; exact DataW.trod_lt m _ _ _ hm
 obtain ⟨z0, w0, b0⟩ : ∃ zs, E.IsRowK .u8 W a0 len0 cap0 zs ∧ (∀ x ∈ zs, (Lit.int .u8 x).wf = true) := by
  obtain ⟨fuel, hf⟩ := h0
  rcases open_ints Tryz.underlying22 Tryz.underlying5 (by kernel_rfl) hf with ⟨hcs, _⟩ | ⟨x, l, c, zs, hcs, _, hl, hm, hz, _, hcell, hwz⟩
  ·simp [Value.cells] at hcs
   obtain ⟨rfl, rfl, rfl⟩ := hcs
   exact ⟨[], .inl ⟨rfl, rfl, rfl, rfl⟩, by simp⟩
  ·simp [Value.cells] at hcs
   obtain ⟨rfl, rfl, rfl⟩ := hcs
   exact ⟨zs, .inr ⟨_, rfl, hl, by simpa using hz, hcell⟩, hwz⟩
 have k1 := h1
 have lt1 : ∀ x ∈ p1, x.block < W.heap.size := by obtain ⟨m, hm⟩ := k1; exact DataW.trod_lt m _ _ _ hm
 obtain ⟨z1, w1, b1⟩ : ∃ zs, E.IsRowK .u8 W a1 len1 cap1 zs ∧ (∀ x ∈ zs, (Lit.int .u8 x).wf = true) := by
  obtain ⟨fuel, hf⟩ := h1
  rcases open_ints Tryz.underlying22 Tryz.underlying5 (by kernel_rfl) hf with ⟨hcs, _⟩ | ⟨x, l, c, zs, hcs, _, hl, hm, hz, _, hcell, hwz⟩
  ·simp [Value.cells] at hcs
   obtain ⟨rfl, rfl, rfl⟩ := hcs
   exact ⟨[], .inl ⟨rfl, rfl, rfl, rfl⟩, by simp⟩
  ·simp [Value.cells] at hcs
   obtain ⟨rfl, rfl, rfl⟩ := hcs
   exact ⟨zs, .inr ⟨_, rfl, hl, by simpa using hz, hcell⟩, hwz⟩
 clear hA0 hval0 hsz0
 have hp := Pure.FnLoseFew.pure (z0.take len0) (z1.take len1) (fun x hx => E.byte_wf (b0 x (List.mem_of_mem_take hx))) (fun x hx => E.byte_wf (b1 x (List.mem_of_mem_take hx))) (fun b => some ((), (b, ())))
 rw [← E.sl_eq] at hp
 refine (E.law_bytes2 E.laws_FnLoseFew.ok w0 w1 hp).mono fun e W' ⟨he, bel⟩ => ?_
 subst he
 exact ⟨_, rfl, _, _, _, [], _, [], hW', trodAll_mk1 (shut_bool Tryz.underlying4 _), (trodAll_cons_mk (Below.trod laidOut (by kernel_rfl) (of_decide_eq_true (by kernel_rfl)) k0 bel lt0) (trodAll_cons_mk (Below.trod laidOut (by kernel_rfl) (of_decide_eq_true (by kernel_rfl)) k1 bel lt1) trodAll_mk0)), rfl, bel.frame _, fun h => by cases h⟩
theorem closed : joinedFacts Tryz.prog 11 Tryz.f11 Rows.fnLoseFewSpec Rows.fnLoseFewRow = true := by
 unfold joinedFacts
 rw [Head.make, Head.final, Head.enter]
 kernel_rfl
theorem over : Rows.fnLoseFewRow.holds Tryz.pinned (OpenSpec.ofChange Rows.fnLoseFewSpec) :=
 OpenClaim.holds_of_wide 11 Tryz.f11 rfl rfl rfl rfl rfl rfl rfl ⟨rfl, rfl, rfl, rfl, rfl⟩ rfl rfl rfl rfl rfl (by kernel_rfl) Tryz.func11 closed
  (of_decide_eq_true (by kernel_rfl)) (by unfold Func.isWrapper; first | (rw [if_pos (by decide +kernel)]; kernel_rfl) | (rw [if_neg (by decide +kernel)]; exact ⟨rfl, rfl⟩))
  (fun os started H enc _ => lifted os started H enc)
theorem proved : Rows.FnLoseFewSaid := over
#print axioms proved
end Go.Proofs.YtnbighmbgmjbkaaGreat.fnLoseFew
end
