/- Part 3 of the proof of the statement FnRotFind: what the functions compute, step by step; the last part states it. No condition. -/
import Derived.Test.YtjmboleiijhelaaRows
import Derived.WalkKit
import Derived.ProofKit
import Derived.OpenShut
import Derived.ShutString
import Derived.ChangeOld
import Derived.Below
import Derived.SizedLaws
import Derived.Test.YtjmboleiijhelaaMFnRotFind1
import Derived.Test.YtjmboleiijhelaaMFnRotFind2
section
set_option linter.unusedVariables false
set_option linter.unusedSimpArgs false
namespace Go.Proofs.Ytjmboleiijhelaa.E
open Go Go.RowKit
set_option linter.unusedVariables false
set_option maxRecDepth 100000
namespace spec_l2Sum
def sin : Sig := ⟨[], [.one (.val (.sl I) false), .one (.val (.sl I) false)]⟩
def sout : Sig := ⟨[], [.one (.val (.sl I) true)]⟩
def h3 : SS := ⟨[0, 1, 5, 6], ⟨[.buf I true], [.one (.val (.sl I) false), .one (.val (.sl I) false), .one (.ref (.own 0)), .one (.val I false)]⟩⟩
def x3 : SS := ⟨[5], ⟨[.buf I true], [.one (.ref (.own 0))]⟩⟩
def y3 : SS := ⟨[], ⟨[], []⟩⟩
noncomputable def b3 {β : Type} (S : Sl) (L : (List Int) → (List Int) → (List Int) → Int → Option β) (kx : (List Int) → Option β) (kr : Option β) (s0 : (List Int)) (s1 : (List Int)) (s2 : (List Int)) (s3 : Int) : Option β := bif (S.lt s3 (s1.length : Int)) then (bif (S.ir s3 s1.length) then (bif (S.ir s3 s2.length) then (bif (S.fw (s0 ++ [(Int.tmod (S.w ((List.getD s1 (Int.toNat s3) 0) + (List.getD s2 (Int.toNat s3) 0))) 31)]).length) then (L (s0 ++ [(Int.tmod (S.w ((List.getD s1 (Int.toNat s3) 0) + (List.getD s2 (Int.toNat s3) 0))) 31)]) s1 s2 (S.w (s3 + 1))) else (none)) else (none)) else (none)) else (kx s0)
noncomputable def r3 {β : Type} (S : Sl) (n : Nat) (kx : x3.sig.den → Option β) (kr : y3.sig.den → Option β) (s : h3.sig.den) : Option β := rounds (fun L kx kr s => b3 S (fun x0 x1 x2 x3 => L ((x0, ()), (x1, (x2, (x3, ()))))) (fun x0 => kx ((x0, ()), ())) (kr ((), ())) s.1.1 s.2.1 s.2.2.1 s.2.2.2.1) kx kr n s
noncomputable def l3 {β : Type} (S : Sl) (n : Nat) (kx : (List Int) → Option β) (kr : Option β) (s0 : (List Int)) (s1 : (List Int)) (s2 : (List Int)) (s3 : Int) : Option β := r3 S n (fun s => kx s.1.1) (fun s => kr) ((s0, ()), (s1, (s2, (s3, ()))))
theorem t3 {β : Type} (S : Sl) (n : Nat) (kx : (List Int) → Option β) (kr : Option β) (s0 : (List Int)) (s1 : (List Int)) (s2 : (List Int)) (s3 : Int) : l3 S (n + 1) kx kr s0 s1 s2 s3 = b3 S (l3 S n kx kr) kx kr s0 s1 s2 s3 := by kernel_rfl
noncomputable def G {β : Type} (S : Sl) (a0 : (List Int)) (a1 : (List Int)) (K : (List Int) → Option β) : Option β := l3 S S.n (fun y1 => K y1) none [] a0 a1 0
noncomputable def o : Orac := ⟨122, sin, sout, fun s K => G sl0 s.2.1 s.2.2.1 (fun x0 => K ((), (x0, ())))⟩
noncomputable def C : Ctx := ⟨tyT, [], [⟨3, 0, h3, x3, y3, fun s kx kr => r3 sl0 sl0.n kx kr s⟩], 28, 0⟩
theorem ctx : CtxOk Try.prog C := ⟨tyOk, all0⟩
theorem e3 (β : Type) (L : h3.sig.den → Option β) (kx : x3.sig.den → Option β) (kr : y3.sig.den → Option β) (s : h3.sig.den) : evalBody C (nthC (loopsOf (bodyC Try.f122)) 0) 0 h3 x3 y3 L kx kr s = b3 sl0 (fun x0 x1 x2 x3 => L ((x0, ()), (x1, (x2, (x3, ()))))) (fun x0 => kx ((x0, ()), ())) (kr ((), ())) s.1.1 s.2.1 s.2.2.1 s.2.2.2.1 := by kernel_rfl
theorem g3 : LS Try.prog C ⟨3, 0, h3, x3, y3, fun s kx kr => r3 sl0 sl0.n kx kr s⟩ (loopsOf (bodyC Try.f122)) := LS.at (i := 0) (by kernel_rfl) (loop_good mixed ctx (ctx_nat ctx) (N := sl0.n) (fun _ _ _ _ => rfl) e3 (all1 (LS.none (by kernel_rfl)) (all0)))
theorem eG (β : Type) (s : sin.den) (K : sout.den → Option β) : evalFn C Try.f122 sin sout s K = o.F s K := by kernel_rfl
theorem ok : OracOk Try.prog o := fn_ok mixed Try.func122 (by kernel_rfl) ctx (c := bodyC Try.f122) (by kernel_rfl) (all1 g3 (all0)) (by kernel_rfl) (by kernel_rfl) (by kernel_rfl) (Nat.le_of_ble_eq_true (by kernel_rfl)) eG (by kernel_rfl) (Nat.le_of_ble_eq_true (by kernel_rfl))
end spec_l2Sum
end Go.Proofs.Ytjmboleiijhelaa.E
end
section
set_option linter.unusedVariables false
set_option linter.unusedSimpArgs false
namespace Go.Proofs.Ytjmboleiijhelaa.E
open Go Go.RowKit
set_option linter.unusedVariables false
set_option maxRecDepth 100000
namespace spec_l3Less
def sin : Sig := ⟨[], [.one (.val (.sl I) false), .one (.val (.sl I) false)]⟩
def sout : Sig := ⟨[], [.one (.val (.sl I) true)]⟩
noncomputable def G {β : Type} (S : Sl) (a0 : (List Int)) (a1 : (List Int)) (K : (List Int) → Option β) : Option β := spec_l2Lead.G S a1 (fun y1 => bif (S.ir y1 a0.length) then (bif (S.ir y1 a1.length) then (spec_l1Inv.G S (List.getD a1 (Int.toNat y1) 0) (fun y2 => spec_l2Scale.G S a1 (Int.tmod (S.w ((31 : Int) - (Int.tmod (S.w ((List.getD a0 (Int.toNat y1) 0) * y2)) 31))) 31) (fun y3 => spec_l2Sum.G S a0 y3 (fun y4 => K y4)))) else (none)) else (none))
noncomputable def o : Orac := ⟨105, sin, sout, fun s K => G sl0 s.2.1 s.2.2.1 (fun x0 => K ((), (x0, ())))⟩
noncomputable def C : Ctx := ⟨tyT, [spec_l1Inv.o, spec_l2Lead.o, spec_l2Scale.o, spec_l2Sum.o], [], 25, 0⟩
theorem ctx : CtxOk Try.prog C := ⟨tyOk, all1 spec_l1Inv.ok (all1 spec_l2Lead.ok (all1 spec_l2Scale.ok (all1 spec_l2Sum.ok (all0))))⟩
theorem eG (β : Type) (s : sin.den) (K : sout.den → Option β) : evalFn C Try.f105 sin sout s K = o.F s K := by kernel_rfl
theorem ok : OracOk Try.prog o := fn_ok mixed Try.func105 (by kernel_rfl) ctx (c := bodyC Try.f105) (by kernel_rfl) (all0) (by kernel_rfl) (by kernel_rfl) (by kernel_rfl) (Nat.le_of_ble_eq_true (by kernel_rfl)) eG (by kernel_rfl) (Nat.le_of_ble_eq_true (by kernel_rfl))
end spec_l3Less
end Go.Proofs.Ytjmboleiijhelaa.E
end
section
set_option linter.unusedVariables false
set_option linter.unusedSimpArgs false
namespace Go.Proofs.Ytjmboleiijhelaa.E
open Go Go.RowKit
set_option linter.unusedVariables false
set_option maxRecDepth 100000
namespace spec_l6In
def sin : Sig := ⟨[], [.one (.val I false), .one (.val I false), .one (.val I false)]⟩
def sout : Sig := ⟨[], [.one (.val .bool false)]⟩
noncomputable def G {β : Type} (S : Sl) (a0 : Int) (a1 : Int) (a2 : Int) (K : Bool → Option β) : Option β := bif (S.le a1 a0) then (K (S.le a0 a2)) else (K false)
noncomputable def o : Orac := ⟨39, sin, sout, fun s K => G sl0 s.2.1 s.2.2.1 s.2.2.2.1 (fun x0 => K ((), (x0, ())))⟩
noncomputable def C : Ctx := ⟨tyT, [], [], 15, 0⟩
theorem ctx : CtxOk Try.prog C := ⟨tyOk, all0⟩
theorem eG (β : Type) (s : sin.den) (K : sout.den → Option β) : evalFn C Try.f39 sin sout s K = o.F s K := by kernel_rfl
theorem ok : OracOk Try.prog o := fn_ok mixed Try.func39 (by kernel_rfl) ctx (c := bodyC Try.f39) (by kernel_rfl) (all0) (by kernel_rfl) (by kernel_rfl) (by kernel_rfl) (Nat.le_of_ble_eq_true (by kernel_rfl)) eG (by kernel_rfl) (Nat.le_of_ble_eq_true (by kernel_rfl))
end spec_l6In
end Go.Proofs.Ytjmboleiijhelaa.E
end
section
set_option linter.unusedVariables false
set_option linter.unusedSimpArgs false
namespace Go.Proofs.Ytjmboleiijhelaa.E
open Go Go.RowKit
set_option linter.unusedVariables false
set_option maxRecDepth 100000
namespace spec_l3By
def sin : Sig := ⟨[], [.one (.val (.sl (.sl I)) false), .one (.val (.sl I) false)]⟩
def sout : Sig := ⟨[], [.one (.val (.sl I) true), .one (.val .bool false)]⟩
def h17 : SS := ⟨[6, 9, 10, 11, 12], ⟨[.buf (.sl I) false], [.one (.ref (.own 0)), .one (.val (.sl I) false), .one (.val I false), .one (.val I false), .one (.val I false)]⟩⟩
def x17 : SS := ⟨[6, 9, 10, 11], ⟨[.buf (.sl I) false], [.one (.ref (.own 0)), .one (.val (.sl I) false), .one (.val I false), .one (.val I false)]⟩⟩
def y17 : SS := ⟨[], ⟨[], []⟩⟩
noncomputable def b17 {β : Type} (S : Sl) (L : (List (List Int)) → (List Int) → Int → Int → Int → Option β) (kx : (List (List Int)) → (List Int) → Int → Int → Option β) (kr : Option β) (s0 : (List (List Int))) (s1 : (List Int)) (s2 : Int) (s3 : Int) (s4 : Int) : Option β := bif (S.lt s4 (s0.length : Int)) then (bif (!S.eq s4 s3) then (bif (S.ir s4 s0.length) then (bif (S.ir s2 (List.getD s0 (Int.toNat s4) []).length) then (bif (!S.eq (List.getD (List.getD s0 (Int.toNat s4) []) (Int.toNat s2) 0) 0) then (bif (S.ir s4 s0.length) then (bif (S.ir s3 s0.length) then (spec_l3Less.G S (List.getD s0 (Int.toNat s4) []) (List.getD s0 (Int.toNat s3) []) (fun y1 => bif (S.ir s4 s0.length) then (L (List.set s0 (Int.toNat s4) y1) s1 s2 s3 (S.w (s4 + 1))) else (none))) else (none)) else (none)) else (L s0 s1 s2 s3 (S.w (s4 + 1)))) else (none)) else (none)) else (L s0 s1 s2 s3 (S.w (s4 + 1)))) else (kx s0 s1 s2 s3)
noncomputable def r17 {β : Type} (S : Sl) (n : Nat) (kx : x17.sig.den → Option β) (kr : y17.sig.den → Option β) (s : h17.sig.den) : Option β := rounds (fun L kx kr s => b17 S (fun x0 x1 x2 x3 x4 => L ((x0, ()), (x1, (x2, (x3, (x4, ())))))) (fun x0 x1 x2 x3 => kx ((x0, ()), (x1, (x2, (x3, ()))))) (kr ((), ())) s.1.1 s.2.1 s.2.2.1 s.2.2.2.1 s.2.2.2.2.1) kx kr n s
noncomputable def l17 {β : Type} (S : Sl) (n : Nat) (kx : (List (List Int)) → (List Int) → Int → Int → Option β) (kr : Option β) (s0 : (List (List Int))) (s1 : (List Int)) (s2 : Int) (s3 : Int) (s4 : Int) : Option β := r17 S n (fun s => kx s.1.1 s.2.1 s.2.2.1 s.2.2.2.1) (fun s => kr) ((s0, ()), (s1, (s2, (s3, (s4, ())))))
theorem t17 {β : Type} (S : Sl) (n : Nat) (kx : (List (List Int)) → (List Int) → Int → Int → Option β) (kr : Option β) (s0 : (List (List Int))) (s1 : (List Int)) (s2 : Int) (s3 : Int) (s4 : Int) : l17 S (n + 1) kx kr s0 s1 s2 s3 s4 = b17 S (l17 S n kx kr) kx kr s0 s1 s2 s3 s4 := by kernel_rfl
def h13 : SS := ⟨[6, 9, 10, 11], ⟨[.buf (.sl I) false], [.one (.ref (.own 0)), .one (.val (.sl I) false), .one (.val I false), .one (.val I false)]⟩⟩
def x13 : SS := ⟨[6, 9, 10], ⟨[.buf (.sl I) false], [.one (.ref (.own 0)), .one (.val (.sl I) false), .one (.val I false)]⟩⟩
def y13 : SS := ⟨[], ⟨[], []⟩⟩
noncomputable def b13 {β : Type} (S : Sl) (L : (List (List Int)) → (List Int) → Int → Int → Option β) (kx : (List (List Int)) → (List Int) → Int → Option β) (kr : Option β) (s0 : (List (List Int))) (s1 : (List Int)) (s2 : Int) (s3 : Int) : Option β := bif (S.lt s3 (s0.length : Int)) then (bif (S.ir s3 s0.length) then (spec_l2Lead.G S (List.getD s0 (Int.toNat s3) []) (fun y1 => bif (S.eq y1 s2) then (l17 S S.n (fun y2 y3 y4 y5 => bif (S.ir y5 y2.length) then (spec_l3Less.G S y3 (List.getD y2 (Int.toNat y5) []) (fun y6 => kx y2 y6 y4)) else (none)) none s0 s1 s2 s3 0) else (L s0 s1 s2 (S.w (s3 + 1))))) else (none)) else (kx s0 s1 s2)
noncomputable def r13 {β : Type} (S : Sl) (n : Nat) (kx : x13.sig.den → Option β) (kr : y13.sig.den → Option β) (s : h13.sig.den) : Option β := rounds (fun L kx kr s => b13 S (fun x0 x1 x2 x3 => L ((x0, ()), (x1, (x2, (x3, ()))))) (fun x0 x1 x2 => kx ((x0, ()), (x1, (x2, ())))) (kr ((), ())) s.1.1 s.2.1 s.2.2.1 s.2.2.2.1) kx kr n s
noncomputable def l13 {β : Type} (S : Sl) (n : Nat) (kx : (List (List Int)) → (List Int) → Int → Option β) (kr : Option β) (s0 : (List (List Int))) (s1 : (List Int)) (s2 : Int) (s3 : Int) : Option β := r13 S n (fun s => kx s.1.1 s.2.1 s.2.2.1) (fun s => kr) ((s0, ()), (s1, (s2, (s3, ()))))
theorem t13 {β : Type} (S : Sl) (n : Nat) (kx : (List (List Int)) → (List Int) → Int → Option β) (kr : Option β) (s0 : (List (List Int))) (s1 : (List Int)) (s2 : Int) (s3 : Int) : l13 S (n + 1) kx kr s0 s1 s2 s3 = b13 S (l13 S n kx kr) kx kr s0 s1 s2 s3 := by kernel_rfl
def h10 : SS := ⟨[6, 9, 10], ⟨[.buf (.sl I) false], [.one (.ref (.own 0)), .one (.val (.sl I) false), .one (.val I false)]⟩⟩
def x10 : SS := ⟨[9], ⟨[], [.one (.val (.sl I) false)]⟩⟩
def y10 : SS := ⟨[], ⟨[], []⟩⟩
noncomputable def b10 {β : Type} (S : Sl) (L : (List (List Int)) → (List Int) → Int → Option β) (kx : (List Int) → Option β) (kr : Option β) (s0 : (List (List Int))) (s1 : (List Int)) (s2 : Int) : Option β := bif (S.lt s2 4) then (l13 S S.n (fun y1 y2 y3 => L y1 y2 (S.w (y3 + 1))) none s0 s1 s2 0) else (kx s1)
noncomputable def r10 {β : Type} (S : Sl) (n : Nat) (kx : x10.sig.den → Option β) (kr : y10.sig.den → Option β) (s : h10.sig.den) : Option β := rounds (fun L kx kr s => b10 S (fun x0 x1 x2 => L ((x0, ()), (x1, (x2, ())))) (fun x0 => kx ((), (x0, ()))) (kr ((), ())) s.1.1 s.2.1 s.2.2.1) kx kr n s
noncomputable def l10 {β : Type} (S : Sl) (n : Nat) (kx : (List Int) → Option β) (kr : Option β) (s0 : (List (List Int))) (s1 : (List Int)) (s2 : Int) : Option β := r10 S n (fun s => kx s.2.1) (fun s => kr) ((s0, ()), (s1, (s2, ())))
theorem t10 {β : Type} (S : Sl) (n : Nat) (kx : (List Int) → Option β) (kr : Option β) (s0 : (List (List Int))) (s1 : (List Int)) (s2 : Int) : l10 S (n + 1) kx kr s0 s1 s2 = b10 S (l10 S n kx kr) kx kr s0 s1 s2 := by kernel_rfl
def h3 : SS := ⟨[0, 1, 6, 7], ⟨[.buf (.sl I) false], [.one (.val (.sl (.sl I)) false), .one (.val (.sl I) false), .one (.ref (.own 0)), .one (.val I false)]⟩⟩
def x3 : SS := ⟨[0, 1, 6], ⟨[.buf (.sl I) false], [.one (.val (.sl (.sl I)) false), .one (.val (.sl I) false), .one (.ref (.own 0))]⟩⟩
def y3 : SS := ⟨[], ⟨[], []⟩⟩
noncomputable def b3 {β : Type} (S : Sl) (L : (List (List Int)) → (List (List Int)) → (List Int) → Int → Option β) (kx : (List (List Int)) → (List (List Int)) → (List Int) → Option β) (kr : Option β) (s0 : (List (List Int))) (s1 : (List (List Int))) (s2 : (List Int)) (s3 : Int) : Option β := bif (S.lt s3 (s1.length : Int)) then (bif ((S.le 0 (s1.length : Int)) && (S.le (s1.length : Int) (s1.length : Int)) && S.fw (Int.toNat (s1.length : Int))) then (bif (S.ir s3 (List.replicate (Int.toNat (s1.length : Int)) (0 : Int)).length) then (bif (S.ir s3 s1.length) then (bif (S.fw ([] ++ (List.getD s1 (Int.toNat s3) [])).length) then (bif (S.fw (([] ++ (List.getD s1 (Int.toNat s3) [])) ++ (List.set (List.replicate (Int.toNat (s1.length : Int)) (0 : Int)) (Int.toNat s3) 1)).length) then (bif (S.fw (s0 ++ [(([] ++ (List.getD s1 (Int.toNat s3) [])) ++ (List.set (List.replicate (Int.toNat (s1.length : Int)) (0 : Int)) (Int.toNat s3) 1))]).length) then (L (s0 ++ [(([] ++ (List.getD s1 (Int.toNat s3) [])) ++ (List.set (List.replicate (Int.toNat (s1.length : Int)) (0 : Int)) (Int.toNat s3) 1))]) s1 s2 (S.w (s3 + 1))) else (none)) else (none)) else (none)) else (none)) else (none)) else (none)) else (kx s0 s1 s2)
noncomputable def r3 {β : Type} (S : Sl) (n : Nat) (kx : x3.sig.den → Option β) (kr : y3.sig.den → Option β) (s : h3.sig.den) : Option β := rounds (fun L kx kr s => b3 S (fun x0 x1 x2 x3 => L ((x0, ()), (x1, (x2, (x3, ()))))) (fun x0 x1 x2 => kx ((x0, ()), (x1, (x2, ())))) (kr ((), ())) s.1.1 s.2.1 s.2.2.1 s.2.2.2.1) kx kr n s
noncomputable def l3 {β : Type} (S : Sl) (n : Nat) (kx : (List (List Int)) → (List (List Int)) → (List Int) → Option β) (kr : Option β) (s0 : (List (List Int))) (s1 : (List (List Int))) (s2 : (List Int)) (s3 : Int) : Option β := r3 S n (fun s => kx s.1.1 s.2.1 s.2.2.1) (fun s => kr) ((s0, ()), (s1, (s2, (s3, ()))))
theorem t3 {β : Type} (S : Sl) (n : Nat) (kx : (List (List Int)) → (List (List Int)) → (List Int) → Option β) (kr : Option β) (s0 : (List (List Int))) (s1 : (List (List Int))) (s2 : (List Int)) (s3 : Int) : l3 S (n + 1) kx kr s0 s1 s2 s3 = b3 S (l3 S n kx kr) kx kr s0 s1 s2 s3 := by kernel_rfl
noncomputable def G {β : Type} (S : Sl) (a0 : (List (List Int))) (a1 : (List Int)) (K : (List Int) → Bool → Option β) : Option β := l3 S S.n (fun y1 y2 y3 => bif (S.fw ([] ++ y3).length) then (bif ((S.le 0 (y2.length : Int)) && S.fw (([] ++ y3) ++ (List.replicate (Int.toNat (y2.length : Int)) (0 : Int))).length) then (l10 S S.n (fun y4 => spec_l2Lead.G S y4 (fun y5 => spec_l6In.G S y5 0 3 (fun y6 => bif y6 then (K [] false) else (bif ((S.le 0 4) && (S.le 4 (y4.length : Int)) && (S.le (y4.length : Int) (y4.length : Int)) && (S.le (y4.length : Int) (y4.length : Int))) then (spec_l2Scale.G S (cutL y4 (Int.toNat 4) (Int.toNat (y4.length : Int))) 30 (fun y7 => K y7 true)) else (none))))) none y1 (([] ++ y3) ++ (List.replicate (Int.toNat (y2.length : Int)) (0 : Int))) 0) else (none)) else (none)) none [] a0 a1 0
noncomputable def o : Orac := ⟨88, sin, sout, fun s K => G sl0 s.2.1 s.2.2.1 (fun x0 x1 => K ((), (x0, (x1, ()))))⟩
noncomputable def C : Ctx := ⟨tyT, [spec_l2Lead.o, spec_l2Scale.o, spec_l3Less.o, spec_l6In.o], [⟨3, 0, h3, x3, y3, fun s kx kr => r3 sl0 sl0.n kx kr s⟩, ⟨10, 2, h10, x10, y10, fun s kx kr => r10 sl0 sl0.n kx kr s⟩, ⟨13, 4, h13, x13, y13, fun s kx kr => r13 sl0 sl0.n kx kr s⟩, ⟨17, 6, h17, x17, y17, fun s kx kr => r17 sl0 sl0.n kx kr s⟩], 104, 0⟩
theorem ctx : CtxOk Try.prog C := ⟨tyOk, all1 spec_l2Lead.ok (all1 spec_l2Scale.ok (all1 spec_l3Less.ok (all1 spec_l6In.ok (all0))))⟩
theorem e17 (β : Type) (L : h17.sig.den → Option β) (kx : x17.sig.den → Option β) (kr : y17.sig.den → Option β) (s : h17.sig.den) : evalBody C (nthC (loopsOf (bodyC Try.f88)) 3) 6 h17 x17 y17 L kx kr s = b17 sl0 (fun x0 x1 x2 x3 x4 => L ((x0, ()), (x1, (x2, (x3, (x4, ())))))) (fun x0 x1 x2 x3 => kx ((x0, ()), (x1, (x2, (x3, ()))))) (kr ((), ())) s.1.1 s.2.1 s.2.2.1 s.2.2.2.1 s.2.2.2.2.1 := by kernel_rfl
theorem g17 : LS Try.prog C ⟨17, 6, h17, x17, y17, fun s kx kr => r17 sl0 sl0.n kx kr s⟩ (loopsOf (bodyC Try.f88)) := LS.at (i := 3) (by kernel_rfl) (loop_good mixed ctx (ctx_nat ctx) (N := sl0.n) (fun _ _ _ _ => rfl) e17 (all1 (LS.none (by kernel_rfl)) (all1 (LS.none (by kernel_rfl)) (all1 (LS.none (by kernel_rfl)) (all1 (LS.none (by kernel_rfl)) (all0))))))
theorem e13 (β : Type) (L : h13.sig.den → Option β) (kx : x13.sig.den → Option β) (kr : y13.sig.den → Option β) (s : h13.sig.den) : evalBody C (nthC (loopsOf (bodyC Try.f88)) 2) 4 h13 x13 y13 L kx kr s = b13 sl0 (fun x0 x1 x2 x3 => L ((x0, ()), (x1, (x2, (x3, ()))))) (fun x0 x1 x2 => kx ((x0, ()), (x1, (x2, ())))) (kr ((), ())) s.1.1 s.2.1 s.2.2.1 s.2.2.2.1 := by kernel_rfl
theorem g13 : LS Try.prog C ⟨13, 4, h13, x13, y13, fun s kx kr => r13 sl0 sl0.n kx kr s⟩ (loopsOf (bodyC Try.f88)) := LS.at (i := 2) (by kernel_rfl) (loop_good mixed ctx (ctx_nat ctx) (N := sl0.n) (fun _ _ _ _ => rfl) e13 (all1 (LS.none (by kernel_rfl)) (all1 (LS.none (by kernel_rfl)) (all1 (LS.none (by kernel_rfl)) (all1 (g17.sub (nthC_mem (by kernel_rfl))) (all0))))))
theorem e10 (β : Type) (L : h10.sig.den → Option β) (kx : x10.sig.den → Option β) (kr : y10.sig.den → Option β) (s : h10.sig.den) : evalBody C (nthC (loopsOf (bodyC Try.f88)) 1) 2 h10 x10 y10 L kx kr s = b10 sl0 (fun x0 x1 x2 => L ((x0, ()), (x1, (x2, ())))) (fun x0 => kx ((), (x0, ()))) (kr ((), ())) s.1.1 s.2.1 s.2.2.1 := by kernel_rfl
theorem g10 : LS Try.prog C ⟨10, 2, h10, x10, y10, fun s kx kr => r10 sl0 sl0.n kx kr s⟩ (loopsOf (bodyC Try.f88)) := LS.at (i := 1) (by kernel_rfl) (loop_good mixed ctx (ctx_nat ctx) (N := sl0.n) (fun _ _ _ _ => rfl) e10 (all1 (LS.none (by kernel_rfl)) (all1 (LS.none (by kernel_rfl)) (all1 (g13.sub (nthC_mem (by kernel_rfl))) (all1 (g17.sub (nthC_mem (by kernel_rfl))) (all0))))))
theorem e3 (β : Type) (L : h3.sig.den → Option β) (kx : x3.sig.den → Option β) (kr : y3.sig.den → Option β) (s : h3.sig.den) : evalBody C (nthC (loopsOf (bodyC Try.f88)) 0) 0 h3 x3 y3 L kx kr s = b3 sl0 (fun x0 x1 x2 x3 => L ((x0, ()), (x1, (x2, (x3, ()))))) (fun x0 x1 x2 => kx ((x0, ()), (x1, (x2, ())))) (kr ((), ())) s.1.1 s.2.1 s.2.2.1 s.2.2.2.1 := by kernel_rfl
theorem g3 : LS Try.prog C ⟨3, 0, h3, x3, y3, fun s kx kr => r3 sl0 sl0.n kx kr s⟩ (loopsOf (bodyC Try.f88)) := LS.at (i := 0) (by kernel_rfl) (loop_good mixed ctx (ctx_nat ctx) (N := sl0.n) (fun _ _ _ _ => rfl) e3 (all1 (LS.none (by kernel_rfl)) (all1 (LS.none (by kernel_rfl)) (all1 (LS.none (by kernel_rfl)) (all1 (LS.none (by kernel_rfl)) (all0))))))
theorem eG (β : Type) (s : sin.den) (K : sout.den → Option β) : evalFn C Try.f88 sin sout s K = o.F s K := by kernel_rfl
theorem ok : OracOk Try.prog o := fn_ok mixed Try.func88 (by kernel_rfl) ctx (c := bodyC Try.f88) (by kernel_rfl) (all1 g3 (all1 g10 (all1 g13 (all1 g17 (all0))))) (by kernel_rfl) (by kernel_rfl) (by kernel_rfl) (Nat.le_of_ble_eq_true (by kernel_rfl)) eG (by kernel_rfl) (Nat.le_of_ble_eq_true (by kernel_rfl))
end spec_l3By
end Go.Proofs.Ytjmboleiijhelaa.E
end
section
set_option linter.unusedVariables false
set_option linter.unusedSimpArgs false
namespace Go.Proofs.Ytjmboleiijhelaa.E
open Go Go.RowKit
set_option linter.unusedVariables false
set_option maxRecDepth 100000
namespace spec_l3Add
def sin : Sig := ⟨[], [.one (.val (.sl (.sl I)) false), .one (.val (.sl I) false)]⟩
def sout : Sig := ⟨[], [.one (.val (.sl (.sl I)) false)]⟩
def h12 : SS := ⟨[0, 1, 6, 7, 8, 9], ⟨[.buf (.sl I) true], [.one (.val (.sl (.sl I)) false), .one (.val (.sl I) true), .one (.val I false), .one (.ref (.own 0)), .one (.val .bool false), .one (.val I false)]⟩⟩
def x12 : SS := ⟨[1, 7, 8], ⟨[.buf (.sl I) true], [.one (.val (.sl I) true), .one (.ref (.own 0)), .one (.val .bool false)]⟩⟩
def y12 : SS := ⟨[], ⟨[], []⟩⟩
noncomputable def b12 {β : Type} (S : Sl) (L : (List (List Int)) → (List (List Int)) → (List Int) → Int → Bool → Int → Option β) (kx : (List (List Int)) → (List Int) → Bool → Option β) (kr : Option β) (s0 : (List (List Int))) (s1 : (List (List Int))) (s2 : (List Int)) (s3 : Int) (s4 : Bool) (s5 : Int) : Option β := bif (S.lt s5 (s1.length : Int)) then (bif (!s4) then (bif (S.ir s5 s1.length) then (spec_l2Lead.G S (List.getD s1 (Int.toNat s5) []) (fun y1 => bif (S.lt s3 y1) then (bif (S.fw (s0 ++ [s2]).length) then (bif (S.ir s5 s1.length) then (spec_l3Less.G S (List.getD s1 (Int.toNat s5) []) s2 (fun y2 => bif (S.fw ((s0 ++ [s2]) ++ [y2]).length) then (L ((s0 ++ [s2]) ++ [y2]) s1 s2 s3 true (S.w (s5 + 1))) else (none))) else (none)) else (none)) else (bif (S.ir s5 s1.length) then (spec_l3Less.G S (List.getD s1 (Int.toNat s5) []) s2 (fun y3 => bif (S.fw (s0 ++ [y3]).length) then (L (s0 ++ [y3]) s1 s2 s3 s4 (S.w (s5 + 1))) else (none))) else (none)))) else (none)) else (bif (S.ir s5 s1.length) then (spec_l3Less.G S (List.getD s1 (Int.toNat s5) []) s2 (fun y4 => bif (S.fw (s0 ++ [y4]).length) then (L (s0 ++ [y4]) s1 s2 s3 s4 (S.w (s5 + 1))) else (none))) else (none))) else (kx s0 s2 s4)
noncomputable def r12 {β : Type} (S : Sl) (n : Nat) (kx : x12.sig.den → Option β) (kr : y12.sig.den → Option β) (s : h12.sig.den) : Option β := rounds (fun L kx kr s => b12 S (fun x0 x1 x2 x3 x4 x5 => L ((x0, ()), (x1, (x2, (x3, (x4, (x5, ()))))))) (fun x0 x1 x2 => kx ((x0, ()), (x1, (x2, ())))) (kr ((), ())) s.1.1 s.2.1 s.2.2.1 s.2.2.2.1 s.2.2.2.2.1 s.2.2.2.2.2.1) kx kr n s
noncomputable def l12 {β : Type} (S : Sl) (n : Nat) (kx : (List (List Int)) → (List Int) → Bool → Option β) (kr : Option β) (s0 : (List (List Int))) (s1 : (List (List Int))) (s2 : (List Int)) (s3 : Int) (s4 : Bool) (s5 : Int) : Option β := r12 S n (fun s => kx s.1.1 s.2.1 s.2.2.1) (fun s => kr) ((s0, ()), (s1, (s2, (s3, (s4, (s5, ()))))))
theorem t12 {β : Type} (S : Sl) (n : Nat) (kx : (List (List Int)) → (List Int) → Bool → Option β) (kr : Option β) (s0 : (List (List Int))) (s1 : (List (List Int))) (s2 : (List Int)) (s3 : Int) (s4 : Bool) (s5 : Int) : l12 S (n + 1) kx kr s0 s1 s2 s3 s4 s5 = b12 S (l12 S n kx kr) kx kr s0 s1 s2 s3 s4 s5 := by kernel_rfl
def h2 : SS := ⟨[0, 1, 5], ⟨[], [.one (.val (.sl (.sl I)) false), .one (.val (.sl I) false), .one (.val I false)]⟩⟩
def x2 : SS := ⟨[0, 1], ⟨[], [.one (.val (.sl (.sl I)) false), .one (.val (.sl I) false)]⟩⟩
def y2 : SS := ⟨[], ⟨[], []⟩⟩
noncomputable def b2 {β : Type} (S : Sl) (L : (List (List Int)) → (List Int) → Int → Option β) (kx : (List (List Int)) → (List Int) → Option β) (kr : Option β) (s0 : (List (List Int))) (s1 : (List Int)) (s2 : Int) : Option β := bif (S.lt s2 (s0.length : Int)) then (bif (S.ir s2 s0.length) then (spec_l3Less.G S s1 (List.getD s0 (Int.toNat s2) []) (fun y1 => L s0 y1 (S.w (s2 + 1)))) else (none)) else (kx s0 s1)
noncomputable def r2 {β : Type} (S : Sl) (n : Nat) (kx : x2.sig.den → Option β) (kr : y2.sig.den → Option β) (s : h2.sig.den) : Option β := rounds (fun L kx kr s => b2 S (fun x0 x1 x2 => L ((), (x0, (x1, (x2, ()))))) (fun x0 x1 => kx ((), (x0, (x1, ())))) (kr ((), ())) s.2.1 s.2.2.1 s.2.2.2.1) kx kr n s
noncomputable def l2 {β : Type} (S : Sl) (n : Nat) (kx : (List (List Int)) → (List Int) → Option β) (kr : Option β) (s0 : (List (List Int))) (s1 : (List Int)) (s2 : Int) : Option β := r2 S n (fun s => kx s.2.1 s.2.2.1) (fun s => kr) ((), (s0, (s1, (s2, ()))))
theorem t2 {β : Type} (S : Sl) (n : Nat) (kx : (List (List Int)) → (List Int) → Option β) (kr : Option β) (s0 : (List (List Int))) (s1 : (List Int)) (s2 : Int) : l2 S (n + 1) kx kr s0 s1 s2 = b2 S (l2 S n kx kr) kx kr s0 s1 s2 := by kernel_rfl
noncomputable def G {β : Type} (S : Sl) (a0 : (List (List Int))) (a1 : (List Int)) (K : (List (List Int)) → Option β) : Option β := l2 S S.n (fun y1 y2 => spec_l2Lead.G S y2 (fun y3 => bif (S.lt y3 0) then (K y1) else (bif (S.ir y3 y2.length) then (spec_l1Inv.G S (List.getD y2 (Int.toNat y3) 0) (fun y4 => spec_l2Scale.G S y2 y4 (fun y5 => l12 S S.n (fun y6 y7 y8 => bif (!y8) then (bif (S.fw (y6 ++ [y7]).length) then (K (y6 ++ [y7])) else (none)) else (K y6)) none [] y1 y5 y3 false 0))) else (none)))) none a0 a1 0
noncomputable def o : Orac := ⟨103, sin, sout, fun s K => G sl0 s.2.1 s.2.2.1 (fun x0 => K ((), (x0, ())))⟩
noncomputable def C : Ctx := ⟨tyT, [spec_l1Inv.o, spec_l2Lead.o, spec_l2Scale.o, spec_l3Less.o], [⟨2, 0, h2, x2, y2, fun s kx kr => r2 sl0 sl0.n kx kr s⟩, ⟨12, 2, h12, x12, y12, fun s kx kr => r12 sl0 sl0.n kx kr s⟩], 72, 0⟩
theorem ctx : CtxOk Try.prog C := ⟨tyOk, all1 spec_l1Inv.ok (all1 spec_l2Lead.ok (all1 spec_l2Scale.ok (all1 spec_l3Less.ok (all0))))⟩
theorem e12 (β : Type) (L : h12.sig.den → Option β) (kx : x12.sig.den → Option β) (kr : y12.sig.den → Option β) (s : h12.sig.den) : evalBody C (nthC (loopsOf (bodyC Try.f103)) 1) 2 h12 x12 y12 L kx kr s = b12 sl0 (fun x0 x1 x2 x3 x4 x5 => L ((x0, ()), (x1, (x2, (x3, (x4, (x5, ()))))))) (fun x0 x1 x2 => kx ((x0, ()), (x1, (x2, ())))) (kr ((), ())) s.1.1 s.2.1 s.2.2.1 s.2.2.2.1 s.2.2.2.2.1 s.2.2.2.2.2.1 := by kernel_rfl
theorem g12 : LS Try.prog C ⟨12, 2, h12, x12, y12, fun s kx kr => r12 sl0 sl0.n kx kr s⟩ (loopsOf (bodyC Try.f103)) := LS.at (i := 1) (by kernel_rfl) (loop_good mixed ctx (ctx_nat ctx) (N := sl0.n) (fun _ _ _ _ => rfl) e12 (all1 (LS.none (by kernel_rfl)) (all1 (LS.none (by kernel_rfl)) (all0))))
theorem e2 (β : Type) (L : h2.sig.den → Option β) (kx : x2.sig.den → Option β) (kr : y2.sig.den → Option β) (s : h2.sig.den) : evalBody C (nthC (loopsOf (bodyC Try.f103)) 0) 0 h2 x2 y2 L kx kr s = b2 sl0 (fun x0 x1 x2 => L ((), (x0, (x1, (x2, ()))))) (fun x0 x1 => kx ((), (x0, (x1, ())))) (kr ((), ())) s.2.1 s.2.2.1 s.2.2.2.1 := by kernel_rfl
theorem g2 : LS Try.prog C ⟨2, 0, h2, x2, y2, fun s kx kr => r2 sl0 sl0.n kx kr s⟩ (loopsOf (bodyC Try.f103)) := LS.at (i := 0) (by kernel_rfl) (loop_good mixed ctx (ctx_nat ctx) (N := sl0.n) (fun _ _ _ _ => rfl) e2 (all1 (LS.none (by kernel_rfl)) (all1 (LS.none (by kernel_rfl)) (all0))))
theorem eG (β : Type) (s : sin.den) (K : sout.den → Option β) : evalFn C Try.f103 sin sout s K = o.F s K := by kernel_rfl
theorem ok : OracOk Try.prog o := fn_ok mixed Try.func103 (by kernel_rfl) ctx (c := bodyC Try.f103) (by kernel_rfl) (all1 g2 (all1 g12 (all0))) (by kernel_rfl) (by kernel_rfl) (by kernel_rfl) (Nat.le_of_ble_eq_true (by kernel_rfl)) eG (by kernel_rfl) (Nat.le_of_ble_eq_true (by kernel_rfl))
end spec_l3Add
end Go.Proofs.Ytjmboleiijhelaa.E
end
section
set_option linter.unusedVariables false
set_option linter.unusedSimpArgs false
namespace Go.Proofs.Ytjmboleiijhelaa.E
open Go Go.RowKit
set_option linter.unusedVariables false
set_option maxRecDepth 100000
namespace spec_l3Tidy
def sin : Sig := ⟨[], [.one (.val (.sl (.sl I)) false)]⟩
def sout : Sig := ⟨[], [.one (.val (.sl (.sl I)) false)]⟩
def h3 : SS := ⟨[0, 3, 4], ⟨[], [.one (.val (.sl (.sl I)) false), .one (.val (.sl (.sl I)) false), .one (.val I false)]⟩⟩
def x3 : SS := ⟨[3], ⟨[], [.one (.val (.sl (.sl I)) false)]⟩⟩
def y3 : SS := ⟨[], ⟨[], []⟩⟩
noncomputable def b3 {β : Type} (S : Sl) (L : (List (List Int)) → (List (List Int)) → Int → Option β) (kx : (List (List Int)) → Option β) (kr : Option β) (s0 : (List (List Int))) (s1 : (List (List Int))) (s2 : Int) : Option β := bif (S.lt s2 (s0.length : Int)) then (bif (S.ir s2 s0.length) then (spec_l3Add.G S s1 (List.getD s0 (Int.toNat s2) []) (fun y1 => L s0 y1 (S.w (s2 + 1)))) else (none)) else (kx s1)
noncomputable def r3 {β : Type} (S : Sl) (n : Nat) (kx : x3.sig.den → Option β) (kr : y3.sig.den → Option β) (s : h3.sig.den) : Option β := rounds (fun L kx kr s => b3 S (fun x0 x1 x2 => L ((), (x0, (x1, (x2, ()))))) (fun x0 => kx ((), (x0, ()))) (kr ((), ())) s.2.1 s.2.2.1 s.2.2.2.1) kx kr n s
noncomputable def l3 {β : Type} (S : Sl) (n : Nat) (kx : (List (List Int)) → Option β) (kr : Option β) (s0 : (List (List Int))) (s1 : (List (List Int))) (s2 : Int) : Option β := r3 S n (fun s => kx s.2.1) (fun s => kr) ((), (s0, (s1, (s2, ()))))
theorem t3 {β : Type} (S : Sl) (n : Nat) (kx : (List (List Int)) → Option β) (kr : Option β) (s0 : (List (List Int))) (s1 : (List (List Int))) (s2 : Int) : l3 S (n + 1) kx kr s0 s1 s2 = b3 S (l3 S n kx kr) kx kr s0 s1 s2 := by kernel_rfl
noncomputable def G {β : Type} (S : Sl) (a0 : (List (List Int))) (K : (List (List Int)) → Option β) : Option β := l3 S S.n (fun y1 => K y1) none a0 [] 0
noncomputable def o : Orac := ⟨102, sin, sout, fun s K => G sl0 s.2.1 (fun x0 => K ((), (x0, ())))⟩
noncomputable def C : Ctx := ⟨tyT, [spec_l3Add.o], [⟨3, 0, h3, x3, y3, fun s kx kr => r3 sl0 sl0.n kx kr s⟩], 19, 0⟩
theorem ctx : CtxOk Try.prog C := ⟨tyOk, all1 spec_l3Add.ok (all0)⟩
theorem e3 (β : Type) (L : h3.sig.den → Option β) (kx : x3.sig.den → Option β) (kr : y3.sig.den → Option β) (s : h3.sig.den) : evalBody C (nthC (loopsOf (bodyC Try.f102)) 0) 0 h3 x3 y3 L kx kr s = b3 sl0 (fun x0 x1 x2 => L ((), (x0, (x1, (x2, ()))))) (fun x0 => kx ((), (x0, ()))) (kr ((), ())) s.2.1 s.2.2.1 s.2.2.2.1 := by kernel_rfl
theorem g3 : LS Try.prog C ⟨3, 0, h3, x3, y3, fun s kx kr => r3 sl0 sl0.n kx kr s⟩ (loopsOf (bodyC Try.f102)) := LS.at (i := 0) (by kernel_rfl) (loop_good mixed ctx (ctx_nat ctx) (N := sl0.n) (fun _ _ _ _ => rfl) e3 (all1 (LS.none (by kernel_rfl)) (all0)))
theorem eG (β : Type) (s : sin.den) (K : sout.den → Option β) : evalFn C Try.f102 sin sout s K = o.F s K := by kernel_rfl
theorem ok : OracOk Try.prog o := fn_ok mixed Try.func102 (by kernel_rfl) ctx (c := bodyC Try.f102) (by kernel_rfl) (all1 g3 (all0)) (by kernel_rfl) (by kernel_rfl) (by kernel_rfl) (Nat.le_of_ble_eq_true (by kernel_rfl)) eG (by kernel_rfl) (Nat.le_of_ble_eq_true (by kernel_rfl))
end spec_l3Tidy
end Go.Proofs.Ytjmboleiijhelaa.E
end
section
set_option linter.unusedVariables false
set_option linter.unusedSimpArgs false
namespace Go.Proofs.Ytjmboleiijhelaa.E
open Go Go.RowKit
set_option linter.unusedVariables false
set_option maxRecDepth 100000
namespace spec_l3Has
def sin : Sig := ⟨[], [.one (.val (.sl (.sl I)) false), .one (.val (.sl I) false)]⟩
def sout : Sig := ⟨[], [.one (.val .bool false)]⟩
noncomputable def G {β : Type} (S : Sl) (a0 : (List (List Int))) (a1 : (List Int)) (K : Bool → Option β) : Option β := spec_l3Tidy.G S a0 (fun y1 => spec_l3Add.G S y1 a1 (fun y2 => K (S.eq (y2.length : Int) (y1.length : Int))))
noncomputable def o : Orac := ⟨87, sin, sout, fun s K => G sl0 s.2.1 s.2.2.1 (fun x0 => K ((), (x0, ())))⟩
noncomputable def C : Ctx := ⟨tyT, [spec_l3Add.o, spec_l3Tidy.o], [], 15, 0⟩
theorem ctx : CtxOk Try.prog C := ⟨tyOk, all1 spec_l3Add.ok (all1 spec_l3Tidy.ok (all0))⟩
theorem eG (β : Type) (s : sin.den) (K : sout.den → Option β) : evalFn C Try.f87 sin sout s K = o.F s K := by kernel_rfl
theorem ok : OracOk Try.prog o := fn_ok mixed Try.func87 (by kernel_rfl) ctx (c := bodyC Try.f87) (by kernel_rfl) (all0) (by kernel_rfl) (by kernel_rfl) (by kernel_rfl) (Nat.le_of_ble_eq_true (by kernel_rfl)) eG (by kernel_rfl) (Nat.le_of_ble_eq_true (by kernel_rfl))
end spec_l3Has
end Go.Proofs.Ytjmboleiijhelaa.E
end
section
set_option linter.unusedVariables false
set_option linter.unusedSimpArgs false
namespace Go.Proofs.Ytjmboleiijhelaa.E
open Go Go.RowKit
set_option linter.unusedVariables false
set_option maxRecDepth 100000
namespace spec_l4Row
def sin : Sig := ⟨[], [.one (.val I false), .one (.val I false)]⟩
def sout : Sig := ⟨[], [.one (.val (.sl I) false)]⟩
noncomputable def G {β : Type} (S : Sl) (a0 : Int) (a1 : Int) (K : (List Int) → Option β) : Option β := bif (S.eq a0 1) then (bif (S.ir a1 [[1, 0, 0, 0], [0, 1, 0, 0], [0, 0, 1, 0], [0, 0, 0, 1], [1, 1, 0, 0], [0, 0, 1, 1], [1, 2, 4, 8], [1, 3, 9, 27]].length) then (K (List.getD [[1, 0, 0, 0], [0, 1, 0, 0], [0, 0, 1, 0], [0, 0, 0, 1], [1, 1, 0, 0], [0, 0, 1, 1], [1, 2, 4, 8], [1, 3, 9, 27]] (Int.toNat a1) [])) else (none)) else (K [1, (S.w (a1 + 1)), (Int.tmod (S.w ((S.w (a1 + 1)) * (S.w (a1 + 1)))) 31), (Int.tmod (S.w ((S.w ((S.w (a1 + 1)) * (S.w (a1 + 1)))) * (S.w (a1 + 1)))) 31)])
noncomputable def o : Orac := ⟨86, sin, sout, fun s K => G sl0 s.2.1 s.2.2.1 (fun x0 => K ((), (x0, ())))⟩
noncomputable def C : Ctx := ⟨tyT, [], [], 34, 0⟩
theorem ctx : CtxOk Try.prog C := ⟨tyOk, all0⟩
theorem eG (β : Type) (s : sin.den) (K : sout.den → Option β) : evalFn C Try.f86 sin sout s K = o.F s K := by kernel_rfl
theorem ok : OracOk Try.prog o := fn_ok mixed Try.func86 (by kernel_rfl) ctx (c := bodyC Try.f86) (by kernel_rfl) (all0) (by kernel_rfl) (by kernel_rfl) (by kernel_rfl) (Nat.le_of_ble_eq_true (by kernel_rfl)) eG (by kernel_rfl) (Nat.le_of_ble_eq_true (by kernel_rfl))
end spec_l4Row
end Go.Proofs.Ytjmboleiijhelaa.E
end
section
set_option linter.unusedVariables false
set_option linter.unusedSimpArgs false
namespace Go.Proofs.Ytjmboleiijhelaa.E
open Go Go.RowKit
set_option linter.unusedVariables false
set_option maxRecDepth 100000
namespace spec_l4Fits
def sin : Sig := ⟨[], [.one (.val I false), .one (.val (.sl I) false), .one (.val (.sl .bool) false)]⟩
def sout : Sig := ⟨[], [.one (.val .bool false)]⟩
def h12 : SS := ⟨[0, 1, 2, 7, 8, 9, 11, 13, 14], ⟨[.buf (.sl I) false, .buf I false], [.one (.val I false), .one (.val (.sl I) false), .one (.val (.sl .bool) false), .one (.ref (.own 0)), .one (.ref (.own 1)), .one (.val I false), .one (.val (.sl I) true), .one (.val I false), .one (.val I false)]⟩⟩
def x12 : SS := ⟨[0, 1, 2, 7, 8, 9, 13], ⟨[.buf (.sl I) false, .buf I false], [.one (.val I false), .one (.val (.sl I) false), .one (.val (.sl .bool) false), .one (.ref (.own 0)), .one (.ref (.own 1)), .one (.val I false), .one (.val I false)]⟩⟩
def y12 : SS := ⟨[], ⟨[], []⟩⟩
noncomputable def b12 {β : Type} (S : Sl) (L : (List (List Int)) → (List Int) → Int → (List Int) → (List Bool) → Int → (List Int) → Int → Int → Option β) (kx : (List (List Int)) → (List Int) → Int → (List Int) → (List Bool) → Int → Int → Option β) (kr : Option β) (s0 : (List (List Int))) (s1 : (List Int)) (s2 : Int) (s3 : (List Int)) (s4 : (List Bool)) (s5 : Int) (s6 : (List Int)) (s7 : Int) (s8 : Int) : Option β := bif (S.lt s8 (s6.length : Int)) then (bif (S.ir s8 s6.length) then (bif (S.ir s8 s1.length) then (L s0 s1 s2 s3 s4 s5 s6 (Int.tmod (S.w (s7 + (S.w ((List.getD s6 (Int.toNat s8) 0) * (List.getD s1 (Int.toNat s8) 0))))) 31) (S.w (s8 + 1))) else (none)) else (none)) else (kx s0 s1 s2 s3 s4 s5 s7)
noncomputable def r12 {β : Type} (S : Sl) (n : Nat) (kx : x12.sig.den → Option β) (kr : y12.sig.den → Option β) (s : h12.sig.den) : Option β := rounds (fun L kx kr s => b12 S (fun x0 x1 x2 x3 x4 x5 x6 x7 x8 => L ((x0, (x1, ())), (x2, (x3, (x4, (x5, (x6, (x7, (x8, ()))))))))) (fun x0 x1 x2 x3 x4 x5 x6 => kx ((x0, (x1, ())), (x2, (x3, (x4, (x5, (x6, ()))))))) (kr ((), ())) s.1.1 s.1.2.1 s.2.1 s.2.2.1 s.2.2.2.1 s.2.2.2.2.1 s.2.2.2.2.2.1 s.2.2.2.2.2.2.1 s.2.2.2.2.2.2.2.1) kx kr n s
noncomputable def l12 {β : Type} (S : Sl) (n : Nat) (kx : (List (List Int)) → (List Int) → Int → (List Int) → (List Bool) → Int → Int → Option β) (kr : Option β) (s0 : (List (List Int))) (s1 : (List Int)) (s2 : Int) (s3 : (List Int)) (s4 : (List Bool)) (s5 : Int) (s6 : (List Int)) (s7 : Int) (s8 : Int) : Option β := r12 S n (fun s => kx s.1.1 s.1.2.1 s.2.1 s.2.2.1 s.2.2.2.1 s.2.2.2.2.1 s.2.2.2.2.2.1) (fun s => kr) ((s0, (s1, ())), (s2, (s3, (s4, (s5, (s6, (s7, (s8, ()))))))))
theorem t12 {β : Type} (S : Sl) (n : Nat) (kx : (List (List Int)) → (List Int) → Int → (List Int) → (List Bool) → Int → Int → Option β) (kr : Option β) (s0 : (List (List Int))) (s1 : (List Int)) (s2 : Int) (s3 : (List Int)) (s4 : (List Bool)) (s5 : Int) (s6 : (List Int)) (s7 : Int) (s8 : Int) : l12 S (n + 1) kx kr s0 s1 s2 s3 s4 s5 s6 s7 s8 = b12 S (l12 S n kx kr) kx kr s0 s1 s2 s3 s4 s5 s6 s7 s8 := by kernel_rfl
def h4 : SS := ⟨[0, 1, 2, 7, 8, 9], ⟨[.buf (.sl I) false, .buf I false], [.one (.val I false), .one (.val (.sl I) false), .one (.val (.sl .bool) false), .one (.ref (.own 0)), .one (.ref (.own 1)), .one (.val I false)]⟩⟩
def x4 : SS := ⟨[], ⟨[], []⟩⟩
def y4 : SS := ⟨[6], ⟨[], [.one (.val .bool false)]⟩⟩
noncomputable def b4 {β : Type} (S : Sl) (L : (List (List Int)) → (List Int) → Int → (List Int) → (List Bool) → Int → Option β) (kx : Option β) (kr : Bool → Option β) (s0 : (List (List Int))) (s1 : (List Int)) (s2 : Int) (s3 : (List Int)) (s4 : (List Bool)) (s5 : Int) : Option β := bif (S.lt s5 8) then (bif (S.ir s5 s4.length) then (bif (!(List.getD s4 (Int.toNat s5) false)) then (L s0 s1 s2 s3 s4 (S.w (s5 + 1))) else (spec_l4Row.G S s2 s5 (fun y1 => spec_l3Has.G S s0 y1 (fun y2 => bif y2 then (spec_l3By.G S s0 y1 (fun y3 y4 => l12 S S.n (fun y5 y6 y7 y8 y9 y10 y11 => bif (S.ir y10 y8.length) then (bif (!S.eq y11 (List.getD y8 (Int.toNat y10) 0)) then (kr false) else (L y5 y6 y7 y8 y9 (S.w (y10 + 1)))) else (none)) none s0 s1 s2 s3 s4 s5 y3 0 0)) else (bif (S.fw (s0 ++ [y1]).length) then (bif (S.ir s5 s3.length) then (bif (S.fw (s1 ++ [(List.getD s3 (Int.toNat s5) 0)]).length) then (L (s0 ++ [y1]) (s1 ++ [(List.getD s3 (Int.toNat s5) 0)]) s2 s3 s4 (S.w (s5 + 1))) else (none)) else (none)) else (none)))))) else (none)) else (kx)
noncomputable def r4 {β : Type} (S : Sl) (n : Nat) (kx : x4.sig.den → Option β) (kr : y4.sig.den → Option β) (s : h4.sig.den) : Option β := rounds (fun L kx kr s => b4 S (fun x0 x1 x2 x3 x4 x5 => L ((x0, (x1, ())), (x2, (x3, (x4, (x5, ())))))) (kx ((), ())) (fun x0 => kr ((), (x0, ()))) s.1.1 s.1.2.1 s.2.1 s.2.2.1 s.2.2.2.1 s.2.2.2.2.1) kx kr n s
noncomputable def l4 {β : Type} (S : Sl) (n : Nat) (kx : Option β) (kr : Bool → Option β) (s0 : (List (List Int))) (s1 : (List Int)) (s2 : Int) (s3 : (List Int)) (s4 : (List Bool)) (s5 : Int) : Option β := r4 S n (fun s => kx) (fun s => kr s.2.1) ((s0, (s1, ())), (s2, (s3, (s4, (s5, ())))))
theorem t4 {β : Type} (S : Sl) (n : Nat) (kx : Option β) (kr : Bool → Option β) (s0 : (List (List Int))) (s1 : (List Int)) (s2 : Int) (s3 : (List Int)) (s4 : (List Bool)) (s5 : Int) : l4 S (n + 1) kx kr s0 s1 s2 s3 s4 s5 = b4 S (l4 S n kx kr) kx kr s0 s1 s2 s3 s4 s5 := by kernel_rfl
noncomputable def G {β : Type} (S : Sl) (a0 : Int) (a1 : (List Int)) (a2 : (List Bool)) (K : Bool → Option β) : Option β := l4 S S.n (K true) (fun y1 => K y1) [] [] a0 a1 a2 0
noncomputable def o : Orac := ⟨65, sin, sout, fun s K => G sl0 s.2.1 s.2.2.1 s.2.2.2.1 (fun x0 => K ((), (x0, ())))⟩
noncomputable def C : Ctx := ⟨tyT, [spec_l3By.o, spec_l3Has.o, spec_l4Row.o], [⟨4, 0, h4, x4, y4, fun s kx kr => r4 sl0 sl0.n kx kr s⟩, ⟨12, 2, h12, x12, y12, fun s kx kr => r12 sl0 sl0.n kx kr s⟩], 73, 0⟩
theorem ctx : CtxOk Try.prog C := ⟨tyOk, all1 spec_l3By.ok (all1 spec_l3Has.ok (all1 spec_l4Row.ok (all0)))⟩
theorem e12 (β : Type) (L : h12.sig.den → Option β) (kx : x12.sig.den → Option β) (kr : y12.sig.den → Option β) (s : h12.sig.den) : evalBody C (nthC (loopsOf (bodyC Try.f65)) 1) 2 h12 x12 y12 L kx kr s = b12 sl0 (fun x0 x1 x2 x3 x4 x5 x6 x7 x8 => L ((x0, (x1, ())), (x2, (x3, (x4, (x5, (x6, (x7, (x8, ()))))))))) (fun x0 x1 x2 x3 x4 x5 x6 => kx ((x0, (x1, ())), (x2, (x3, (x4, (x5, (x6, ()))))))) (kr ((), ())) s.1.1 s.1.2.1 s.2.1 s.2.2.1 s.2.2.2.1 s.2.2.2.2.1 s.2.2.2.2.2.1 s.2.2.2.2.2.2.1 s.2.2.2.2.2.2.2.1 := by kernel_rfl
theorem g12 : LS Try.prog C ⟨12, 2, h12, x12, y12, fun s kx kr => r12 sl0 sl0.n kx kr s⟩ (loopsOf (bodyC Try.f65)) := LS.at (i := 1) (by kernel_rfl) (loop_good mixed ctx (ctx_nat ctx) (N := sl0.n) (fun _ _ _ _ => rfl) e12 (all1 (LS.none (by kernel_rfl)) (all1 (LS.none (by kernel_rfl)) (all0))))
theorem e4 (β : Type) (L : h4.sig.den → Option β) (kx : x4.sig.den → Option β) (kr : y4.sig.den → Option β) (s : h4.sig.den) : evalBody C (nthC (loopsOf (bodyC Try.f65)) 0) 0 h4 x4 y4 L kx kr s = b4 sl0 (fun x0 x1 x2 x3 x4 x5 => L ((x0, (x1, ())), (x2, (x3, (x4, (x5, ())))))) (kx ((), ())) (fun x0 => kr ((), (x0, ()))) s.1.1 s.1.2.1 s.2.1 s.2.2.1 s.2.2.2.1 s.2.2.2.2.1 := by kernel_rfl
theorem g4 : LS Try.prog C ⟨4, 0, h4, x4, y4, fun s kx kr => r4 sl0 sl0.n kx kr s⟩ (loopsOf (bodyC Try.f65)) := LS.at (i := 0) (by kernel_rfl) (loop_good mixed ctx (ctx_nat ctx) (N := sl0.n) (fun _ _ _ _ => rfl) e4 (all1 (LS.none (by kernel_rfl)) (all1 (g12.sub (nthC_mem (by kernel_rfl))) (all0))))
theorem eG (β : Type) (s : sin.den) (K : sout.den → Option β) : evalFn C Try.f65 sin sout s K = o.F s K := by kernel_rfl
theorem ok : OracOk Try.prog o := fn_ok mixed Try.func65 (by kernel_rfl) ctx (c := bodyC Try.f65) (by kernel_rfl) (all1 g4 (all1 g12 (all0))) (by kernel_rfl) (by kernel_rfl) (by kernel_rfl) (Nat.le_of_ble_eq_true (by kernel_rfl)) eG (by kernel_rfl) (Nat.le_of_ble_eq_true (by kernel_rfl))
end spec_l4Fits
end Go.Proofs.Ytjmboleiijhelaa.E
end
section
set_option linter.unusedVariables false
set_option linter.unusedSimpArgs false
namespace Go.Proofs.Ytjmboleiijhelaa.E
open Go Go.RowKit
set_option linter.unusedVariables false
set_option maxRecDepth 100000
namespace spec_l4Kind
def sin : Sig := ⟨[], [.one (.val I false)]⟩
def sout : Sig := ⟨[], [.one (.val .bool false)]⟩
noncomputable def G {β : Type} (S : Sl) (a0 : Int) (K : Bool → Option β) : Option β := spec_l6In.G S a0 1 2 (fun y1 => K y1)
noncomputable def o : Orac := ⟨55, sin, sout, fun s K => G sl0 s.2.1 (fun x0 => K ((), (x0, ())))⟩
noncomputable def C : Ctx := ⟨tyT, [spec_l6In.o], [], 5, 0⟩
theorem ctx : CtxOk Try.prog C := ⟨tyOk, all1 spec_l6In.ok (all0)⟩
theorem eG (β : Type) (s : sin.den) (K : sout.den → Option β) : evalFn C Try.f55 sin sout s K = o.F s K := by kernel_rfl
theorem ok : OracOk Try.prog o := fn_ok mixed Try.func55 (by kernel_rfl) ctx (c := bodyC Try.f55) (by kernel_rfl) (all0) (by kernel_rfl) (by kernel_rfl) (by kernel_rfl) (Nat.le_of_ble_eq_true (by kernel_rfl)) eG (by kernel_rfl) (Nat.le_of_ble_eq_true (by kernel_rfl))
end spec_l4Kind
end Go.Proofs.Ytjmboleiijhelaa.E
end
section
set_option linter.unusedVariables false
set_option linter.unusedSimpArgs false
namespace Go.Proofs.Ytjmboleiijhelaa.E
open Go Go.RowKit
set_option linter.unusedVariables false
set_option maxRecDepth 100000
namespace spec_FieldOk
def sin : Sig := ⟨[], [.one (.val I false)]⟩
def sout : Sig := ⟨[], [.one (.val .bool false)]⟩
noncomputable def G {β : Type} (S : Sl) (a0 : Int) (K : Bool → Option β) : Option β := spec_l6In.G S a0 0 30 (fun y1 => K y1)
noncomputable def o : Orac := ⟨85, sin, sout, fun s K => G sl0 s.2.1 (fun x0 => K ((), (x0, ())))⟩
noncomputable def C : Ctx := ⟨tyT, [spec_l6In.o], [], 5, 0⟩
theorem ctx : CtxOk Try.prog C := ⟨tyOk, all1 spec_l6In.ok (all0)⟩
theorem eG (β : Type) (s : sin.den) (K : sout.den → Option β) : evalFn C Try.f85 sin sout s K = o.F s K := by kernel_rfl
theorem ok : OracOk Try.prog o := fn_ok mixed Try.func85 (by kernel_rfl) ctx (c := bodyC Try.f85) (by kernel_rfl) (all0) (by kernel_rfl) (by kernel_rfl) (by kernel_rfl) (Nat.le_of_ble_eq_true (by kernel_rfl)) eG (by kernel_rfl) (Nat.le_of_ble_eq_true (by kernel_rfl))
end spec_FieldOk
end Go.Proofs.Ytjmboleiijhelaa.E
end
section
set_option linter.unusedVariables false
set_option linter.unusedSimpArgs false
namespace Go.Proofs.Ytjmboleiijhelaa.E
open Go Go.RowKit
set_option linter.unusedVariables false
set_option maxRecDepth 100000
namespace spec_l4Vals
def sin : Sig := ⟨[], [.one (.val (.sl I) false), .one (.val (.sl .bool) false)]⟩
def sout : Sig := ⟨[], [.one (.val .bool false)]⟩
def h2 : SS := ⟨[0, 1, 5], ⟨[], [.one (.val (.sl I) false), .one (.val (.sl .bool) false), .one (.val I false)]⟩⟩
def x2 : SS := ⟨[0, 1], ⟨[], [.one (.val (.sl I) false), .one (.val (.sl .bool) false)]⟩⟩
def y2 : SS := ⟨[4], ⟨[], [.one (.val .bool false)]⟩⟩
noncomputable def b2 {β : Type} (S : Sl) (L : (List Int) → (List Bool) → Int → Option β) (kx : (List Int) → (List Bool) → Option β) (kr : Bool → Option β) (s0 : (List Int)) (s1 : (List Bool)) (s2 : Int) : Option β := bif (S.lt s2 (s0.length : Int)) then (bif (S.ir s2 s0.length) then (spec_FieldOk.G S (List.getD s0 (Int.toNat s2) 0) (fun y1 => bif (!y1) then (kr false) else (L s0 s1 (S.w (s2 + 1))))) else (none)) else (kx s0 s1)
noncomputable def r2 {β : Type} (S : Sl) (n : Nat) (kx : x2.sig.den → Option β) (kr : y2.sig.den → Option β) (s : h2.sig.den) : Option β := rounds (fun L kx kr s => b2 S (fun x0 x1 x2 => L ((), (x0, (x1, (x2, ()))))) (fun x0 x1 => kx ((), (x0, (x1, ())))) (fun x0 => kr ((), (x0, ()))) s.2.1 s.2.2.1 s.2.2.2.1) kx kr n s
noncomputable def l2 {β : Type} (S : Sl) (n : Nat) (kx : (List Int) → (List Bool) → Option β) (kr : Bool → Option β) (s0 : (List Int)) (s1 : (List Bool)) (s2 : Int) : Option β := r2 S n (fun s => kx s.2.1 s.2.2.1) (fun s => kr s.2.1) ((), (s0, (s1, (s2, ()))))
theorem t2 {β : Type} (S : Sl) (n : Nat) (kx : (List Int) → (List Bool) → Option β) (kr : Bool → Option β) (s0 : (List Int)) (s1 : (List Bool)) (s2 : Int) : l2 S (n + 1) kx kr s0 s1 s2 = b2 S (l2 S n kx kr) kx kr s0 s1 s2 := by kernel_rfl
noncomputable def G {β : Type} (S : Sl) (a0 : (List Int)) (a1 : (List Bool)) (K : Bool → Option β) : Option β := l2 S S.n (fun y1 y2 => bif (S.eq (y1.length : Int) 8) then (K (S.eq (y2.length : Int) 8)) else (K false)) (fun y3 => K y3) a0 a1 0
noncomputable def o : Orac := ⟨64, sin, sout, fun s K => G sl0 s.2.1 s.2.2.1 (fun x0 => K ((), (x0, ())))⟩
noncomputable def C : Ctx := ⟨tyT, [spec_FieldOk.o], [⟨2, 0, h2, x2, y2, fun s kx kr => r2 sl0 sl0.n kx kr s⟩], 26, 0⟩
theorem ctx : CtxOk Try.prog C := ⟨tyOk, all1 spec_FieldOk.ok (all0)⟩
theorem e2 (β : Type) (L : h2.sig.den → Option β) (kx : x2.sig.den → Option β) (kr : y2.sig.den → Option β) (s : h2.sig.den) : evalBody C (nthC (loopsOf (bodyC Try.f64)) 0) 0 h2 x2 y2 L kx kr s = b2 sl0 (fun x0 x1 x2 => L ((), (x0, (x1, (x2, ()))))) (fun x0 x1 => kx ((), (x0, (x1, ())))) (fun x0 => kr ((), (x0, ()))) s.2.1 s.2.2.1 s.2.2.2.1 := by kernel_rfl
theorem g2 : LS Try.prog C ⟨2, 0, h2, x2, y2, fun s kx kr => r2 sl0 sl0.n kx kr s⟩ (loopsOf (bodyC Try.f64)) := LS.at (i := 0) (by kernel_rfl) (loop_good mixed ctx (ctx_nat ctx) (N := sl0.n) (fun _ _ _ _ => rfl) e2 (all1 (LS.none (by kernel_rfl)) (all0)))
theorem eG (β : Type) (s : sin.den) (K : sout.den → Option β) : evalFn C Try.f64 sin sout s K = o.F s K := by kernel_rfl
theorem ok : OracOk Try.prog o := fn_ok mixed Try.func64 (by kernel_rfl) ctx (c := bodyC Try.f64) (by kernel_rfl) (all1 g2 (all0)) (by kernel_rfl) (by kernel_rfl) (by kernel_rfl) (Nat.le_of_ble_eq_true (by kernel_rfl)) eG (by kernel_rfl) (Nat.le_of_ble_eq_true (by kernel_rfl))
end spec_l4Vals
end Go.Proofs.Ytjmboleiijhelaa.E
end
section
set_option linter.unusedVariables false
set_option linter.unusedSimpArgs false
namespace Go.Proofs.Ytjmboleiijhelaa.E
open Go Go.RowKit
set_option linter.unusedVariables false
set_option maxRecDepth 100000
namespace spec_StripeOk
def sin : Sig := ⟨[], [.agg [.val I false, .val (.sl I) false, .val (.sl I) false, .val (.sl .bool) false]]⟩
def sout : Sig := ⟨[], [.one (.val .bool false)]⟩
def h4 : SS := ⟨[1, 3], ⟨[.box [.val I false, .val (.sl I) false, .val (.sl I) false, .val (.sl .bool) false]], [.one (.ref (.ptr 0)), .one (.val I false)]⟩⟩
def x4 : SS := ⟨[], ⟨[], []⟩⟩
def y4 : SS := ⟨[2], ⟨[], [.one (.val .bool false)]⟩⟩
noncomputable def b4 {β : Type} (S : Sl) (L : Int → (List Int) → (List Int) → (List Bool) → Int → Option β) (kx : Option β) (kr : Bool → Option β) (s0 : Int) (s1 : (List Int)) (s2 : (List Int)) (s3 : (List Bool)) (s4 : Int) : Option β := bif (S.lt s4 8) then (bif (S.ir s4 s3.length) then (bif (!(List.getD s3 (Int.toNat s4) false)) then (bif (S.ir s4 s1.length) then (bif (!S.eq (List.getD s1 (Int.toNat s4) 0) 0) then (kr false) else (bif (S.ir s4 s2.length) then (bif (!S.eq (List.getD s2 (Int.toNat s4) 0) 0) then (kr false) else (bif (S.ir s4 s3.length) then (bif (List.getD s3 (Int.toNat s4) false) then (bif (S.ir s4 s2.length) then (spec_l6In.G S (List.getD s2 (Int.toNat s4) 0) 1 99 (fun y1 => bif (!y1) then (kr false) else (bif (S.ir s4 s2.length) then (spec_l21Of.G S s0 s1 s2 s3 (List.getD s2 (Int.toNat s4) 0) (fun y2 => spec_l4Fits.G S s0 s1 y2 (fun y3 => bif (!y3) then (kr false) else (L s0 s1 s2 s3 (S.w (s4 + 1)))))) else (none)))) else (none)) else (L s0 s1 s2 s3 (S.w (s4 + 1)))) else (none))) else (none))) else (none)) else (bif (S.ir s4 s3.length) then (bif (List.getD s3 (Int.toNat s4) false) then (bif (S.ir s4 s2.length) then (spec_l6In.G S (List.getD s2 (Int.toNat s4) 0) 1 99 (fun y4 => bif (!y4) then (kr false) else (bif (S.ir s4 s2.length) then (spec_l21Of.G S s0 s1 s2 s3 (List.getD s2 (Int.toNat s4) 0) (fun y5 => spec_l4Fits.G S s0 s1 y5 (fun y6 => bif (!y6) then (kr false) else (L s0 s1 s2 s3 (S.w (s4 + 1)))))) else (none)))) else (none)) else (L s0 s1 s2 s3 (S.w (s4 + 1)))) else (none))) else (none)) else (kx)
noncomputable def r4 {β : Type} (S : Sl) (n : Nat) (kx : x4.sig.den → Option β) (kr : y4.sig.den → Option β) (s : h4.sig.den) : Option β := rounds (fun L kx kr s => b4 S (fun x0 x1 x2 x3 x4 => L (((x0, (x1, (x2, (x3, ())))), ()), (x4, ()))) (kx ((), ())) (fun x0 => kr ((), (x0, ()))) s.1.1.1 s.1.1.2.1 s.1.1.2.2.1 s.1.1.2.2.2.1 s.2.1) kx kr n s
noncomputable def l4 {β : Type} (S : Sl) (n : Nat) (kx : Option β) (kr : Bool → Option β) (s0 : Int) (s1 : (List Int)) (s2 : (List Int)) (s3 : (List Bool)) (s4 : Int) : Option β := r4 S n (fun s => kx) (fun s => kr s.2.1) (((s0, (s1, (s2, (s3, ())))), ()), (s4, ()))
theorem t4 {β : Type} (S : Sl) (n : Nat) (kx : Option β) (kr : Bool → Option β) (s0 : Int) (s1 : (List Int)) (s2 : (List Int)) (s3 : (List Bool)) (s4 : Int) : l4 S (n + 1) kx kr s0 s1 s2 s3 s4 = b4 S (l4 S n kx kr) kx kr s0 s1 s2 s3 s4 := by kernel_rfl
noncomputable def G {β : Type} (S : Sl) (a0 : Int) (a1 : (List Int)) (a2 : (List Int)) (a3 : (List Bool)) (K : Bool → Option β) : Option β := spec_l4Kind.G S a0 (fun y1 => bif (!y1) then (K false) else (spec_l4Vals.G S a1 a3 (fun y2 => bif (!y2) then (K false) else (bif (!S.eq (a2.length : Int) 8) then (K false) else (l4 S S.n (K true) (fun y3 => K y3) a0 a1 a2 a3 0)))))
noncomputable def o : Orac := ⟨38, sin, sout, fun s K => G sl0 s.2.1.1 s.2.1.2.1 s.2.1.2.2.1 s.2.1.2.2.2.1 (fun x0 => K ((), (x0, ())))⟩
noncomputable def C : Ctx := ⟨tyT, [spec_l21Of.o, spec_l4Fits.o, spec_l4Kind.o, spec_l4Vals.o, spec_l6In.o], [⟨4, 0, h4, x4, y4, fun s kx kr => r4 sl0 sl0.n kx kr s⟩], 79, 0⟩
theorem ctx : CtxOk Try.prog C := ⟨tyOk, all1 spec_l21Of.ok (all1 spec_l4Fits.ok (all1 spec_l4Kind.ok (all1 spec_l4Vals.ok (all1 spec_l6In.ok (all0)))))⟩
theorem e4 (β : Type) (L : h4.sig.den → Option β) (kx : x4.sig.den → Option β) (kr : y4.sig.den → Option β) (s : h4.sig.den) : evalBody C (nthC (loopsOf (bodyC Try.f38)) 0) 0 h4 x4 y4 L kx kr s = b4 sl0 (fun x0 x1 x2 x3 x4 => L (((x0, (x1, (x2, (x3, ())))), ()), (x4, ()))) (kx ((), ())) (fun x0 => kr ((), (x0, ()))) s.1.1.1 s.1.1.2.1 s.1.1.2.2.1 s.1.1.2.2.2.1 s.2.1 := by kernel_rfl
theorem g4 : LS Try.prog C ⟨4, 0, h4, x4, y4, fun s kx kr => r4 sl0 sl0.n kx kr s⟩ (loopsOf (bodyC Try.f38)) := LS.at (i := 0) (by kernel_rfl) (loop_good mixed ctx (ctx_nat ctx) (N := sl0.n) (fun _ _ _ _ => rfl) e4 (all1 (LS.none (by kernel_rfl)) (all0)))
theorem eG (β : Type) (s : sin.den) (K : sout.den → Option β) : evalFn C Try.f38 sin sout s K = o.F s K := by kernel_rfl
theorem ok : OracOk Try.prog o := fn_ok mixed Try.func38 (by kernel_rfl) ctx (c := bodyC Try.f38) (by kernel_rfl) (all1 g4 (all0)) (by kernel_rfl) (by kernel_rfl) (by kernel_rfl) (Nat.le_of_ble_eq_true (by kernel_rfl)) eG (by kernel_rfl) (Nat.le_of_ble_eq_true (by kernel_rfl))
end spec_StripeOk
end Go.Proofs.Ytjmboleiijhelaa.E
end
section
set_option linter.unusedVariables false
set_option linter.unusedSimpArgs false
namespace Go.Proofs.Ytjmboleiijhelaa.E
open Go Go.RowKit
set_option linter.unusedVariables false
set_option maxRecDepth 100000
namespace spec_l41Sum
def sin : Sig := ⟨[], [.one (.val I false), .one (.val I false), .one (.val I false)]⟩
def sout : Sig := ⟨[], [.one (.val I false)]⟩
noncomputable def G {β : Type} (S : Sl) (a0 : Int) (a1 : Int) (a2 : Int) (K : Int → Option β) : Option β := K (S.w ((Int.tmod (S.w ((S.w ((S.w ((3 : Int) * a0)) + (S.w ((5 : Int) * a1)))) + (S.w ((7 : Int) * a2)))) 89) + 1))
noncomputable def o : Orac := ⟨52, sin, sout, fun s K => G sl0 s.2.1 s.2.2.1 s.2.2.2.1 (fun x0 => K ((), (x0, ())))⟩
noncomputable def C : Ctx := ⟨tyT, [], [], 17, 0⟩
theorem ctx : CtxOk Try.prog C := ⟨tyOk, all0⟩
theorem eG (β : Type) (s : sin.den) (K : sout.den → Option β) : evalFn C Try.f52 sin sout s K = o.F s K := by kernel_rfl
theorem ok : OracOk Try.prog o := fn_ok mixed Try.func52 (by kernel_rfl) ctx (c := bodyC Try.f52) (by kernel_rfl) (all0) (by kernel_rfl) (by kernel_rfl) (by kernel_rfl) (Nat.le_of_ble_eq_true (by kernel_rfl)) eG (by kernel_rfl) (Nat.le_of_ble_eq_true (by kernel_rfl))
end spec_l41Sum
end Go.Proofs.Ytjmboleiijhelaa.E
end
section
set_option linter.unusedVariables false
set_option linter.unusedSimpArgs false
namespace Go.Proofs.Ytjmboleiijhelaa.E
open Go Go.RowKit
set_option linter.unusedVariables false
set_option maxRecDepth 100000
namespace spec_RotWrite
def sin : Sig := ⟨[], [.agg [.val I false, .val (.sl I) false, .val (.sl I) false, .val (.sl .bool) false]]⟩
def sout : Sig := ⟨[.buf (.pair I (.pair I (.pair I .unit))) false], [.one (.ref (.own 0))]⟩
def h5 : SS := ⟨[1, 3, 4], ⟨[.box [.val I false, .val (.sl I) false, .val (.sl I) false, .val (.sl .bool) false], .buf (.pair I (.pair I (.pair I .unit))) false], [.one (.ref (.ptr 0)), .one (.ref (.own 1)), .one (.val I false)]⟩⟩
def x5 : SS := ⟨[3], ⟨[.buf (.pair I (.pair I (.pair I .unit))) false], [.one (.ref (.own 0))]⟩⟩
def y5 : SS := ⟨[], ⟨[], []⟩⟩
noncomputable def b5 {β : Type} (S : Sl) (L : Int → (List Int) → (List Int) → (List Bool) → (List (Int × (Int × (Int × Unit)))) → Int → Option β) (kx : (List (Int × (Int × (Int × Unit)))) → Option β) (kr : Option β) (s0 : Int) (s1 : (List Int)) (s2 : (List Int)) (s3 : (List Bool)) (s4 : (List (Int × (Int × (Int × Unit))))) (s5 : Int) : Option β := bif (S.lt s5 8) then (bif (S.ir s5 s3.length) then (bif (List.getD s3 (Int.toNat s5) false) then (bif (S.ir s5 s1.length) then (bif (S.ir s5 s2.length) then (bif (S.ir s5 s1.length) then (bif (S.ir s5 s2.length) then (spec_l41Sum.G S (List.getD s1 (Int.toNat s5) 0) (List.getD s2 (Int.toNat s5) 0) s5 (fun y1 => bif (S.fw (s4 ++ [((List.getD s1 (Int.toNat s5) 0), ((List.getD s2 (Int.toNat s5) 0), (y1, ())))]).length) then (L s0 s1 s2 s3 (s4 ++ [((List.getD s1 (Int.toNat s5) 0), ((List.getD s2 (Int.toNat s5) 0), (y1, ())))]) (S.w (s5 + 1))) else (none))) else (none)) else (none)) else (none)) else (none)) else (bif (S.fw (s4 ++ [(0, (0, (0, ())))]).length) then (L s0 s1 s2 s3 (s4 ++ [(0, (0, (0, ())))]) (S.w (s5 + 1))) else (none))) else (none)) else (kx s4)
noncomputable def r5 {β : Type} (S : Sl) (n : Nat) (kx : x5.sig.den → Option β) (kr : y5.sig.den → Option β) (s : h5.sig.den) : Option β := rounds (fun L kx kr s => b5 S (fun x0 x1 x2 x3 x4 x5 => L (((x0, (x1, (x2, (x3, ())))), (x4, ())), (x5, ()))) (fun x0 => kx ((x0, ()), ())) (kr ((), ())) s.1.1.1 s.1.1.2.1 s.1.1.2.2.1 s.1.1.2.2.2.1 s.1.2.1 s.2.1) kx kr n s
noncomputable def l5 {β : Type} (S : Sl) (n : Nat) (kx : (List (Int × (Int × (Int × Unit)))) → Option β) (kr : Option β) (s0 : Int) (s1 : (List Int)) (s2 : (List Int)) (s3 : (List Bool)) (s4 : (List (Int × (Int × (Int × Unit))))) (s5 : Int) : Option β := r5 S n (fun s => kx s.1.1) (fun s => kr) (((s0, (s1, (s2, (s3, ())))), (s4, ())), (s5, ()))
theorem t5 {β : Type} (S : Sl) (n : Nat) (kx : (List (Int × (Int × (Int × Unit)))) → Option β) (kr : Option β) (s0 : Int) (s1 : (List Int)) (s2 : (List Int)) (s3 : (List Bool)) (s4 : (List (Int × (Int × (Int × Unit))))) (s5 : Int) : l5 S (n + 1) kx kr s0 s1 s2 s3 s4 s5 = b5 S (l5 S n kx kr) kx kr s0 s1 s2 s3 s4 s5 := by kernel_rfl
noncomputable def G {β : Type} (S : Sl) (a0 : Int) (a1 : (List Int)) (a2 : (List Int)) (a3 : (List Bool)) (K : (List (Int × (Int × (Int × Unit)))) → Option β) : Option β := spec_StripeOk.G S a0 a1 a2 a3 (fun y1 => bif (!y1) then (K []) else (l5 S S.n (fun y2 => K y2) none a0 a1 a2 a3 [] 0))
noncomputable def o : Orac := ⟨20, sin, sout, fun s K => G sl0 s.2.1.1 s.2.1.2.1 s.2.1.2.2.1 s.2.1.2.2.2.1 (fun x0 => K ((x0, ()), ()))⟩
noncomputable def C : Ctx := ⟨tyT, [spec_StripeOk.o, spec_l41Sum.o], [⟨5, 0, h5, x5, y5, fun s kx kr => r5 sl0 sl0.n kx kr s⟩], 49, 0⟩
theorem ctx : CtxOk Try.prog C := ⟨tyOk, all1 spec_StripeOk.ok (all1 spec_l41Sum.ok (all0))⟩
theorem e5 (β : Type) (L : h5.sig.den → Option β) (kx : x5.sig.den → Option β) (kr : y5.sig.den → Option β) (s : h5.sig.den) : evalBody C (nthC (loopsOf (bodyC Try.f20)) 0) 0 h5 x5 y5 L kx kr s = b5 sl0 (fun x0 x1 x2 x3 x4 x5 => L (((x0, (x1, (x2, (x3, ())))), (x4, ())), (x5, ()))) (fun x0 => kx ((x0, ()), ())) (kr ((), ())) s.1.1.1 s.1.1.2.1 s.1.1.2.2.1 s.1.1.2.2.2.1 s.1.2.1 s.2.1 := by kernel_rfl
theorem g5 : LS Try.prog C ⟨5, 0, h5, x5, y5, fun s kx kr => r5 sl0 sl0.n kx kr s⟩ (loopsOf (bodyC Try.f20)) := LS.at (i := 0) (by kernel_rfl) (loop_good mixed ctx (ctx_nat ctx) (N := sl0.n) (fun _ _ _ _ => rfl) e5 (all1 (LS.none (by kernel_rfl)) (all0)))
theorem eG (β : Type) (s : sin.den) (K : sout.den → Option β) : evalFn C Try.f20 sin sout s K = o.F s K := by kernel_rfl
theorem ok : OracOk Try.prog o := fn_ok mixed Try.func20 (by kernel_rfl) ctx (c := bodyC Try.f20) (by kernel_rfl) (all1 g5 (all0)) (by kernel_rfl) (by kernel_rfl) (by kernel_rfl) (Nat.le_of_ble_eq_true (by kernel_rfl)) eG (by kernel_rfl) (Nat.le_of_ble_eq_true (by kernel_rfl))
end spec_RotWrite
end Go.Proofs.Ytjmboleiijhelaa.E
end
section
set_option linter.unusedVariables false
set_option linter.unusedSimpArgs false
namespace Go.Proofs.Ytjmboleiijhelaa.E
open Go Go.RowKit
set_option linter.unusedVariables false
set_option maxRecDepth 100000
namespace spec_l6Rd_pick
def sin : Sig := ⟨[.box [.val (.sl (.int .u8)) false, .val I false]], [.one (.ref (.ptr 0)), .one (.val I false)]⟩
def sout : Sig := ⟨[.box [.val (.sl (.int .u8)) false, .val I false]], [.one (.val I false)]⟩
noncomputable def G {β : Type} (S : Sl) (a0 : (List Int)) (a1 : Int) (a2 : Int) (K : (List Int) → Int → Int → Option β) : Option β := bif (S.lt a2 1) then (K a0 (S.w (a1 + 1)) 0) else (bif (S.eq (a0.length : Int) 0) then (K a0 (S.w (a1 + 1)) 0) else (bif (S.lt (S.w ((S.w (a1 + 1)) - 1)) (a0.length : Int)) then (bif (S.ir (S.w ((S.w (a1 + 1)) - 1)) a0.length) then (bif (!(a2 == 0)) then (K a0 (S.w (a1 + 1)) (Int.tmod (S.w (List.getD a0 (Int.toNat (S.w ((S.w (a1 + 1)) - 1))) 0)) a2)) else (none)) else (none)) else (bif (!((a0.length : Int) == 0)) then (bif (S.ir (Int.tmod (S.w ((S.w (a1 + 1)) - 1)) (a0.length : Int)) a0.length) then (bif (!((a0.length : Int) == 0)) then (bif (S.ir (Int.tmod (S.w ((S.w ((S.w ((S.w (a1 + 1)) - 1)) * 7)) + 3)) (a0.length : Int)) a0.length) then (bif (!((a0.length : Int) == 0)) then (bif (!(a2 == 0)) then (K a0 (S.w (a1 + 1)) (Int.tmod (S.xr .i64 (S.w ((S.w ((S.w ((S.w ((S.w (List.getD a0 (Int.toNat (Int.tmod (S.w ((S.w (a1 + 1)) - 1)) (a0.length : Int))) 0)) * 131)) + (S.w ((S.w (List.getD a0 (Int.toNat (Int.tmod (S.w ((S.w ((S.w ((S.w (a1 + 1)) - 1)) * 7)) + 3)) (a0.length : Int))) 0)) * 1117)))) + (S.w ((S.w ((S.w (a1 + 1)) - 1)) * 29)))) + (S.w ((S.w (Int.tdiv (S.w ((S.w (a1 + 1)) - 1)) (a0.length : Int))) * 53)))) (S.w (Int.tdiv (S.w ((S.w ((S.w ((S.w ((S.w (List.getD a0 (Int.toNat (Int.tmod (S.w ((S.w (a1 + 1)) - 1)) (a0.length : Int))) 0)) * 131)) + (S.w ((S.w (List.getD a0 (Int.toNat (Int.tmod (S.w ((S.w ((S.w ((S.w (a1 + 1)) - 1)) * 7)) + 3)) (a0.length : Int))) 0)) * 1117)))) + (S.w ((S.w ((S.w (a1 + 1)) - 1)) * 29)))) + (S.w ((S.w (Int.tdiv (S.w ((S.w (a1 + 1)) - 1)) (a0.length : Int))) * 53)))) 64))) a2)) else (none)) else (none)) else (none)) else (none)) else (none)) else (none))))
noncomputable def o : Orac := ⟨60, sin, sout, fun s K => G sl0 s.1.1.1 s.1.1.2.1 s.2.1 (fun x0 x1 x2 => K (((x0, (x1, ())), ()), (x2, ())))⟩
noncomputable def C : Ctx := ⟨tyT, [], [], 99, 1⟩
theorem ctx : CtxOk Try.prog C := ⟨tyOk, all0⟩
theorem eG (β : Type) (s : sin.den) (K : sout.den → Option β) : evalFn C Try.f60 sin sout s K = o.F s K := by kernel_rfl
theorem ok : OracOk Try.prog o := fn_ok mixed Try.func60 (by kernel_rfl) ctx (c := bodyC Try.f60) (by kernel_rfl) (all0) (by kernel_rfl) (by kernel_rfl) (by kernel_rfl) (Nat.le_of_ble_eq_true (by kernel_rfl)) eG (by kernel_rfl) (Nat.le_of_ble_eq_true (by kernel_rfl))
end spec_l6Rd_pick
end Go.Proofs.Ytjmboleiijhelaa.E
end
section
set_option linter.unusedVariables false
set_option linter.unusedSimpArgs false
namespace Go.Proofs.Ytjmboleiijhelaa.E
open Go Go.RowKit
set_option linter.unusedVariables false
set_option maxRecDepth 100000
namespace spec_l91Num
def sin : Sig := ⟨[.box [.val (.sl (.int .u8)) false, .val I false]], [.one (.ref (.ptr 0))]⟩
def sout : Sig := ⟨[.box [.val (.sl (.int .u8)) false, .val I false]], [.one (.val I false)]⟩
noncomputable def G {β : Type} (S : Sl) (a0 : (List Int)) (a1 : Int) (K : (List Int) → Int → Int → Option β) : Option β := spec_l6Rd_pick.G S a0 a1 10 (fun y1 y2 y3 => bif (S.eq y3 0) then (K y1 y2 0) else (bif (S.eq y3 1) then (spec_l6Rd_pick.G S y1 y2 2 (fun y4 y5 y6 => bif (S.ir y6 [1, 30].length) then (K y4 y5 (List.getD [1, 30] (Int.toNat y6) 0)) else (none))) else (bif (S.eq y3 2) then (spec_l6Rd_pick.G S y1 y2 5 (fun y7 y8 y9 => bif (S.eq y9 0) then (spec_l6Rd_pick.G S y7 y8 2 (fun y10 y11 y12 => bif (S.ir y12 [(-1), 31].length) then (K y10 y11 (List.getD [(-1), 31] (Int.toNat y12) 0)) else (none))) else (spec_l6Rd_pick.G S y7 y8 31 (fun y13 y14 y15 => K y13 y14 y15)))) else (spec_l6Rd_pick.G S y1 y2 31 (fun y16 y17 y18 => K y16 y17 y18)))))
noncomputable def o : Orac := ⟨61, sin, sout, fun s K => G sl0 s.1.1.1 s.1.1.2.1 (fun x0 x1 x2 => K (((x0, (x1, ())), ()), (x2, ())))⟩
noncomputable def C : Ctx := ⟨tyT, [spec_l6Rd_pick.o], [], 26, 1⟩
theorem ctx : CtxOk Try.prog C := ⟨tyOk, all1 spec_l6Rd_pick.ok (all0)⟩
theorem eG (β : Type) (s : sin.den) (K : sout.den → Option β) : evalFn C Try.f61 sin sout s K = o.F s K := by kernel_rfl
theorem ok : OracOk Try.prog o := fn_ok mixed Try.func61 (by kernel_rfl) ctx (c := bodyC Try.f61) (by kernel_rfl) (all0) (by kernel_rfl) (by kernel_rfl) (by kernel_rfl) (Nat.le_of_ble_eq_true (by kernel_rfl)) eG (by kernel_rfl) (Nat.le_of_ble_eq_true (by kernel_rfl))
end spec_l91Num
end Go.Proofs.Ytjmboleiijhelaa.E
end
section
set_option linter.unusedVariables false
set_option linter.unusedSimpArgs false
namespace Go.Proofs.Ytjmboleiijhelaa.E
open Go Go.RowKit
set_option linter.unusedVariables false
set_option maxRecDepth 100000
namespace spec_VecOk
def sin : Sig := ⟨[], [.one (.val (.sl I) false)]⟩
def sout : Sig := ⟨[], [.one (.val .bool false)]⟩
def h2 : SS := ⟨[0, 3], ⟨[], [.one (.val (.sl I) false), .one (.val I false)]⟩⟩
def x2 : SS := ⟨[0], ⟨[], [.one (.val (.sl I) false)]⟩⟩
def y2 : SS := ⟨[2], ⟨[], [.one (.val .bool false)]⟩⟩
noncomputable def b2 {β : Type} (S : Sl) (L : (List Int) → Int → Option β) (kx : (List Int) → Option β) (kr : Bool → Option β) (s0 : (List Int)) (s1 : Int) : Option β := bif (S.lt s1 (s0.length : Int)) then (bif (S.ir s1 s0.length) then (spec_FieldOk.G S (List.getD s0 (Int.toNat s1) 0) (fun y1 => bif (!y1) then (kr false) else (L s0 (S.w (s1 + 1))))) else (none)) else (kx s0)
noncomputable def r2 {β : Type} (S : Sl) (n : Nat) (kx : x2.sig.den → Option β) (kr : y2.sig.den → Option β) (s : h2.sig.den) : Option β := rounds (fun L kx kr s => b2 S (fun x0 x1 => L ((), (x0, (x1, ())))) (fun x0 => kx ((), (x0, ()))) (fun x0 => kr ((), (x0, ()))) s.2.1 s.2.2.1) kx kr n s
noncomputable def l2 {β : Type} (S : Sl) (n : Nat) (kx : (List Int) → Option β) (kr : Bool → Option β) (s0 : (List Int)) (s1 : Int) : Option β := r2 S n (fun s => kx s.2.1) (fun s => kr s.2.1) ((), (s0, (s1, ())))
theorem t2 {β : Type} (S : Sl) (n : Nat) (kx : (List Int) → Option β) (kr : Bool → Option β) (s0 : (List Int)) (s1 : Int) : l2 S (n + 1) kx kr s0 s1 = b2 S (l2 S n kx kr) kx kr s0 s1 := by kernel_rfl
noncomputable def G {β : Type} (S : Sl) (a0 : (List Int)) (K : Bool → Option β) : Option β := l2 S S.n (fun y1 => K (S.eq (y1.length : Int) 4)) (fun y2 => K y2) a0 0
noncomputable def o : Orac := ⟨100, sin, sout, fun s K => G sl0 s.2.1 (fun x0 => K ((), (x0, ())))⟩
noncomputable def C : Ctx := ⟨tyT, [spec_FieldOk.o], [⟨2, 0, h2, x2, y2, fun s kx kr => r2 sl0 sl0.n kx kr s⟩], 19, 0⟩
theorem ctx : CtxOk Try.prog C := ⟨tyOk, all1 spec_FieldOk.ok (all0)⟩
theorem e2 (β : Type) (L : h2.sig.den → Option β) (kx : x2.sig.den → Option β) (kr : y2.sig.den → Option β) (s : h2.sig.den) : evalBody C (nthC (loopsOf (bodyC Try.f100)) 0) 0 h2 x2 y2 L kx kr s = b2 sl0 (fun x0 x1 => L ((), (x0, (x1, ())))) (fun x0 => kx ((), (x0, ()))) (fun x0 => kr ((), (x0, ()))) s.2.1 s.2.2.1 := by kernel_rfl
theorem g2 : LS Try.prog C ⟨2, 0, h2, x2, y2, fun s kx kr => r2 sl0 sl0.n kx kr s⟩ (loopsOf (bodyC Try.f100)) := LS.at (i := 0) (by kernel_rfl) (loop_good mixed ctx (ctx_nat ctx) (N := sl0.n) (fun _ _ _ _ => rfl) e2 (all1 (LS.none (by kernel_rfl)) (all0)))
theorem eG (β : Type) (s : sin.den) (K : sout.den → Option β) : evalFn C Try.f100 sin sout s K = o.F s K := by kernel_rfl
theorem ok : OracOk Try.prog o := fn_ok mixed Try.func100 (by kernel_rfl) ctx (c := bodyC Try.f100) (by kernel_rfl) (all1 g2 (all0)) (by kernel_rfl) (by kernel_rfl) (by kernel_rfl) (Nat.le_of_ble_eq_true (by kernel_rfl)) eG (by kernel_rfl) (Nat.le_of_ble_eq_true (by kernel_rfl))
end spec_VecOk
end Go.Proofs.Ytjmboleiijhelaa.E
end
section
set_option linter.unusedVariables false
set_option linter.unusedSimpArgs false
namespace Go.Proofs.Ytjmboleiijhelaa.E
open Go Go.RowKit
set_option linter.unusedVariables false
set_option maxRecDepth 100000
namespace spec_l21Copy
def sin : Sig := ⟨[], [.agg [.val I false, .val (.sl I) false, .val (.sl I) false, .val (.sl .bool) false]]⟩
def sout : Sig := ⟨[.buf I false, .buf I false, .buf .bool false], [.agg [.val I false, .ref (.own 0), .ref (.own 1), .ref (.own 2)]]⟩
noncomputable def G {β : Type} (S : Sl) (a0 : Int) (a1 : (List Int)) (a2 : (List Int)) (a3 : (List Bool)) (K : (List Int) → (List Int) → (List Bool) → Int → Option β) : Option β := bif (S.fw ([] ++ a1).length) then (bif (S.fw ([] ++ a2).length) then (bif (S.fw ([] ++ a3).length) then (K ([] ++ a1) ([] ++ a2) ([] ++ a3) a0) else (none)) else (none)) else (none)
noncomputable def o : Orac := ⟨67, sin, sout, fun s K => G sl0 s.2.1.1 s.2.1.2.1 s.2.1.2.2.1 s.2.1.2.2.2.1 (fun x0 x1 x2 x3 => K ((x0, (x1, (x2, ()))), ((x3, ()), ())))⟩
noncomputable def C : Ctx := ⟨tyT, [], [], 18, 0⟩
theorem ctx : CtxOk Try.prog C := ⟨tyOk, all0⟩
theorem eG (β : Type) (s : sin.den) (K : sout.den → Option β) : evalFn C Try.f67 sin sout s K = o.F s K := by kernel_rfl
theorem ok : OracOk Try.prog o := fn_ok mixed Try.func67 (by kernel_rfl) ctx (c := bodyC Try.f67) (by kernel_rfl) (all0) (by kernel_rfl) (by kernel_rfl) (by kernel_rfl) (Nat.le_of_ble_eq_true (by kernel_rfl)) eG (by kernel_rfl) (Nat.le_of_ble_eq_true (by kernel_rfl))
end spec_l21Copy
end Go.Proofs.Ytjmboleiijhelaa.E
end
section
set_option linter.unusedVariables false
set_option linter.unusedSimpArgs false
namespace Go.Proofs.Ytjmboleiijhelaa.E
open Go Go.RowKit
set_option linter.unusedVariables false
set_option maxRecDepth 100000
namespace spec_l2Dot
def sin : Sig := ⟨[], [.one (.val (.sl I) false), .one (.val (.sl I) false)]⟩
def sout : Sig := ⟨[], [.one (.val I false)]⟩
def h3 : SS := ⟨[0, 1, 5, 6], ⟨[], [.one (.val (.sl I) false), .one (.val (.sl I) false), .one (.val I false), .one (.val I false)]⟩⟩
def x3 : SS := ⟨[5], ⟨[], [.one (.val I false)]⟩⟩
def y3 : SS := ⟨[], ⟨[], []⟩⟩
noncomputable def b3 {β : Type} (S : Sl) (L : (List Int) → (List Int) → Int → Int → Option β) (kx : Int → Option β) (kr : Option β) (s0 : (List Int)) (s1 : (List Int)) (s2 : Int) (s3 : Int) : Option β := bif (S.lt s3 (s0.length : Int)) then (bif (S.ir s3 s0.length) then (bif (S.ir s3 s1.length) then (L s0 s1 (Int.tmod (S.w (s2 + (S.w ((List.getD s0 (Int.toNat s3) 0) * (List.getD s1 (Int.toNat s3) 0))))) 31) (S.w (s3 + 1))) else (none)) else (none)) else (kx s2)
noncomputable def r3 {β : Type} (S : Sl) (n : Nat) (kx : x3.sig.den → Option β) (kr : y3.sig.den → Option β) (s : h3.sig.den) : Option β := rounds (fun L kx kr s => b3 S (fun x0 x1 x2 x3 => L ((), (x0, (x1, (x2, (x3, ())))))) (fun x0 => kx ((), (x0, ()))) (kr ((), ())) s.2.1 s.2.2.1 s.2.2.2.1 s.2.2.2.2.1) kx kr n s
noncomputable def l3 {β : Type} (S : Sl) (n : Nat) (kx : Int → Option β) (kr : Option β) (s0 : (List Int)) (s1 : (List Int)) (s2 : Int) (s3 : Int) : Option β := r3 S n (fun s => kx s.2.1) (fun s => kr) ((), (s0, (s1, (s2, (s3, ())))))
theorem t3 {β : Type} (S : Sl) (n : Nat) (kx : Int → Option β) (kr : Option β) (s0 : (List Int)) (s1 : (List Int)) (s2 : Int) (s3 : Int) : l3 S (n + 1) kx kr s0 s1 s2 s3 = b3 S (l3 S n kx kr) kx kr s0 s1 s2 s3 := by kernel_rfl
noncomputable def G {β : Type} (S : Sl) (a0 : (List Int)) (a1 : (List Int)) (K : Int → Option β) : Option β := l3 S S.n (fun y1 => K y1) none a0 a1 0 0
noncomputable def o : Orac := ⟨120, sin, sout, fun s K => G sl0 s.2.1 s.2.2.1 (fun x0 => K ((), (x0, ())))⟩
noncomputable def C : Ctx := ⟨tyT, [], [⟨3, 0, h3, x3, y3, fun s kx kr => r3 sl0 sl0.n kx kr s⟩], 26, 0⟩
theorem ctx : CtxOk Try.prog C := ⟨tyOk, all0⟩
theorem e3 (β : Type) (L : h3.sig.den → Option β) (kx : x3.sig.den → Option β) (kr : y3.sig.den → Option β) (s : h3.sig.den) : evalBody C (nthC (loopsOf (bodyC Try.f120)) 0) 0 h3 x3 y3 L kx kr s = b3 sl0 (fun x0 x1 x2 x3 => L ((), (x0, (x1, (x2, (x3, ())))))) (fun x0 => kx ((), (x0, ()))) (kr ((), ())) s.2.1 s.2.2.1 s.2.2.2.1 s.2.2.2.2.1 := by kernel_rfl
theorem g3 : LS Try.prog C ⟨3, 0, h3, x3, y3, fun s kx kr => r3 sl0 sl0.n kx kr s⟩ (loopsOf (bodyC Try.f120)) := LS.at (i := 0) (by kernel_rfl) (loop_good mixed ctx (ctx_nat ctx) (N := sl0.n) (fun _ _ _ _ => rfl) e3 (all1 (LS.none (by kernel_rfl)) (all0)))
theorem eG (β : Type) (s : sin.den) (K : sout.den → Option β) : evalFn C Try.f120 sin sout s K = o.F s K := by kernel_rfl
theorem ok : OracOk Try.prog o := fn_ok mixed Try.func120 (by kernel_rfl) ctx (c := bodyC Try.f120) (by kernel_rfl) (all1 g3 (all0)) (by kernel_rfl) (by kernel_rfl) (by kernel_rfl) (Nat.le_of_ble_eq_true (by kernel_rfl)) eG (by kernel_rfl) (Nat.le_of_ble_eq_true (by kernel_rfl))
end spec_l2Dot
end Go.Proofs.Ytjmboleiijhelaa.E
end
section
set_option linter.unusedVariables false
set_option linter.unusedSimpArgs false
namespace Go.Proofs.Ytjmboleiijhelaa.E
open Go Go.RowKit
set_option linter.unusedVariables false
set_option maxRecDepth 100000
namespace spec_l4All
def sin : Sig := ⟨[], [.one (.val I false), .one (.val (.sl I) false)]⟩
def sout : Sig := ⟨[.buf I false], [.one (.ref (.own 0))]⟩
def h3 : SS := ⟨[0, 1, 5, 6], ⟨[.buf I false], [.one (.val I false), .one (.val (.sl I) false), .one (.ref (.own 0)), .one (.val I false)]⟩⟩
def x3 : SS := ⟨[5], ⟨[.buf I false], [.one (.ref (.own 0))]⟩⟩
def y3 : SS := ⟨[], ⟨[], []⟩⟩
noncomputable def b3 {β : Type} (S : Sl) (L : (List Int) → Int → (List Int) → Int → Option β) (kx : (List Int) → Option β) (kr : Option β) (s0 : (List Int)) (s1 : Int) (s2 : (List Int)) (s3 : Int) : Option β := bif (S.lt s3 8) then (spec_l4Row.G S s1 s3 (fun y1 => spec_l2Dot.G S y1 s2 (fun y2 => bif (S.fw (s0 ++ [y2]).length) then (L (s0 ++ [y2]) s1 s2 (S.w (s3 + 1))) else (none)))) else (kx s0)
noncomputable def r3 {β : Type} (S : Sl) (n : Nat) (kx : x3.sig.den → Option β) (kr : y3.sig.den → Option β) (s : h3.sig.den) : Option β := rounds (fun L kx kr s => b3 S (fun x0 x1 x2 x3 => L ((x0, ()), (x1, (x2, (x3, ()))))) (fun x0 => kx ((x0, ()), ())) (kr ((), ())) s.1.1 s.2.1 s.2.2.1 s.2.2.2.1) kx kr n s
noncomputable def l3 {β : Type} (S : Sl) (n : Nat) (kx : (List Int) → Option β) (kr : Option β) (s0 : (List Int)) (s1 : Int) (s2 : (List Int)) (s3 : Int) : Option β := r3 S n (fun s => kx s.1.1) (fun s => kr) ((s0, ()), (s1, (s2, (s3, ()))))
theorem t3 {β : Type} (S : Sl) (n : Nat) (kx : (List Int) → Option β) (kr : Option β) (s0 : (List Int)) (s1 : Int) (s2 : (List Int)) (s3 : Int) : l3 S (n + 1) kx kr s0 s1 s2 s3 = b3 S (l3 S n kx kr) kx kr s0 s1 s2 s3 := by kernel_rfl
noncomputable def G {β : Type} (S : Sl) (a0 : Int) (a1 : (List Int)) (K : (List Int) → Option β) : Option β := l3 S S.n (fun y1 => K y1) none [] a0 a1 0
noncomputable def o : Orac := ⟨98, sin, sout, fun s K => G sl0 s.2.1 s.2.2.1 (fun x0 => K ((x0, ()), ()))⟩
noncomputable def C : Ctx := ⟨tyT, [spec_l2Dot.o, spec_l4Row.o], [⟨3, 0, h3, x3, y3, fun s kx kr => r3 sl0 sl0.n kx kr s⟩], 21, 0⟩
theorem ctx : CtxOk Try.prog C := ⟨tyOk, all1 spec_l2Dot.ok (all1 spec_l4Row.ok (all0))⟩
theorem e3 (β : Type) (L : h3.sig.den → Option β) (kx : x3.sig.den → Option β) (kr : y3.sig.den → Option β) (s : h3.sig.den) : evalBody C (nthC (loopsOf (bodyC Try.f98)) 0) 0 h3 x3 y3 L kx kr s = b3 sl0 (fun x0 x1 x2 x3 => L ((x0, ()), (x1, (x2, (x3, ()))))) (fun x0 => kx ((x0, ()), ())) (kr ((), ())) s.1.1 s.2.1 s.2.2.1 s.2.2.2.1 := by kernel_rfl
theorem g3 : LS Try.prog C ⟨3, 0, h3, x3, y3, fun s kx kr => r3 sl0 sl0.n kx kr s⟩ (loopsOf (bodyC Try.f98)) := LS.at (i := 0) (by kernel_rfl) (loop_good mixed ctx (ctx_nat ctx) (N := sl0.n) (fun _ _ _ _ => rfl) e3 (all1 (LS.none (by kernel_rfl)) (all0)))
theorem eG (β : Type) (s : sin.den) (K : sout.den → Option β) : evalFn C Try.f98 sin sout s K = o.F s K := by kernel_rfl
theorem ok : OracOk Try.prog o := fn_ok mixed Try.func98 (by kernel_rfl) ctx (c := bodyC Try.f98) (by kernel_rfl) (all1 g3 (all0)) (by kernel_rfl) (by kernel_rfl) (by kernel_rfl) (Nat.le_of_ble_eq_true (by kernel_rfl)) eG (by kernel_rfl) (Nat.le_of_ble_eq_true (by kernel_rfl))
end spec_l4All
end Go.Proofs.Ytjmboleiijhelaa.E
end
section
set_option linter.unusedVariables false
set_option linter.unusedSimpArgs false
namespace Go.Proofs.Ytjmboleiijhelaa.E
open Go Go.RowKit
set_option linter.unusedVariables false
set_option maxRecDepth 100000
namespace spec_l21Put
def sin : Sig := ⟨[], [.agg [.val I false, .val (.sl I) false, .val (.sl I) false, .val (.sl .bool) false], .one (.val (.sl I) false), .one (.val I false), .one (.val I false)]⟩
def sout : Sig := ⟨[.buf I false, .buf I false, .buf .bool false], [.agg [.val I false, .ref (.own 0), .ref (.own 1), .ref (.own 2)]]⟩
noncomputable def G {β : Type} (S : Sl) (a0 : Int) (a1 : (List Int)) (a2 : (List Int)) (a3 : (List Bool)) (a4 : (List Int)) (a5 : Int) (a6 : Int) (K : (List Int) → (List Int) → (List Bool) → Int → Option β) : Option β := spec_l21Copy.G S a0 a1 a2 a3 (fun y1 y2 y3 y4 => spec_l4All.G S a0 a4 (fun y5 => bif (S.ir a5 y5.length) then (bif (S.ir a5 y1.length) then (bif (S.ir a5 y2.length) then (bif (S.ir a5 y3.length) then (K (List.set y1 (Int.toNat a5) (List.getD y5 (Int.toNat a5) 0)) (List.set y2 (Int.toNat a5) a6) (List.set y3 (Int.toNat a5) true) y4) else (none)) else (none)) else (none)) else (none)))
noncomputable def o : Orac := ⟨101, sin, sout, fun s K => G sl0 s.2.1.1 s.2.1.2.1 s.2.1.2.2.1 s.2.1.2.2.2.1 s.2.2.1 s.2.2.2.1 s.2.2.2.2.1 (fun x0 x1 x2 x3 => K ((x0, (x1, (x2, ()))), ((x3, ()), ())))⟩
noncomputable def C : Ctx := ⟨tyT, [spec_l21Copy.o, spec_l4All.o], [], 33, 0⟩
theorem ctx : CtxOk Try.prog C := ⟨tyOk, all1 spec_l21Copy.ok (all1 spec_l4All.ok (all0))⟩
theorem eG (β : Type) (s : sin.den) (K : sout.den → Option β) : evalFn C Try.f101 sin sout s K = o.F s K := by kernel_rfl
theorem ok : OracOk Try.prog o := fn_ok mixed Try.func101 (by kernel_rfl) ctx (c := bodyC Try.f101) (by kernel_rfl) (all0) (by kernel_rfl) (by kernel_rfl) (by kernel_rfl) (Nat.le_of_ble_eq_true (by kernel_rfl)) eG (by kernel_rfl) (Nat.le_of_ble_eq_true (by kernel_rfl))
end spec_l21Put
end Go.Proofs.Ytjmboleiijhelaa.E
end
section
set_option linter.unusedVariables false
set_option linter.unusedSimpArgs false
namespace Go.Proofs.Ytjmboleiijhelaa.E
open Go Go.RowKit
set_option linter.unusedVariables false
set_option maxRecDepth 100000
namespace spec_l21Top
def sin : Sig := ⟨[], [.agg [.val I false, .val (.sl I) false, .val (.sl I) false, .val (.sl .bool) false]]⟩
def sout : Sig := ⟨[], [.one (.val I false)]⟩
def h3 : SS := ⟨[1, 3, 4], ⟨[.box [.val I false, .val (.sl I) false, .val (.sl I) false, .val (.sl .bool) false]], [.one (.ref (.ptr 0)), .one (.val I false), .one (.val I false)]⟩⟩
def x3 : SS := ⟨[3], ⟨[], [.one (.val I false)]⟩⟩
def y3 : SS := ⟨[], ⟨[], []⟩⟩
noncomputable def b3 {β : Type} (S : Sl) (L : Int → (List Int) → (List Int) → (List Bool) → Int → Int → Option β) (kx : Int → Option β) (kr : Option β) (s0 : Int) (s1 : (List Int)) (s2 : (List Int)) (s3 : (List Bool)) (s4 : Int) (s5 : Int) : Option β := bif (S.lt s5 (s2.length : Int)) then (bif (S.ir s5 s2.length) then (L s0 s1 s2 s3 (S.mx s4 (List.getD s2 (Int.toNat s5) 0)) (S.w (s5 + 1))) else (none)) else (kx s4)
noncomputable def r3 {β : Type} (S : Sl) (n : Nat) (kx : x3.sig.den → Option β) (kr : y3.sig.den → Option β) (s : h3.sig.den) : Option β := rounds (fun L kx kr s => b3 S (fun x0 x1 x2 x3 x4 x5 => L (((x0, (x1, (x2, (x3, ())))), ()), (x4, (x5, ())))) (fun x0 => kx ((), (x0, ()))) (kr ((), ())) s.1.1.1 s.1.1.2.1 s.1.1.2.2.1 s.1.1.2.2.2.1 s.2.1 s.2.2.1) kx kr n s
noncomputable def l3 {β : Type} (S : Sl) (n : Nat) (kx : Int → Option β) (kr : Option β) (s0 : Int) (s1 : (List Int)) (s2 : (List Int)) (s3 : (List Bool)) (s4 : Int) (s5 : Int) : Option β := r3 S n (fun s => kx s.2.1) (fun s => kr) (((s0, (s1, (s2, (s3, ())))), ()), (s4, (s5, ())))
theorem t3 {β : Type} (S : Sl) (n : Nat) (kx : Int → Option β) (kr : Option β) (s0 : Int) (s1 : (List Int)) (s2 : (List Int)) (s3 : (List Bool)) (s4 : Int) (s5 : Int) : l3 S (n + 1) kx kr s0 s1 s2 s3 s4 s5 = b3 S (l3 S n kx kr) kx kr s0 s1 s2 s3 s4 s5 := by kernel_rfl
noncomputable def G {β : Type} (S : Sl) (a0 : Int) (a1 : (List Int)) (a2 : (List Int)) (a3 : (List Bool)) (K : Int → Option β) : Option β := l3 S S.n (fun y1 => K y1) none a0 a1 a2 a3 0 0
noncomputable def o : Orac := ⟨84, sin, sout, fun s K => G sl0 s.2.1.1 s.2.1.2.1 s.2.1.2.2.1 s.2.1.2.2.2.1 (fun x0 => K ((), (x0, ())))⟩
noncomputable def C : Ctx := ⟨tyT, [], [⟨3, 0, h3, x3, y3, fun s kx kr => r3 sl0 sl0.n kx kr s⟩], 20, 0⟩
theorem ctx : CtxOk Try.prog C := ⟨tyOk, all0⟩
theorem e3 (β : Type) (L : h3.sig.den → Option β) (kx : x3.sig.den → Option β) (kr : y3.sig.den → Option β) (s : h3.sig.den) : evalBody C (nthC (loopsOf (bodyC Try.f84)) 0) 0 h3 x3 y3 L kx kr s = b3 sl0 (fun x0 x1 x2 x3 x4 x5 => L (((x0, (x1, (x2, (x3, ())))), ()), (x4, (x5, ())))) (fun x0 => kx ((), (x0, ()))) (kr ((), ())) s.1.1.1 s.1.1.2.1 s.1.1.2.2.1 s.1.1.2.2.2.1 s.2.1 s.2.2.1 := by kernel_rfl
theorem g3 : LS Try.prog C ⟨3, 0, h3, x3, y3, fun s kx kr => r3 sl0 sl0.n kx kr s⟩ (loopsOf (bodyC Try.f84)) := LS.at (i := 0) (by kernel_rfl) (loop_good mixed ctx (ctx_nat ctx) (N := sl0.n) (fun _ _ _ _ => rfl) e3 (all1 (LS.none (by kernel_rfl)) (all0)))
theorem eG (β : Type) (s : sin.den) (K : sout.den → Option β) : evalFn C Try.f84 sin sout s K = o.F s K := by kernel_rfl
theorem ok : OracOk Try.prog o := fn_ok mixed Try.func84 (by kernel_rfl) ctx (c := bodyC Try.f84) (by kernel_rfl) (all1 g3 (all0)) (by kernel_rfl) (by kernel_rfl) (by kernel_rfl) (Nat.le_of_ble_eq_true (by kernel_rfl)) eG (by kernel_rfl) (Nat.le_of_ble_eq_true (by kernel_rfl))
end spec_l21Top
end Go.Proofs.Ytjmboleiijhelaa.E
end
section
set_option linter.unusedVariables false
set_option linter.unusedSimpArgs false
namespace Go.Proofs.Ytjmboleiijhelaa.E
open Go Go.RowKit
set_option linter.unusedVariables false
set_option maxRecDepth 100000
namespace spec_StripeWrite
def sin : Sig := ⟨[], [.agg [.val I false, .val (.sl I) false, .val (.sl I) false, .val (.sl .bool) false], .one (.val (.sl I) false), .one (.val (.sl .bool) false)]⟩
def sout : Sig := ⟨[.buf I false, .buf I false, .buf .bool false], [.agg [.val I false, .ref (.own 0), .ref (.own 1), .ref (.own 2)], .one (.val .bool false)]⟩
def h7 : SS := ⟨[1, 2, 3, 6, 8, 9], ⟨[.box [.val I false, .val (.sl I) false, .val (.sl I) false, .val (.sl .bool) false], .box [.val I false, .ref .e0, .ref .e0, .ref .e0], .box [.val I false, .ref (.own 3), .ref (.own 4), .ref (.own 5)], .buf I false, .buf I false, .buf .bool false], [.one (.val (.sl I) false), .one (.val (.sl .bool) false), .one (.ref (.ptr 0)), .one (.ref (.ptr 1)), .one (.ref (.ptr 2)), .one (.val I false)]⟩⟩
def x7 : SS := ⟨[6, 8], ⟨[.box [.val I false, .ref .e0, .ref .e0, .ref .e0], .box [.val I false, .ref (.own 2), .ref (.own 3), .ref (.own 4)], .buf I false, .buf I false, .buf .bool false], [.one (.ref (.ptr 0)), .one (.ref (.ptr 1))]⟩⟩
def y7 : SS := ⟨[], ⟨[], []⟩⟩
noncomputable def b7 {β : Type} (S : Sl) (L : Int → (List Int) → (List Int) → (List Bool) → Int → Int → (List Int) → (List Int) → (List Bool) → (List Int) → (List Bool) → Int → Option β) (kx : Int → Int → (List Int) → (List Int) → (List Bool) → Option β) (kr : Option β) (s0 : Int) (s1 : (List Int)) (s2 : (List Int)) (s3 : (List Bool)) (s4 : Int) (s5 : Int) (s6 : (List Int)) (s7 : (List Int)) (s8 : (List Bool)) (s9 : (List Int)) (s10 : (List Bool)) (s11 : Int) : Option β := bif (S.lt s11 8) then (bif (S.ir s11 s10.length) then (bif (List.getD s10 (Int.toNat s11) false) then (spec_l21Top.G S s0 s1 s2 s3 (fun y1 => spec_l21Put.G S s5 s6 s7 s8 s9 s11 (S.w (y1 + 1)) (fun y2 y3 y4 y5 => L s0 s1 s2 s3 s4 y5 y2 y3 y4 s9 s10 (S.w (s11 + 1))))) else (L s0 s1 s2 s3 s4 s5 s6 s7 s8 s9 s10 (S.w (s11 + 1)))) else (none)) else (kx s4 s5 s6 s7 s8)
noncomputable def r7 {β : Type} (S : Sl) (n : Nat) (kx : x7.sig.den → Option β) (kr : y7.sig.den → Option β) (s : h7.sig.den) : Option β := rounds (fun L kx kr s => b7 S (fun x0 x1 x2 x3 x4 x5 x6 x7 x8 x9 x10 x11 => L (((x0, (x1, (x2, (x3, ())))), ((x4, ()), ((x5, ()), (x6, (x7, (x8, ())))))), (x9, (x10, (x11, ()))))) (fun x0 x1 x2 x3 x4 => kx (((x0, ()), ((x1, ()), (x2, (x3, (x4, ()))))), ())) (kr ((), ())) s.1.1.1 s.1.1.2.1 s.1.1.2.2.1 s.1.1.2.2.2.1 s.1.2.1.1 s.1.2.2.1.1 s.1.2.2.2.1 s.1.2.2.2.2.1 s.1.2.2.2.2.2.1 s.2.1 s.2.2.1 s.2.2.2.1) kx kr n s
noncomputable def l7 {β : Type} (S : Sl) (n : Nat) (kx : Int → Int → (List Int) → (List Int) → (List Bool) → Option β) (kr : Option β) (s0 : Int) (s1 : (List Int)) (s2 : (List Int)) (s3 : (List Bool)) (s4 : Int) (s5 : Int) (s6 : (List Int)) (s7 : (List Int)) (s8 : (List Bool)) (s9 : (List Int)) (s10 : (List Bool)) (s11 : Int) : Option β := r7 S n (fun s => kx s.1.1.1 s.1.2.1.1 s.1.2.2.1 s.1.2.2.2.1 s.1.2.2.2.2.1) (fun s => kr) (((s0, (s1, (s2, (s3, ())))), ((s4, ()), ((s5, ()), (s6, (s7, (s8, ())))))), (s9, (s10, (s11, ()))))
theorem t7 {β : Type} (S : Sl) (n : Nat) (kx : Int → Int → (List Int) → (List Int) → (List Bool) → Option β) (kr : Option β) (s0 : Int) (s1 : (List Int)) (s2 : (List Int)) (s3 : (List Bool)) (s4 : Int) (s5 : Int) (s6 : (List Int)) (s7 : (List Int)) (s8 : (List Bool)) (s9 : (List Int)) (s10 : (List Bool)) (s11 : Int) : l7 S (n + 1) kx kr s0 s1 s2 s3 s4 s5 s6 s7 s8 s9 s10 s11 = b7 S (l7 S n kx kr) kx kr s0 s1 s2 s3 s4 s5 s6 s7 s8 s9 s10 s11 := by kernel_rfl
noncomputable def G {β : Type} (S : Sl) (a0 : Int) (a1 : (List Int)) (a2 : (List Int)) (a3 : (List Bool)) (a4 : (List Int)) (a5 : (List Bool)) (K : (List Int) → (List Int) → (List Bool) → Int → Bool → Option β) : Option β := spec_StripeOk.G S a0 a1 a2 a3 (fun y1 => bif (!y1) then (K [] [] [] 0 false) else (spec_VecOk.G S a4 (fun y2 => bif (!y2) then (K [] [] [] 0 false) else (bif (!S.eq (a5.length : Int) 8) then (K [] [] [] 0 false) else (spec_l21Copy.G S a0 a1 a2 a3 (fun y3 y4 y5 y6 => spec_l21Top.G S a0 a1 a2 a3 (fun y7 => bif (S.le 99 y7) then (K y3 y4 y5 y6 false) else (l7 S S.n (fun y8 y9 y10 y11 y12 => K y10 y11 y12 y9 true) none a0 a1 a2 a3 0 y6 y3 y4 y5 a4 a5 0))))))))
noncomputable def o : Orac := ⟨81, sin, sout, fun s K => G sl0 s.2.1.1 s.2.1.2.1 s.2.1.2.2.1 s.2.1.2.2.2.1 s.2.2.1 s.2.2.2.1 (fun x0 x1 x2 x3 x4 => K ((x0, (x1, (x2, ()))), ((x3, ()), (x4, ()))))⟩
noncomputable def C : Ctx := ⟨tyT, [spec_StripeOk.o, spec_VecOk.o, spec_l21Copy.o, spec_l21Put.o, spec_l21Top.o], [⟨7, 0, h7, x7, y7, fun s kx kr => r7 sl0 sl0.n kx kr s⟩], 46, 0⟩
theorem ctx : CtxOk Try.prog C := ⟨tyOk, all1 spec_StripeOk.ok (all1 spec_VecOk.ok (all1 spec_l21Copy.ok (all1 spec_l21Put.ok (all1 spec_l21Top.ok (all0)))))⟩
theorem e7 (β : Type) (L : h7.sig.den → Option β) (kx : x7.sig.den → Option β) (kr : y7.sig.den → Option β) (s : h7.sig.den) : evalBody C (nthC (loopsOf (bodyC Try.f81)) 0) 0 h7 x7 y7 L kx kr s = b7 sl0 (fun x0 x1 x2 x3 x4 x5 x6 x7 x8 x9 x10 x11 => L (((x0, (x1, (x2, (x3, ())))), ((x4, ()), ((x5, ()), (x6, (x7, (x8, ())))))), (x9, (x10, (x11, ()))))) (fun x0 x1 x2 x3 x4 => kx (((x0, ()), ((x1, ()), (x2, (x3, (x4, ()))))), ())) (kr ((), ())) s.1.1.1 s.1.1.2.1 s.1.1.2.2.1 s.1.1.2.2.2.1 s.1.2.1.1 s.1.2.2.1.1 s.1.2.2.2.1 s.1.2.2.2.2.1 s.1.2.2.2.2.2.1 s.2.1 s.2.2.1 s.2.2.2.1 := by kernel_rfl
theorem g7 : LS Try.prog C ⟨7, 0, h7, x7, y7, fun s kx kr => r7 sl0 sl0.n kx kr s⟩ (loopsOf (bodyC Try.f81)) := LS.at (i := 0) (by kernel_rfl) (loop_good mixed ctx (ctx_nat ctx) (N := sl0.n) (fun _ _ _ _ => rfl) e7 (all1 (LS.none (by kernel_rfl)) (all0)))
theorem eG (β : Type) (s : sin.den) (K : sout.den → Option β) : evalFn C Try.f81 sin sout s K = o.F s K := by kernel_rfl
theorem ok : OracOk Try.prog o := fn_ok mixed Try.func81 (by kernel_rfl) ctx (c := bodyC Try.f81) (by kernel_rfl) (all1 g7 (all0)) (by kernel_rfl) (by kernel_rfl) (by kernel_rfl) (Nat.le_of_ble_eq_true (by kernel_rfl)) eG (by kernel_rfl) (Nat.le_of_ble_eq_true (by kernel_rfl))
end spec_StripeWrite
end Go.Proofs.Ytjmboleiijhelaa.E
end
section
set_option linter.unusedVariables false
set_option linter.unusedSimpArgs false
namespace Go.Proofs.Ytjmboleiijhelaa.E
open Go Go.RowKit
set_option linter.unusedVariables false
set_option maxRecDepth 100000
namespace spec_l21Lose
def sin : Sig := ⟨[], [.agg [.val I false, .val (.sl I) false, .val (.sl I) false, .val (.sl .bool) false], .one (.val I false)]⟩
def sout : Sig := ⟨[.buf I false, .buf I false, .buf .bool false], [.agg [.val I false, .ref (.own 0), .ref (.own 1), .ref (.own 2)]]⟩
noncomputable def G {β : Type} (S : Sl) (a0 : Int) (a1 : (List Int)) (a2 : (List Int)) (a3 : (List Bool)) (a4 : Int) (K : (List Int) → (List Int) → (List Bool) → Int → Option β) : Option β := spec_l21Copy.G S a0 a1 a2 a3 (fun y1 y2 y3 y4 => bif (S.ir a4 y1.length) then (bif (S.ir a4 y2.length) then (bif (S.ir a4 y3.length) then (K (List.set y1 (Int.toNat a4) 0) (List.set y2 (Int.toNat a4) 0) (List.set y3 (Int.toNat a4) false) y4) else (none)) else (none)) else (none))
noncomputable def o : Orac := ⟨40, sin, sout, fun s K => G sl0 s.2.1.1 s.2.1.2.1 s.2.1.2.2.1 s.2.1.2.2.2.1 s.2.2.1 (fun x0 x1 x2 x3 => K ((x0, (x1, (x2, ()))), ((x3, ()), ())))⟩
noncomputable def C : Ctx := ⟨tyT, [spec_l21Copy.o], [], 21, 0⟩
theorem ctx : CtxOk Try.prog C := ⟨tyOk, all1 spec_l21Copy.ok (all0)⟩
theorem eG (β : Type) (s : sin.den) (K : sout.den → Option β) : evalFn C Try.f40 sin sout s K = o.F s K := by kernel_rfl
theorem ok : OracOk Try.prog o := fn_ok mixed Try.func40 (by kernel_rfl) ctx (c := bodyC Try.f40) (by kernel_rfl) (all0) (by kernel_rfl) (by kernel_rfl) (by kernel_rfl) (Nat.le_of_ble_eq_true (by kernel_rfl)) eG (by kernel_rfl) (Nat.le_of_ble_eq_true (by kernel_rfl))
end spec_l21Lose
end Go.Proofs.Ytjmboleiijhelaa.E
end
section
set_option linter.unusedVariables false
set_option linter.unusedSimpArgs false
namespace Go.Proofs.Ytjmboleiijhelaa.E
open Go Go.RowKit
set_option linter.unusedVariables false
set_option maxRecDepth 100000
namespace spec_l4Set
def sin : Sig := ⟨[], [.one (.val I false)]⟩
def sout : Sig := ⟨[.buf .bool false], [.one (.ref (.own 0))]⟩
def h3 : SS := ⟨[0, 3, 4], ⟨[.buf .bool false], [.one (.val I false), .one (.ref (.own 0)), .one (.val I false)]⟩⟩
def x3 : SS := ⟨[3], ⟨[.buf .bool false], [.one (.ref (.own 0))]⟩⟩
def y3 : SS := ⟨[], ⟨[], []⟩⟩
noncomputable def b3 {β : Type} (S : Sl) (L : (List Bool) → Int → Int → Option β) (kx : (List Bool) → Option β) (kr : Option β) (s0 : (List Bool)) (s1 : Int) (s2 : Int) : Option β := bif (S.lt s2 (s0.length : Int)) then (bif (S.ir s2 s0.length) then (L (List.set s0 (Int.toNat s2) (S.eq (Int.tmod s1 2) 1)) (S.w (Int.tdiv s1 2)) (S.w (s2 + 1))) else (none)) else (kx s0)
noncomputable def r3 {β : Type} (S : Sl) (n : Nat) (kx : x3.sig.den → Option β) (kr : y3.sig.den → Option β) (s : h3.sig.den) : Option β := rounds (fun L kx kr s => b3 S (fun x0 x1 x2 => L ((x0, ()), (x1, (x2, ())))) (fun x0 => kx ((x0, ()), ())) (kr ((), ())) s.1.1 s.2.1 s.2.2.1) kx kr n s
noncomputable def l3 {β : Type} (S : Sl) (n : Nat) (kx : (List Bool) → Option β) (kr : Option β) (s0 : (List Bool)) (s1 : Int) (s2 : Int) : Option β := r3 S n (fun s => kx s.1.1) (fun s => kr) ((s0, ()), (s1, (s2, ())))
theorem t3 {β : Type} (S : Sl) (n : Nat) (kx : (List Bool) → Option β) (kr : Option β) (s0 : (List Bool)) (s1 : Int) (s2 : Int) : l3 S (n + 1) kx kr s0 s1 s2 = b3 S (l3 S n kx kr) kx kr s0 s1 s2 := by kernel_rfl
noncomputable def G {β : Type} (S : Sl) (a0 : Int) (K : (List Bool) → Option β) : Option β := bif ((S.le 0 8) && (S.le 8 8) && S.fw (Int.toNat 8)) then (l3 S S.n (fun y1 => K y1) none (List.replicate (Int.toNat 8) false) a0 0) else (none)
noncomputable def o : Orac := ⟨99, sin, sout, fun s K => G sl0 s.2.1 (fun x0 => K ((x0, ()), ()))⟩
noncomputable def C : Ctx := ⟨tyT, [], [⟨3, 0, h3, x3, y3, fun s kx kr => r3 sl0 sl0.n kx kr s⟩], 21, 0⟩
theorem ctx : CtxOk Try.prog C := ⟨tyOk, all0⟩
theorem e3 (β : Type) (L : h3.sig.den → Option β) (kx : x3.sig.den → Option β) (kr : y3.sig.den → Option β) (s : h3.sig.den) : evalBody C (nthC (loopsOf (bodyC Try.f99)) 0) 0 h3 x3 y3 L kx kr s = b3 sl0 (fun x0 x1 x2 => L ((x0, ()), (x1, (x2, ())))) (fun x0 => kx ((x0, ()), ())) (kr ((), ())) s.1.1 s.2.1 s.2.2.1 := by kernel_rfl
theorem g3 : LS Try.prog C ⟨3, 0, h3, x3, y3, fun s kx kr => r3 sl0 sl0.n kx kr s⟩ (loopsOf (bodyC Try.f99)) := LS.at (i := 0) (by kernel_rfl) (loop_good mixed ctx (ctx_nat ctx) (N := sl0.n) (fun _ _ _ _ => rfl) e3 (all1 (LS.none (by kernel_rfl)) (all0)))
theorem eG (β : Type) (s : sin.den) (K : sout.den → Option β) : evalFn C Try.f99 sin sout s K = o.F s K := by kernel_rfl
theorem ok : OracOk Try.prog o := fn_ok mixed Try.func99 (by kernel_rfl) ctx (c := bodyC Try.f99) (by kernel_rfl) (all1 g3 (all0)) (by kernel_rfl) (by kernel_rfl) (by kernel_rfl) (Nat.le_of_ble_eq_true (by kernel_rfl)) eG (by kernel_rfl) (Nat.le_of_ble_eq_true (by kernel_rfl))
end spec_l4Set
end Go.Proofs.Ytjmboleiijhelaa.E
end
section
set_option linter.unusedVariables false
set_option linter.unusedSimpArgs false
namespace Go.Proofs.Ytjmboleiijhelaa.E
open Go Go.RowKit
set_option linter.unusedVariables false
set_option maxRecDepth 100000
namespace spec_l21New
def sin : Sig := ⟨[], [.one (.val I false), .one (.val (.sl I) false), .one (.val I false)]⟩
def sout : Sig := ⟨[.buf I false, .buf I false, .buf .bool false], [.agg [.val I false, .ref (.own 0), .ref (.own 1), .ref (.own 2)]]⟩
def h3 : SS := ⟨[2, 6, 7, 8], ⟨[.box [.val I false, .ref .e0, .ref .e0, .ref .e0], .box [.val I false, .ref (.own 2), .ref (.own 3), .ref (.own 4)], .buf I false, .buf I false, .buf .bool false], [.one (.val I false), .one (.ref (.ptr 0)), .one (.ref (.ptr 1)), .one (.val I false)]⟩⟩
def x3 : SS := ⟨[6, 7], ⟨[.box [.val I false, .ref .e0, .ref .e0, .ref .e0], .box [.val I false, .ref (.own 2), .ref (.own 3), .ref (.own 4)], .buf I false, .buf I false, .buf .bool false], [.one (.ref (.ptr 0)), .one (.ref (.ptr 1))]⟩⟩
def y3 : SS := ⟨[], ⟨[], []⟩⟩
noncomputable def b3 {β : Type} (S : Sl) (L : Int → Int → (List Int) → (List Int) → (List Bool) → Int → Int → Option β) (kx : Int → Int → (List Int) → (List Int) → (List Bool) → Option β) (kr : Option β) (s0 : Int) (s1 : Int) (s2 : (List Int)) (s3 : (List Int)) (s4 : (List Bool)) (s5 : Int) (s6 : Int) : Option β := bif (S.lt s6 8) then (bif (S.fw (s3 ++ [s5]).length) then (L s0 s1 s2 (s3 ++ [s5]) s4 s5 (S.w (s6 + 1))) else (none)) else (kx s0 s1 s2 s3 s4)
noncomputable def r3 {β : Type} (S : Sl) (n : Nat) (kx : x3.sig.den → Option β) (kr : y3.sig.den → Option β) (s : h3.sig.den) : Option β := rounds (fun L kx kr s => b3 S (fun x0 x1 x2 x3 x4 x5 x6 => L (((x0, ()), ((x1, ()), (x2, (x3, (x4, ()))))), (x5, (x6, ())))) (fun x0 x1 x2 x3 x4 => kx (((x0, ()), ((x1, ()), (x2, (x3, (x4, ()))))), ())) (kr ((), ())) s.1.1.1 s.1.2.1.1 s.1.2.2.1 s.1.2.2.2.1 s.1.2.2.2.2.1 s.2.1 s.2.2.1) kx kr n s
noncomputable def l3 {β : Type} (S : Sl) (n : Nat) (kx : Int → Int → (List Int) → (List Int) → (List Bool) → Option β) (kr : Option β) (s0 : Int) (s1 : Int) (s2 : (List Int)) (s3 : (List Int)) (s4 : (List Bool)) (s5 : Int) (s6 : Int) : Option β := r3 S n (fun s => kx s.1.1.1 s.1.2.1.1 s.1.2.2.1 s.1.2.2.2.1 s.1.2.2.2.2.1) (fun s => kr) (((s0, ()), ((s1, ()), (s2, (s3, (s4, ()))))), (s5, (s6, ())))
theorem t3 {β : Type} (S : Sl) (n : Nat) (kx : Int → Int → (List Int) → (List Int) → (List Bool) → Option β) (kr : Option β) (s0 : Int) (s1 : Int) (s2 : (List Int)) (s3 : (List Int)) (s4 : (List Bool)) (s5 : Int) (s6 : Int) : l3 S (n + 1) kx kr s0 s1 s2 s3 s4 s5 s6 = b3 S (l3 S n kx kr) kx kr s0 s1 s2 s3 s4 s5 s6 := by kernel_rfl
noncomputable def G {β : Type} (S : Sl) (a0 : Int) (a1 : (List Int)) (a2 : Int) (K : (List Int) → (List Int) → (List Bool) → Int → Option β) : Option β := spec_l4All.G S a0 a1 (fun y1 => spec_l4Set.G S 255 (fun y2 => l3 S S.n (fun y3 y4 y5 y6 y7 => K y5 y6 y7 y4) none 0 a0 y1 [] y2 a2 0))
noncomputable def o : Orac := ⟨79, sin, sout, fun s K => G sl0 s.2.1 s.2.2.1 s.2.2.2.1 (fun x0 x1 x2 x3 => K ((x0, (x1, (x2, ()))), ((x3, ()), ())))⟩
noncomputable def C : Ctx := ⟨tyT, [spec_l4All.o, spec_l4Set.o], [⟨3, 0, h3, x3, y3, fun s kx kr => r3 sl0 sl0.n kx kr s⟩], 26, 0⟩
theorem ctx : CtxOk Try.prog C := ⟨tyOk, all1 spec_l4All.ok (all1 spec_l4Set.ok (all0))⟩
theorem e3 (β : Type) (L : h3.sig.den → Option β) (kx : x3.sig.den → Option β) (kr : y3.sig.den → Option β) (s : h3.sig.den) : evalBody C (nthC (loopsOf (bodyC Try.f79)) 0) 0 h3 x3 y3 L kx kr s = b3 sl0 (fun x0 x1 x2 x3 x4 x5 x6 => L (((x0, ()), ((x1, ()), (x2, (x3, (x4, ()))))), (x5, (x6, ())))) (fun x0 x1 x2 x3 x4 => kx (((x0, ()), ((x1, ()), (x2, (x3, (x4, ()))))), ())) (kr ((), ())) s.1.1.1 s.1.2.1.1 s.1.2.2.1 s.1.2.2.2.1 s.1.2.2.2.2.1 s.2.1 s.2.2.1 := by kernel_rfl
theorem g3 : LS Try.prog C ⟨3, 0, h3, x3, y3, fun s kx kr => r3 sl0 sl0.n kx kr s⟩ (loopsOf (bodyC Try.f79)) := LS.at (i := 0) (by kernel_rfl) (loop_good mixed ctx (ctx_nat ctx) (N := sl0.n) (fun _ _ _ _ => rfl) e3 (all1 (LS.none (by kernel_rfl)) (all0)))
theorem eG (β : Type) (s : sin.den) (K : sout.den → Option β) : evalFn C Try.f79 sin sout s K = o.F s K := by kernel_rfl
theorem ok : OracOk Try.prog o := fn_ok mixed Try.func79 (by kernel_rfl) ctx (c := bodyC Try.f79) (by kernel_rfl) (all1 g3 (all0)) (by kernel_rfl) (by kernel_rfl) (by kernel_rfl) (Nat.le_of_ble_eq_true (by kernel_rfl)) eG (by kernel_rfl) (Nat.le_of_ble_eq_true (by kernel_rfl))
end spec_l21New
end Go.Proofs.Ytjmboleiijhelaa.E
end
section
set_option linter.unusedVariables false
set_option linter.unusedSimpArgs false
namespace Go.Proofs.Ytjmboleiijhelaa.E
open Go Go.RowKit
set_option linter.unusedVariables false
set_option maxRecDepth 100000
namespace spec_l91Kind
def sin : Sig := ⟨[.box [.val (.sl (.int .u8)) false, .val I false]], [.one (.ref (.ptr 0))]⟩
def sout : Sig := ⟨[.box [.val (.sl (.int .u8)) false, .val I false]], [.one (.val I false)]⟩
noncomputable def G {β : Type} (S : Sl) (a0 : (List Int)) (a1 : Int) (K : (List Int) → Int → Int → Option β) : Option β := spec_l6Rd_pick.G S a0 a1 40 (fun y1 y2 y3 => bif (S.eq y3 0) then (spec_l6Rd_pick.G S y1 y2 2 (fun y4 y5 y6 => bif (S.ir y6 [0, 3].length) then (K y4 y5 (List.getD [0, 3] (Int.toNat y6) 0)) else (none))) else (spec_l6Rd_pick.G S y1 y2 2 (fun y7 y8 y9 => K y7 y8 (S.w ((1 : Int) + y9)))))
noncomputable def o : Orac := ⟨83, sin, sout, fun s K => G sl0 s.1.1.1 s.1.1.2.1 (fun x0 x1 x2 => K (((x0, (x1, ())), ()), (x2, ())))⟩
noncomputable def C : Ctx := ⟨tyT, [spec_l6Rd_pick.o], [], 14, 1⟩
theorem ctx : CtxOk Try.prog C := ⟨tyOk, all1 spec_l6Rd_pick.ok (all0)⟩
theorem eG (β : Type) (s : sin.den) (K : sout.den → Option β) : evalFn C Try.f83 sin sout s K = o.F s K := by kernel_rfl
theorem ok : OracOk Try.prog o := fn_ok mixed Try.func83 (by kernel_rfl) ctx (c := bodyC Try.f83) (by kernel_rfl) (all0) (by kernel_rfl) (by kernel_rfl) (by kernel_rfl) (Nat.le_of_ble_eq_true (by kernel_rfl)) eG (by kernel_rfl) (Nat.le_of_ble_eq_true (by kernel_rfl))
end spec_l91Kind
end Go.Proofs.Ytjmboleiijhelaa.E
end
section
set_option linter.unusedVariables false
set_option linter.unusedSimpArgs false
namespace Go.Proofs.Ytjmboleiijhelaa.E
open Go Go.RowKit
set_option linter.unusedVariables false
set_option maxRecDepth 100000
namespace spec_l92Data
def sin : Sig := ⟨[.box [.val (.sl (.int .u8)) false, .val I false]], [.one (.ref (.ptr 0))]⟩
def sout : Sig := ⟨[.box [.val (.sl (.int .u8)) false, .val I false], .buf I false], [.one (.ref (.own 1))]⟩
noncomputable def G {β : Type} (S : Sl) (a0 : (List Int)) (a1 : Int) (K : (List Int) → Int → (List Int) → Option β) : Option β := spec_l6Rd_pick.G S a0 a1 31 (fun y1 y2 y3 => spec_l6Rd_pick.G S y1 y2 4 (fun y4 y5 y6 => spec_l6Rd_pick.G S y4 y5 31 (fun y7 y8 y9 => spec_l6Rd_pick.G S y7 y8 27 (fun y10 y11 y12 => K y10 y11 [y3, y6, y9, y12]))))
noncomputable def o : Orac := ⟨80, sin, sout, fun s K => G sl0 s.1.1.1 s.1.1.2.1 (fun x0 x1 x2 => K (((x0, (x1, ())), (x2, ())), ()))⟩
noncomputable def C : Ctx := ⟨tyT, [spec_l6Rd_pick.o], [], 12, 1⟩
theorem ctx : CtxOk Try.prog C := ⟨tyOk, all1 spec_l6Rd_pick.ok (all0)⟩
theorem eG (β : Type) (s : sin.den) (K : sout.den → Option β) : evalFn C Try.f80 sin sout s K = o.F s K := by kernel_rfl
theorem ok : OracOk Try.prog o := fn_ok mixed Try.func80 (by kernel_rfl) ctx (c := bodyC Try.f80) (by kernel_rfl) (all0) (by kernel_rfl) (by kernel_rfl) (by kernel_rfl) (Nat.le_of_ble_eq_true (by kernel_rfl)) eG (by kernel_rfl) (Nat.le_of_ble_eq_true (by kernel_rfl))
end spec_l92Data
end Go.Proofs.Ytjmboleiijhelaa.E
end
section
set_option linter.unusedVariables false
set_option linter.unusedSimpArgs false
namespace Go.Proofs.Ytjmboleiijhelaa.E
open Go Go.RowKit
set_option linter.unusedVariables false
set_option maxRecDepth 100000
namespace spec_l92Which
def sin : Sig := ⟨[.box [.val (.sl (.int .u8)) false, .val I false]], [.one (.ref (.ptr 0))]⟩
def sout : Sig := ⟨[.box [.val (.sl (.int .u8)) false, .val I false], .buf .bool false], [.one (.ref (.own 1))]⟩
noncomputable def G {β : Type} (S : Sl) (a0 : (List Int)) (a1 : Int) (K : (List Int) → Int → (List Bool) → Option β) : Option β := spec_l6Rd_pick.G S a0 a1 3 (fun y1 y2 y3 => bif (S.eq y3 0) then (spec_l4Set.G S 255 (fun y4 => K y1 y2 y4)) else (spec_l6Rd_pick.G S y1 y2 256 (fun y5 y6 y7 => spec_l4Set.G S y7 (fun y8 => K y5 y6 y8))))
noncomputable def o : Orac := ⟨82, sin, sout, fun s K => G sl0 s.1.1.1 s.1.1.2.1 (fun x0 x1 x2 => K (((x0, (x1, ())), (x2, ())), ()))⟩
noncomputable def C : Ctx := ⟨tyT, [spec_l4Set.o, spec_l6Rd_pick.o], [], 10, 1⟩
theorem ctx : CtxOk Try.prog C := ⟨tyOk, all1 spec_l4Set.ok (all1 spec_l6Rd_pick.ok (all0))⟩
theorem eG (β : Type) (s : sin.den) (K : sout.den → Option β) : evalFn C Try.f82 sin sout s K = o.F s K := by kernel_rfl
theorem ok : OracOk Try.prog o := fn_ok mixed Try.func82 (by kernel_rfl) ctx (c := bodyC Try.f82) (by kernel_rfl) (all0) (by kernel_rfl) (by kernel_rfl) (by kernel_rfl) (Nat.le_of_ble_eq_true (by kernel_rfl)) eG (by kernel_rfl) (Nat.le_of_ble_eq_true (by kernel_rfl))
end spec_l92Which
end Go.Proofs.Ytjmboleiijhelaa.E
end
section
set_option linter.unusedVariables false
set_option linter.unusedSimpArgs false
namespace Go.Proofs.Ytjmboleiijhelaa.E
open Go Go.RowKit
set_option linter.unusedVariables false
set_option maxRecDepth 100000
namespace spec_l92Stripe
def sin : Sig := ⟨[.box [.val (.sl (.int .u8)) false, .val I false]], [.one (.ref (.ptr 0))]⟩
def sout : Sig := ⟨[.box [.val (.sl (.int .u8)) false, .val I false], .buf I false, .buf I false, .buf .bool false], [.agg [.val I false, .ref (.own 1), .ref (.own 2), .ref (.own 3)]]⟩
def h23 : SS := ⟨[2, 3, 7], ⟨[.box [.val (.sl (.int .u8)) false, .val I false], .box [.val I false, .ref .e0, .ref .e0, .ref .e0], .box [.val I false, .ref (.own 3), .ref (.own 4), .ref (.own 5)], .buf I false, .buf I false, .buf .bool false], [.one (.ref (.ptr 1)), .one (.ref (.ptr 2)), .one (.val I false)]⟩⟩
def x23 : SS := ⟨[2, 3], ⟨[.box [.val (.sl (.int .u8)) false, .val I false], .box [.val I false, .ref .e0, .ref .e0, .ref .e0], .box [.val I false, .ref (.own 3), .ref (.own 4), .ref (.own 5)], .buf I false, .buf I false, .buf .bool false], [.one (.ref (.ptr 1)), .one (.ref (.ptr 2))]⟩⟩
def y23 : SS := ⟨[], ⟨[], []⟩⟩
noncomputable def b23 {β : Type} (S : Sl) (L : (List Int) → Int → Int → Int → (List Int) → (List Int) → (List Bool) → Int → Option β) (kx : (List Int) → Int → Int → Int → (List Int) → (List Int) → (List Bool) → Option β) (kr : Option β) (s0 : (List Int)) (s1 : Int) (s2 : Int) (s3 : Int) (s4 : (List Int)) (s5 : (List Int)) (s6 : (List Bool)) (s7 : Int) : Option β := bif (S.lt s7 (s5.length : Int)) then (bif (S.ir s7 s6.length) then (bif (List.getD s6 (Int.toNat s7) false) then (bif (S.ir s7 s5.length) then (spec_l21Top.G S s3 s4 s5 s6 (fun y1 => bif (S.ir s7 s5.length) then (L s0 s1 s2 s3 s4 (List.set s5 (Int.toNat s7) (S.w ((S.w ((List.getD s5 (Int.toNat s7) 0) + 99)) - y1))) s6 (S.w (s7 + 1))) else (none))) else (none)) else (L s0 s1 s2 s3 s4 s5 s6 (S.w (s7 + 1)))) else (none)) else (kx s0 s1 s2 s3 s4 s5 s6)
noncomputable def r23 {β : Type} (S : Sl) (n : Nat) (kx : x23.sig.den → Option β) (kr : y23.sig.den → Option β) (s : h23.sig.den) : Option β := rounds (fun L kx kr s => b23 S (fun x0 x1 x2 x3 x4 x5 x6 x7 => L (((x0, (x1, ())), ((x2, ()), ((x3, ()), (x4, (x5, (x6, ())))))), (x7, ()))) (fun x0 x1 x2 x3 x4 x5 x6 => kx (((x0, (x1, ())), ((x2, ()), ((x3, ()), (x4, (x5, (x6, ())))))), ())) (kr ((), ())) s.1.1.1 s.1.1.2.1 s.1.2.1.1 s.1.2.2.1.1 s.1.2.2.2.1 s.1.2.2.2.2.1 s.1.2.2.2.2.2.1 s.2.1) kx kr n s
noncomputable def l23 {β : Type} (S : Sl) (n : Nat) (kx : (List Int) → Int → Int → Int → (List Int) → (List Int) → (List Bool) → Option β) (kr : Option β) (s0 : (List Int)) (s1 : Int) (s2 : Int) (s3 : Int) (s4 : (List Int)) (s5 : (List Int)) (s6 : (List Bool)) (s7 : Int) : Option β := r23 S n (fun s => kx s.1.1.1 s.1.1.2.1 s.1.2.1.1 s.1.2.2.1.1 s.1.2.2.2.1 s.1.2.2.2.2.1 s.1.2.2.2.2.2.1) (fun s => kr) (((s0, (s1, ())), ((s2, ()), ((s3, ()), (s4, (s5, (s6, ())))))), (s7, ()))
theorem t23 {β : Type} (S : Sl) (n : Nat) (kx : (List Int) → Int → Int → Int → (List Int) → (List Int) → (List Bool) → Option β) (kr : Option β) (s0 : (List Int)) (s1 : Int) (s2 : Int) (s3 : Int) (s4 : (List Int)) (s5 : (List Int)) (s6 : (List Bool)) (s7 : Int) : l23 S (n + 1) kx kr s0 s1 s2 s3 s4 s5 s6 s7 = b23 S (l23 S n kx kr) kx kr s0 s1 s2 s3 s4 s5 s6 s7 := by kernel_rfl
def h3 : SS := ⟨[0, 2, 3, 4], ⟨[.box [.val (.sl (.int .u8)) false, .val I false], .box [.val I false, .ref .e0, .ref .e0, .ref .e0], .box [.val I false, .ref (.own 3), .ref (.own 4), .ref (.own 5)], .buf I false, .buf I false, .buf .bool false], [.one (.ref (.ptr 0)), .one (.ref (.ptr 1)), .one (.ref (.ptr 2)), .one (.val I false)]⟩⟩
def x3 : SS := ⟨[0, 2, 3], ⟨[.box [.val (.sl (.int .u8)) false, .val I false], .box [.val I false, .ref .e0, .ref .e0, .ref .e0], .box [.val I false, .ref (.own 3), .ref (.own 4), .ref (.own 5)], .buf I false, .buf I false, .buf .bool false], [.one (.ref (.ptr 0)), .one (.ref (.ptr 1)), .one (.ref (.ptr 2))]⟩⟩
def y3 : SS := ⟨[], ⟨[], []⟩⟩
noncomputable def b3 {β : Type} (S : Sl) (L : (List Int) → Int → Int → Int → (List Int) → (List Int) → (List Bool) → Int → Option β) (kx : (List Int) → Int → Int → Int → (List Int) → (List Int) → (List Bool) → Option β) (kr : Option β) (s0 : (List Int)) (s1 : Int) (s2 : Int) (s3 : Int) (s4 : (List Int)) (s5 : (List Int)) (s6 : (List Bool)) (s7 : Int) : Option β := bif (S.lt 0 s7) then (spec_l6Rd_pick.G S s0 s1 3 (fun y1 y2 y3 => bif (S.eq y3 0) then (spec_l92Data.G S y1 y2 (fun y4 y5 y6 => spec_l92Which.G S y4 y5 (fun y7 y8 y9 => spec_StripeWrite.G S s3 s4 s5 s6 y6 y9 (fun y10 y11 y12 y13 y14 => bif y14 then (L y7 y8 s2 y13 y10 y11 y12 (S.w (s7 - 1))) else (L y7 y8 s2 s3 s4 s5 s6 (S.w (s7 - 1))))))) else (spec_l6Rd_pick.G S y1 y2 8 (fun y15 y16 y17 => spec_l21Lose.G S s3 s4 s5 s6 y17 (fun y18 y19 y20 y21 => L y15 y16 s2 y21 y18 y19 y20 (S.w (s7 - 1))))))) else (kx s0 s1 s2 s3 s4 s5 s6)
noncomputable def r3 {β : Type} (S : Sl) (n : Nat) (kx : x3.sig.den → Option β) (kr : y3.sig.den → Option β) (s : h3.sig.den) : Option β := rounds (fun L kx kr s => b3 S (fun x0 x1 x2 x3 x4 x5 x6 x7 => L (((x0, (x1, ())), ((x2, ()), ((x3, ()), (x4, (x5, (x6, ())))))), (x7, ()))) (fun x0 x1 x2 x3 x4 x5 x6 => kx (((x0, (x1, ())), ((x2, ()), ((x3, ()), (x4, (x5, (x6, ())))))), ())) (kr ((), ())) s.1.1.1 s.1.1.2.1 s.1.2.1.1 s.1.2.2.1.1 s.1.2.2.2.1 s.1.2.2.2.2.1 s.1.2.2.2.2.2.1 s.2.1) kx kr n s
noncomputable def l3 {β : Type} (S : Sl) (n : Nat) (kx : (List Int) → Int → Int → Int → (List Int) → (List Int) → (List Bool) → Option β) (kr : Option β) (s0 : (List Int)) (s1 : Int) (s2 : Int) (s3 : Int) (s4 : (List Int)) (s5 : (List Int)) (s6 : (List Bool)) (s7 : Int) : Option β := r3 S n (fun s => kx s.1.1.1 s.1.1.2.1 s.1.2.1.1 s.1.2.2.1.1 s.1.2.2.2.1 s.1.2.2.2.2.1 s.1.2.2.2.2.2.1) (fun s => kr) (((s0, (s1, ())), ((s2, ()), ((s3, ()), (s4, (s5, (s6, ())))))), (s7, ()))
theorem t3 {β : Type} (S : Sl) (n : Nat) (kx : (List Int) → Int → Int → Int → (List Int) → (List Int) → (List Bool) → Option β) (kr : Option β) (s0 : (List Int)) (s1 : Int) (s2 : Int) (s3 : Int) (s4 : (List Int)) (s5 : (List Int)) (s6 : (List Bool)) (s7 : Int) : l3 S (n + 1) kx kr s0 s1 s2 s3 s4 s5 s6 s7 = b3 S (l3 S n kx kr) kx kr s0 s1 s2 s3 s4 s5 s6 s7 := by kernel_rfl
noncomputable def G {β : Type} (S : Sl) (a0 : (List Int)) (a1 : Int) (K : (List Int) → Int → (List Int) → (List Int) → (List Bool) → Int → Option β) : Option β := spec_l6Rd_pick.G S a0 a1 2 (fun y1 y2 y3 => spec_l92Data.G S y1 y2 (fun y4 y5 y6 => spec_l6Rd_pick.G S y4 y5 3 (fun y7 y8 y9 => spec_l21New.G S (S.w ((1 : Int) + y3)) y6 (S.w ((1 : Int) + y9)) (fun y10 y11 y12 y13 => spec_l6Rd_pick.G S y7 y8 4 (fun y14 y15 y16 => l3 S S.n (fun y17 y18 y19 y20 y21 y22 y23 => spec_l6Rd_pick.G S y17 y18 30 (fun y24 y25 y26 => bif (S.eq y26 0) then (spec_l6Rd_pick.G S y24 y25 8 (fun y27 y28 y29 => spec_l91Num.G S y27 y28 (fun y30 y31 y32 => bif (S.ir y29 y21.length) then (K y30 y31 (List.set y21 (Int.toNat y29) y32) y22 y23 y20) else (none)))) else (bif (S.eq y26 1) then (spec_l6Rd_pick.G S y24 y25 8 (fun y33 y34 y35 => spec_l6Rd_pick.G S y33 y34 5 (fun y36 y37 y38 => bif (S.ir y35 y22.length) then (K y36 y37 y21 (List.set y22 (Int.toNat y35) y38) y23 y20) else (none)))) else (bif (S.eq y26 2) then (spec_l6Rd_pick.G S y24 y25 8 (fun y39 y40 y41 => bif (S.ir y41 y23.length) then (K y39 y40 y21 y22 (List.set y23 (Int.toNat y41) false) y20) else (none))) else (bif (S.eq y26 3) then (spec_l91Kind.G S y24 y25 (fun y42 y43 y44 => K y42 y43 y21 y22 y23 y44)) else (bif (S.eq y26 4) then (spec_StripeOk.G S y20 y21 y22 y23 (fun y45 => bif y45 then (l23 S S.n (fun y46 y47 y48 y49 y50 y51 y52 => K y46 y47 y50 y51 y52 y49) none y24 y25 y19 y20 y21 y22 y23 0) else (K y24 y25 y21 y22 y23 y20))) else (K y24 y25 y21 y22 y23 y20))))))) none y14 y15 0 y13 y10 y11 y12 y16)))))
noncomputable def o : Orac := ⟨59, sin, sout, fun s K => G sl0 s.1.1.1 s.1.1.2.1 (fun x0 x1 x2 x3 x4 x5 => K (((x0, (x1, ())), (x2, (x3, (x4, ())))), ((x5, ()), ())))⟩
noncomputable def C : Ctx := ⟨tyT, [spec_StripeOk.o, spec_StripeWrite.o, spec_l21Lose.o, spec_l21New.o, spec_l21Top.o, spec_l6Rd_pick.o, spec_l91Kind.o, spec_l91Num.o, spec_l92Data.o, spec_l92Which.o], [⟨3, 0, h3, x3, y3, fun s kx kr => r3 sl0 sl0.n kx kr s⟩, ⟨23, 4, h23, x23, y23, fun s kx kr => r23 sl0 sl0.n kx kr s⟩], 104, 1⟩
theorem ctx : CtxOk Try.prog C := ⟨tyOk, all1 spec_StripeOk.ok (all1 spec_StripeWrite.ok (all1 spec_l21Lose.ok (all1 spec_l21New.ok (all1 spec_l21Top.ok (all1 spec_l6Rd_pick.ok (all1 spec_l91Kind.ok (all1 spec_l91Num.ok (all1 spec_l92Data.ok (all1 spec_l92Which.ok (all0))))))))))⟩
theorem e23 (β : Type) (L : h23.sig.den → Option β) (kx : x23.sig.den → Option β) (kr : y23.sig.den → Option β) (s : h23.sig.den) : evalBody C (nthC (loopsOf (bodyC Try.f59)) 1) 4 h23 x23 y23 L kx kr s = b23 sl0 (fun x0 x1 x2 x3 x4 x5 x6 x7 => L (((x0, (x1, ())), ((x2, ()), ((x3, ()), (x4, (x5, (x6, ())))))), (x7, ()))) (fun x0 x1 x2 x3 x4 x5 x6 => kx (((x0, (x1, ())), ((x2, ()), ((x3, ()), (x4, (x5, (x6, ())))))), ())) (kr ((), ())) s.1.1.1 s.1.1.2.1 s.1.2.1.1 s.1.2.2.1.1 s.1.2.2.2.1 s.1.2.2.2.2.1 s.1.2.2.2.2.2.1 s.2.1 := by kernel_rfl
theorem g23 : LS Try.prog C ⟨23, 4, h23, x23, y23, fun s kx kr => r23 sl0 sl0.n kx kr s⟩ (loopsOf (bodyC Try.f59)) := LS.at (i := 1) (by kernel_rfl) (loop_good mixed ctx (ctx_nat ctx) (N := sl0.n) (fun _ _ _ _ => rfl) e23 (all1 (LS.none (by kernel_rfl)) (all1 (LS.none (by kernel_rfl)) (all0))))
theorem e3 (β : Type) (L : h3.sig.den → Option β) (kx : x3.sig.den → Option β) (kr : y3.sig.den → Option β) (s : h3.sig.den) : evalBody C (nthC (loopsOf (bodyC Try.f59)) 0) 0 h3 x3 y3 L kx kr s = b3 sl0 (fun x0 x1 x2 x3 x4 x5 x6 x7 => L (((x0, (x1, ())), ((x2, ()), ((x3, ()), (x4, (x5, (x6, ())))))), (x7, ()))) (fun x0 x1 x2 x3 x4 x5 x6 => kx (((x0, (x1, ())), ((x2, ()), ((x3, ()), (x4, (x5, (x6, ())))))), ())) (kr ((), ())) s.1.1.1 s.1.1.2.1 s.1.2.1.1 s.1.2.2.1.1 s.1.2.2.2.1 s.1.2.2.2.2.1 s.1.2.2.2.2.2.1 s.2.1 := by kernel_rfl
theorem g3 : LS Try.prog C ⟨3, 0, h3, x3, y3, fun s kx kr => r3 sl0 sl0.n kx kr s⟩ (loopsOf (bodyC Try.f59)) := LS.at (i := 0) (by kernel_rfl) (loop_good mixed ctx (ctx_nat ctx) (N := sl0.n) (fun _ _ _ _ => rfl) e3 (all1 (LS.none (by kernel_rfl)) (all1 (LS.none (by kernel_rfl)) (all0))))
theorem eG (β : Type) (s : sin.den) (K : sout.den → Option β) : evalFn C Try.f59 sin sout s K = o.F s K := by kernel_rfl
theorem ok : OracOk Try.prog o := fn_ok mixed Try.func59 (by kernel_rfl) ctx (c := bodyC Try.f59) (by kernel_rfl) (all1 g3 (all1 g23 (all0))) (by kernel_rfl) (by kernel_rfl) (by kernel_rfl) (Nat.le_of_ble_eq_true (by kernel_rfl)) eG (by kernel_rfl) (Nat.le_of_ble_eq_true (by kernel_rfl))
end spec_l92Stripe
end Go.Proofs.Ytjmboleiijhelaa.E
end
section
set_option linter.unusedVariables false
set_option linter.unusedSimpArgs false
namespace Go.Proofs.Ytjmboleiijhelaa.E
open Go Go.RowKit
set_option linter.unusedVariables false
set_option maxRecDepth 100000
namespace spec_l93Disks
def sin : Sig := ⟨[.box [.val (.sl (.int .u8)) false, .val I false]], [.one (.ref (.ptr 0))]⟩
def sout : Sig := ⟨[.box [.val (.sl (.int .u8)) false, .val I false]], [.one (.val I false), .one (.val (.sl (.pair I (.pair I (.pair I .unit)))) false)]⟩
def h4 : SS := ⟨[0, 4, 5, 6], ⟨[.box [.val (.sl (.int .u8)) false, .val I false], .box [.val I false, .ref (.own 3), .ref (.own 4), .ref (.own 5)], .buf (.pair I (.pair I (.pair I .unit))) false, .buf I false, .buf I false, .buf .bool false], [.one (.ref (.ptr 0)), .one (.ref (.ptr 1)), .one (.ref (.own 2)), .one (.val I false)]⟩⟩
def x4 : SS := ⟨[0, 4, 5], ⟨[.box [.val (.sl (.int .u8)) false, .val I false], .box [.val I false, .ref (.own 3), .ref (.own 4), .ref (.own 5)], .buf (.pair I (.pair I (.pair I .unit))) false, .buf I false, .buf I false, .buf .bool false], [.one (.ref (.ptr 0)), .one (.ref (.ptr 1)), .one (.ref (.own 2))]⟩⟩
def y4 : SS := ⟨[], ⟨[], []⟩⟩
noncomputable def b4 {β : Type} (S : Sl) (L : (List Int) → Int → Int → (List (Int × (Int × (Int × Unit)))) → (List Int) → (List Int) → (List Bool) → Int → Option β) (kx : (List Int) → Int → Int → (List (Int × (Int × (Int × Unit)))) → (List Int) → (List Int) → (List Bool) → Option β) (kr : Option β) (s0 : (List Int)) (s1 : Int) (s2 : Int) (s3 : (List (Int × (Int × (Int × Unit))))) (s4 : (List Int)) (s5 : (List Int)) (s6 : (List Bool)) (s7 : Int) : Option β := bif (S.lt 0 s7) then (bif (S.lt 0 (s3.length : Int)) then (spec_l6Rd_pick.G S s0 s1 (s3.length : Int) (fun y1 y2 y3 => spec_l6Rd_pick.G S y1 y2 3 (fun y4 y5 y6 => bif (S.eq y6 0) then (spec_l91Num.G S y4 y5 (fun y7 y8 y9 => bif (S.ir y3 s3.length) then (L y7 y8 s2 (List.set s3 (Int.toNat y3) (y9, (List.getD s3 (Int.toNat y3) (0, (0, (0, ())))).2)) s4 s5 s6 (S.w (s7 - 1))) else (none))) else (bif (S.eq y6 1) then (spec_l6Rd_pick.G S y4 y5 91 (fun y10 y11 y12 => bif (S.ir y3 s3.length) then (L y10 y11 s2 (List.set s3 (Int.toNat y3) ((List.getD s3 (Int.toNat y3) (0, (0, (0, ())))).1, ((List.getD s3 (Int.toNat y3) (0, (0, (0, ())))).2.1, (y12, (List.getD s3 (Int.toNat y3) (0, (0, (0, ())))).2.2.2)))) s4 s5 s6 (S.w (s7 - 1))) else (none))) else (bif (S.ir y3 s3.length) then (L y4 y5 s2 (List.set s3 (Int.toNat y3) (0, (0, (0, ())))) s4 s5 s6 (S.w (s7 - 1))) else (none)))))) else (kx s0 s1 s2 s3 s4 s5 s6)) else (kx s0 s1 s2 s3 s4 s5 s6)
noncomputable def r4 {β : Type} (S : Sl) (n : Nat) (kx : x4.sig.den → Option β) (kr : y4.sig.den → Option β) (s : h4.sig.den) : Option β := rounds (fun L kx kr s => b4 S (fun x0 x1 x2 x3 x4 x5 x6 x7 => L (((x0, (x1, ())), ((x2, ()), (x3, (x4, (x5, (x6, ())))))), (x7, ()))) (fun x0 x1 x2 x3 x4 x5 x6 => kx (((x0, (x1, ())), ((x2, ()), (x3, (x4, (x5, (x6, ())))))), ())) (kr ((), ())) s.1.1.1 s.1.1.2.1 s.1.2.1.1 s.1.2.2.1 s.1.2.2.2.1 s.1.2.2.2.2.1 s.1.2.2.2.2.2.1 s.2.1) kx kr n s
noncomputable def l4 {β : Type} (S : Sl) (n : Nat) (kx : (List Int) → Int → Int → (List (Int × (Int × (Int × Unit)))) → (List Int) → (List Int) → (List Bool) → Option β) (kr : Option β) (s0 : (List Int)) (s1 : Int) (s2 : Int) (s3 : (List (Int × (Int × (Int × Unit))))) (s4 : (List Int)) (s5 : (List Int)) (s6 : (List Bool)) (s7 : Int) : Option β := r4 S n (fun s => kx s.1.1.1 s.1.1.2.1 s.1.2.1.1 s.1.2.2.1 s.1.2.2.2.1 s.1.2.2.2.2.1 s.1.2.2.2.2.2.1) (fun s => kr) (((s0, (s1, ())), ((s2, ()), (s3, (s4, (s5, (s6, ())))))), (s7, ()))
theorem t4 {β : Type} (S : Sl) (n : Nat) (kx : (List Int) → Int → Int → (List (Int × (Int × (Int × Unit)))) → (List Int) → (List Int) → (List Bool) → Option β) (kr : Option β) (s0 : (List Int)) (s1 : Int) (s2 : Int) (s3 : (List (Int × (Int × (Int × Unit))))) (s4 : (List Int)) (s5 : (List Int)) (s6 : (List Bool)) (s7 : Int) : l4 S (n + 1) kx kr s0 s1 s2 s3 s4 s5 s6 s7 = b4 S (l4 S n kx kr) kx kr s0 s1 s2 s3 s4 s5 s6 s7 := by kernel_rfl
noncomputable def G {β : Type} (S : Sl) (a0 : (List Int)) (a1 : Int) (K : (List Int) → Int → Int → (List (Int × (Int × (Int × Unit)))) → Option β) : Option β := spec_l92Stripe.G S a0 a1 (fun y1 y2 y3 y4 y5 y6 => spec_RotWrite.G S y6 y3 y4 y5 (fun y7 => spec_l6Rd_pick.G S y1 y2 3 (fun y8 y9 y10 => l4 S S.n (fun y11 y12 y13 y14 y15 y16 y17 => spec_l6Rd_pick.G S y11 y12 40 (fun y18 y19 y20 => bif (S.eq y20 0) then (bif (S.lt 0 (y14.length : Int)) then (bif ((S.le 0 1) && (S.le 1 (y14.length : Int)) && (S.le (y14.length : Int) (y14.length : Int)) && (S.le (y14.length : Int) (y14.length : Int))) then (K y18 y19 y13 (cutL y14 (Int.toNat 1) (Int.toNat (y14.length : Int)))) else (none)) else (K y18 y19 y13 y14)) else (K y18 y19 y13 y14))) none y8 y9 y6 y7 y3 y4 y5 y10)))
noncomputable def o : Orac := ⟨29, sin, sout, fun s K => G sl0 s.1.1.1 s.1.1.2.1 (fun x0 x1 x2 x3 => K (((x0, (x1, ())), ()), (x2, (x3, ()))))⟩
noncomputable def C : Ctx := ⟨tyT, [spec_RotWrite.o, spec_l6Rd_pick.o, spec_l91Num.o, spec_l92Stripe.o], [⟨4, 0, h4, x4, y4, fun s kx kr => r4 sl0 sl0.n kx kr s⟩], 64, 1⟩
theorem ctx : CtxOk Try.prog C := ⟨tyOk, all1 spec_RotWrite.ok (all1 spec_l6Rd_pick.ok (all1 spec_l91Num.ok (all1 spec_l92Stripe.ok (all0))))⟩
theorem e4 (β : Type) (L : h4.sig.den → Option β) (kx : x4.sig.den → Option β) (kr : y4.sig.den → Option β) (s : h4.sig.den) : evalBody C (nthC (loopsOf (bodyC Try.f29)) 0) 0 h4 x4 y4 L kx kr s = b4 sl0 (fun x0 x1 x2 x3 x4 x5 x6 x7 => L (((x0, (x1, ())), ((x2, ()), (x3, (x4, (x5, (x6, ())))))), (x7, ()))) (fun x0 x1 x2 x3 x4 x5 x6 => kx (((x0, (x1, ())), ((x2, ()), (x3, (x4, (x5, (x6, ())))))), ())) (kr ((), ())) s.1.1.1 s.1.1.2.1 s.1.2.1.1 s.1.2.2.1 s.1.2.2.2.1 s.1.2.2.2.2.1 s.1.2.2.2.2.2.1 s.2.1 := by kernel_rfl
theorem g4 : LS Try.prog C ⟨4, 0, h4, x4, y4, fun s kx kr => r4 sl0 sl0.n kx kr s⟩ (loopsOf (bodyC Try.f29)) := LS.at (i := 0) (by kernel_rfl) (loop_good mixed ctx (ctx_nat ctx) (N := sl0.n) (fun _ _ _ _ => rfl) e4 (all1 (LS.none (by kernel_rfl)) (all0)))
theorem eG (β : Type) (s : sin.den) (K : sout.den → Option β) : evalFn C Try.f29 sin sout s K = o.F s K := by kernel_rfl
theorem ok : OracOk Try.prog o := fn_ok mixed Try.func29 (by kernel_rfl) ctx (c := bodyC Try.f29) (by kernel_rfl) (all1 g4 (all0)) (by kernel_rfl) (by kernel_rfl) (by kernel_rfl) (Nat.le_of_ble_eq_true (by kernel_rfl)) eG (by kernel_rfl) (Nat.le_of_ble_eq_true (by kernel_rfl))
end spec_l93Disks
end Go.Proofs.Ytjmboleiijhelaa.E
end
section
set_option linter.unusedVariables false
set_option linter.unusedSimpArgs false
namespace Go.Proofs.Ytjmboleiijhelaa.E
open Go Go.RowKit
set_option linter.unusedVariables false
set_option maxRecDepth 100000
namespace spec_DrawRotFind
def sin : Sig := ⟨[], [.one (.val (.sl (.int .u8)) false)]⟩
def sout : Sig := ⟨[], [.one (.val (.sl (.pair I (.pair I (.pair I .unit)))) false)]⟩
noncomputable def G {β : Type} (S : Sl) (a0 : (List Int)) (K : (List (Int × (Int × (Int × Unit)))) → Option β) : Option β := spec_l6Open.G S a0 (fun y1 y2 => spec_l93Disks.G S y1 y2 (fun y3 y4 y5 y6 => K y6))
noncomputable def o : Orac := ⟨7, sin, sout, fun s K => G sl0 s.2.1 (fun x0 => K ((), (x0, ())))⟩
noncomputable def C : Ctx := ⟨tyT, [spec_l6Open.o, spec_l93Disks.o], [], 12, 0⟩
theorem ctx : CtxOk Try.prog C := ⟨tyOk, all1 spec_l6Open.ok (all1 spec_l93Disks.ok (all0))⟩
theorem eG (β : Type) (s : sin.den) (K : sout.den → Option β) : evalFn C Try.f7 sin sout s K = o.F s K := by kernel_rfl
theorem ok : OracOk Try.prog o := fn_ok mixed Try.func7 (by kernel_rfl) ctx (c := bodyC Try.f7) (by kernel_rfl) (all0) (by kernel_rfl) (by kernel_rfl) (by kernel_rfl) (Nat.le_of_ble_eq_true (by kernel_rfl)) eG (by kernel_rfl) (Nat.le_of_ble_eq_true (by kernel_rfl))
end spec_DrawRotFind
end Go.Proofs.Ytjmboleiijhelaa.E
end
section
set_option linter.unusedVariables false
set_option linter.unusedSimpArgs false
namespace Go.Proofs.Ytjmboleiijhelaa.E
open Go Go.RowKit
set_option linter.unusedVariables false
set_option maxRecDepth 100000
namespace spec_RotSum
def sin : Sig := ⟨[], [.one (.val I false), .one (.val I false), .one (.val I false)]⟩
def sout : Sig := ⟨[], [.one (.val I false)]⟩
noncomputable def G {β : Type} (S : Sl) (a0 : Int) (a1 : Int) (a2 : Int) (K : Int → Option β) : Option β := spec_FieldOk.G S a0 (fun y1 => bif (!y1) then (K 0) else (spec_l6In.G S a1 1 99 (fun y2 => bif (!y2) then (K 0) else (spec_l6In.G S a2 0 7 (fun y3 => bif (!y3) then (K 0) else (spec_l41Sum.G S a0 a1 a2 (fun y4 => K y4)))))))
noncomputable def o : Orac := ⟨62, sin, sout, fun s K => G sl0 s.2.1 s.2.2.1 s.2.2.2.1 (fun x0 => K ((), (x0, ())))⟩
noncomputable def C : Ctx := ⟨tyT, [spec_FieldOk.o, spec_l41Sum.o, spec_l6In.o], [], 24, 0⟩
theorem ctx : CtxOk Try.prog C := ⟨tyOk, all1 spec_FieldOk.ok (all1 spec_l41Sum.ok (all1 spec_l6In.ok (all0)))⟩
theorem eG (β : Type) (s : sin.den) (K : sout.den → Option β) : evalFn C Try.f62 sin sout s K = o.F s K := by kernel_rfl
theorem ok : OracOk Try.prog o := fn_ok mixed Try.func62 (by kernel_rfl) ctx (c := bodyC Try.f62) (by kernel_rfl) (all0) (by kernel_rfl) (by kernel_rfl) (by kernel_rfl) (Nat.le_of_ble_eq_true (by kernel_rfl)) eG (by kernel_rfl) (Nat.le_of_ble_eq_true (by kernel_rfl))
end spec_RotSum
end Go.Proofs.Ytjmboleiijhelaa.E
end
section
set_option linter.unusedVariables false
set_option linter.unusedSimpArgs false
namespace Go.Proofs.Ytjmboleiijhelaa.E
open Go Go.RowKit
set_option linter.unusedVariables false
set_option maxRecDepth 100000
namespace spec_l41Good
def sin : Sig := ⟨[], [.agg [.val I false, .val I false, .val I false], .one (.val I false)]⟩
def sout : Sig := ⟨[], [.one (.val .bool false)]⟩
noncomputable def G {β : Type} (S : Sl) (a0 : Int) (a1 : Int) (a2 : Int) (a3 : Int) (K : Bool → Option β) : Option β := bif (S.lt 0 a2) then (spec_RotSum.G S a0 a1 a3 (fun y1 => K (S.eq y1 a2))) else (K false)
noncomputable def o : Orac := ⟨32, sin, sout, fun s K => G sl0 s.2.1.1 s.2.1.2.1 s.2.1.2.2.1 s.2.2.1 (fun x0 => K ((), (x0, ())))⟩
noncomputable def C : Ctx := ⟨tyT, [spec_RotSum.o], [], 19, 0⟩
theorem ctx : CtxOk Try.prog C := ⟨tyOk, all1 spec_RotSum.ok (all0)⟩
theorem eG (β : Type) (s : sin.den) (K : sout.den → Option β) : evalFn C Try.f32 sin sout s K = o.F s K := by kernel_rfl
theorem ok : OracOk Try.prog o := fn_ok mixed Try.func32 (by kernel_rfl) ctx (c := bodyC Try.f32) (by kernel_rfl) (all0) (by kernel_rfl) (by kernel_rfl) (by kernel_rfl) (Nat.le_of_ble_eq_true (by kernel_rfl)) eG (by kernel_rfl) (Nat.le_of_ble_eq_true (by kernel_rfl))
end spec_l41Good
end Go.Proofs.Ytjmboleiijhelaa.E
end
section
set_option linter.unusedVariables false
set_option linter.unusedSimpArgs false
namespace Go.Proofs.Ytjmboleiijhelaa.E
open Go Go.RowKit
set_option linter.unusedVariables false
set_option maxRecDepth 100000
namespace spec_RotFind
def sin : Sig := ⟨[], [.one (.val (.sl (.pair I (.pair I (.pair I .unit)))) false)]⟩
def sout : Sig := ⟨[.buf I false], [.one (.ref (.own 0))]⟩
def h5 : SS := ⟨[0, 3, 4], ⟨[.buf I false], [.one (.val (.sl (.pair I (.pair I (.pair I .unit)))) false), .one (.ref (.own 0)), .one (.val I false)]⟩⟩
def x5 : SS := ⟨[3], ⟨[.buf I false], [.one (.ref (.own 0))]⟩⟩
def y5 : SS := ⟨[], ⟨[], []⟩⟩
noncomputable def b5 {β : Type} (S : Sl) (L : (List Int) → (List (Int × (Int × (Int × Unit)))) → Int → Option β) (kx : (List Int) → Option β) (kr : Option β) (s0 : (List Int)) (s1 : (List (Int × (Int × (Int × Unit))))) (s2 : Int) : Option β := bif (S.lt s2 (s1.length : Int)) then (bif (S.ir s2 s1.length) then (bif (!((S.eq ((List.getD s1 (Int.toNat s2) (0, (0, (0, ())))).1) 0) && ((S.eq ((List.getD s1 (Int.toNat s2) (0, (0, (0, ())))).2.1) 0) && ((S.eq ((List.getD s1 (Int.toNat s2) (0, (0, (0, ())))).2.2.1) 0) && true)))) then (bif (S.ir s2 s1.length) then (spec_l41Good.G S ((List.getD s1 (Int.toNat s2) (0, (0, (0, ())))).1) ((List.getD s1 (Int.toNat s2) (0, (0, (0, ())))).2.1) ((List.getD s1 (Int.toNat s2) (0, (0, (0, ())))).2.2.1) s2 (fun y1 => bif (!y1) then (bif (S.fw (s0 ++ [s2]).length) then (L (s0 ++ [s2]) s1 (S.w (s2 + 1))) else (none)) else (L s0 s1 (S.w (s2 + 1))))) else (none)) else (L s0 s1 (S.w (s2 + 1)))) else (none)) else (kx s0)
noncomputable def r5 {β : Type} (S : Sl) (n : Nat) (kx : x5.sig.den → Option β) (kr : y5.sig.den → Option β) (s : h5.sig.den) : Option β := rounds (fun L kx kr s => b5 S (fun x0 x1 x2 => L ((x0, ()), (x1, (x2, ())))) (fun x0 => kx ((x0, ()), ())) (kr ((), ())) s.1.1 s.2.1 s.2.2.1) kx kr n s
noncomputable def l5 {β : Type} (S : Sl) (n : Nat) (kx : (List Int) → Option β) (kr : Option β) (s0 : (List Int)) (s1 : (List (Int × (Int × (Int × Unit))))) (s2 : Int) : Option β := r5 S n (fun s => kx s.1.1) (fun s => kr) ((s0, ()), (s1, (s2, ())))
theorem t5 {β : Type} (S : Sl) (n : Nat) (kx : (List Int) → Option β) (kr : Option β) (s0 : (List Int)) (s1 : (List (Int × (Int × (Int × Unit))))) (s2 : Int) : l5 S (n + 1) kx kr s0 s1 s2 = b5 S (l5 S n kx kr) kx kr s0 s1 s2 := by kernel_rfl
noncomputable def G {β : Type} (S : Sl) (a0 : (List (Int × (Int × (Int × Unit))))) (K : (List Int) → Option β) : Option β := bif (!S.eq (a0.length : Int) 8) then (K []) else (l5 S S.n (fun y1 => K y1) none [] a0 0)
noncomputable def o : Orac := ⟨10, sin, sout, fun s K => G sl0 s.2.1 (fun x0 => K ((x0, ()), ()))⟩
noncomputable def C : Ctx := ⟨tyT, [spec_l41Good.o], [⟨5, 0, h5, x5, y5, fun s kx kr => r5 sl0 sl0.n kx kr s⟩], 36, 0⟩
theorem ctx : CtxOk Try.prog C := ⟨tyOk, all1 spec_l41Good.ok (all0)⟩
theorem e5 (β : Type) (L : h5.sig.den → Option β) (kx : x5.sig.den → Option β) (kr : y5.sig.den → Option β) (s : h5.sig.den) : evalBody C (nthC (loopsOf (bodyC Try.f10)) 0) 0 h5 x5 y5 L kx kr s = b5 sl0 (fun x0 x1 x2 => L ((x0, ()), (x1, (x2, ())))) (fun x0 => kx ((x0, ()), ())) (kr ((), ())) s.1.1 s.2.1 s.2.2.1 := by kernel_rfl
theorem g5 : LS Try.prog C ⟨5, 0, h5, x5, y5, fun s kx kr => r5 sl0 sl0.n kx kr s⟩ (loopsOf (bodyC Try.f10)) := LS.at (i := 0) (by kernel_rfl) (loop_good mixed ctx (ctx_nat ctx) (N := sl0.n) (fun _ _ _ _ => rfl) e5 (all1 (LS.none (by kernel_rfl)) (all0)))
theorem eG (β : Type) (s : sin.den) (K : sout.den → Option β) : evalFn C Try.f10 sin sout s K = o.F s K := by kernel_rfl
theorem ok : OracOk Try.prog o := fn_ok mixed Try.func10 (by kernel_rfl) ctx (c := bodyC Try.f10) (by kernel_rfl) (all1 g5 (all0)) (by kernel_rfl) (by kernel_rfl) (by kernel_rfl) (Nat.le_of_ble_eq_true (by kernel_rfl)) eG (by kernel_rfl) (Nat.le_of_ble_eq_true (by kernel_rfl))
end spec_RotFind
end Go.Proofs.Ytjmboleiijhelaa.E
end
section
set_option linter.unusedVariables false
set_option linter.unusedSimpArgs false
namespace Go.Proofs.Ytjmboleiijhelaa.E
open Go Go.RowKit
set_option linter.unusedVariables false
set_option maxRecDepth 100000
namespace laws_FnRotFind
def sin : Sig := ⟨[], [.one (.val (.sl (.int .u8)) false)]⟩
def sout : Sig := ⟨[], [.one (.val .bool false)]⟩
def h8 : SS := ⟨[3, 4, 5], ⟨[.buf I false], [.one (.val (.sl (.pair I (.pair I (.pair I .unit)))) false), .one (.ref (.own 0)), .one (.val I false)]⟩⟩
def x8 : SS := ⟨[], ⟨[], []⟩⟩
def y8 : SS := ⟨[2], ⟨[], [.one (.val .bool false)]⟩⟩
noncomputable def b8 {β : Type} (S : Sl) (L : (List Int) → (List (Int × (Int × (Int × Unit)))) → Int → Option β) (kx : Option β) (kr : Bool → Option β) (s0 : (List Int)) (s1 : (List (Int × (Int × (Int × Unit))))) (s2 : Int) : Option β := bif (S.lt s2 (s1.length : Int)) then (bif (S.ir s2 s1.length) then (bif (S.lt 0 ((List.getD s1 (Int.toNat s2) (0, (0, (0, ())))).2.2.1)) then (bif (S.ir s2 s1.length) then (bif (S.ir s2 s1.length) then (impl_RotSum.G S ((List.getD s1 (Int.toNat s2) (0, (0, (0, ())))).1) ((List.getD s1 (Int.toNat s2) (0, (0, (0, ())))).2.1) s2 (fun y1 => bif (S.ir s2 s1.length) then (laws_lkIn.G S s0 s2 (fun y2 => bif (!(S.eq y1 ((List.getD s1 (Int.toNat s2) (0, (0, (0, ())))).2.2.1))) then (bif (S.ir s2 s1.length) then (bif (y2 != (!((S.eq ((List.getD s1 (Int.toNat s2) (0, (0, (0, ())))).1) 0) && ((S.eq ((List.getD s1 (Int.toNat s2) (0, (0, (0, ())))).2.1) 0) && ((S.eq ((List.getD s1 (Int.toNat s2) (0, (0, (0, ())))).2.2.1) 0) && true))))) then (kr false) else (L s0 s1 (S.w (s2 + 1)))) else (none)) else (bif (y2 != false) then (kr false) else (L s0 s1 (S.w (s2 + 1)))))) else (none))) else (none)) else (none)) else (laws_lkIn.G S s0 s2 (fun y3 => bif (S.ir s2 s1.length) then (bif (y3 != (!((S.eq ((List.getD s1 (Int.toNat s2) (0, (0, (0, ())))).1) 0) && ((S.eq ((List.getD s1 (Int.toNat s2) (0, (0, (0, ())))).2.1) 0) && ((S.eq ((List.getD s1 (Int.toNat s2) (0, (0, (0, ())))).2.2.1) 0) && true))))) then (kr false) else (L s0 s1 (S.w (s2 + 1)))) else (none)))) else (none)) else (kx)
noncomputable def r8 {β : Type} (S : Sl) (n : Nat) (kx : x8.sig.den → Option β) (kr : y8.sig.den → Option β) (s : h8.sig.den) : Option β := rounds (fun L kx kr s => b8 S (fun x0 x1 x2 => L ((x0, ()), (x1, (x2, ())))) (kx ((), ())) (fun x0 => kr ((), (x0, ()))) s.1.1 s.2.1 s.2.2.1) kx kr n s
noncomputable def l8 {β : Type} (S : Sl) (n : Nat) (kx : Option β) (kr : Bool → Option β) (s0 : (List Int)) (s1 : (List (Int × (Int × (Int × Unit))))) (s2 : Int) : Option β := r8 S n (fun s => kx) (fun s => kr s.2.1) ((s0, ()), (s1, (s2, ())))
theorem t8 {β : Type} (S : Sl) (n : Nat) (kx : Option β) (kr : Bool → Option β) (s0 : (List Int)) (s1 : (List (Int × (Int × (Int × Unit))))) (s2 : Int) : l8 S (n + 1) kx kr s0 s1 s2 = b8 S (l8 S n kx kr) kx kr s0 s1 s2 := by kernel_rfl
noncomputable def G {β : Type} (S : Sl) (a0 : (List Int)) (K : Bool → Option β) : Option β := bif (S.lt 1048576 (a0.length : Int)) then (K true) else (spec_DrawRotFind.G S a0 (fun y1 => impl_RotFind.G S y1 (fun y2 => spec_RotFind.G S y1 (fun y3 => laws_lkInts.G S y2 y3 (fun y4 => bif (!y4) then (spec_RotFind.G S y1 (fun y5 => laws_lkInts.G S y2 y5 (fun y6 => K y6))) else (bif (!S.eq (y1.length : Int) 8) then (spec_RotFind.G S y1 (fun y7 => laws_lkInts.G S y2 y7 (fun y8 => K y8))) else (l8 S S.n (K true) (fun y9 => K y9) y2 y1 0)))))))
noncomputable def o : Orac := ⟨3, sin, sout, fun s K => G sl0 s.2.1 (fun x0 => K ((), (x0, ())))⟩
noncomputable def C : Ctx := ⟨tyT, [impl_RotFind.o, impl_RotSum.o, laws_lkIn.o, laws_lkInts.o, spec_DrawRotFind.o, spec_RotFind.o], [⟨8, 0, h8, x8, y8, fun s kx kr => r8 sl0 sl0.n kx kr s⟩], 74, 0⟩
theorem ctx : CtxOk Try.prog C := ⟨tyOk, all1 impl_RotFind.ok (all1 impl_RotSum.ok (all1 laws_lkIn.ok (all1 laws_lkInts.ok (all1 spec_DrawRotFind.ok (all1 spec_RotFind.ok (all0))))))⟩
theorem e8 (β : Type) (L : h8.sig.den → Option β) (kx : x8.sig.den → Option β) (kr : y8.sig.den → Option β) (s : h8.sig.den) : evalBody C (nthC (loopsOf (bodyC Try.f3)) 0) 0 h8 x8 y8 L kx kr s = b8 sl0 (fun x0 x1 x2 => L ((x0, ()), (x1, (x2, ())))) (kx ((), ())) (fun x0 => kr ((), (x0, ()))) s.1.1 s.2.1 s.2.2.1 := by kernel_rfl
theorem g8 : LS Try.prog C ⟨8, 0, h8, x8, y8, fun s kx kr => r8 sl0 sl0.n kx kr s⟩ (loopsOf (bodyC Try.f3)) := LS.at (i := 0) (by kernel_rfl) (loop_good mixed ctx (ctx_nat ctx) (N := sl0.n) (fun _ _ _ _ => rfl) e8 (all1 (LS.none (by kernel_rfl)) (all0)))
theorem eG (β : Type) (s : sin.den) (K : sout.den → Option β) : evalFn C Try.f3 sin sout s K = o.F s K := by kernel_rfl
theorem ok : OracOk Try.prog o := fn_ok mixed Try.func3 (by kernel_rfl) ctx (c := bodyC Try.f3) (by kernel_rfl) (all1 g8 (all0)) (by kernel_rfl) (by kernel_rfl) (by kernel_rfl) (Nat.le_of_ble_eq_true (by kernel_rfl)) eG (by kernel_rfl) (Nat.le_of_ble_eq_true (by kernel_rfl))
end laws_FnRotFind
end Go.Proofs.Ytjmboleiijhelaa.E
end
section
set_option linter.unusedVariables false
set_option linter.unusedSimpArgs false
namespace Go.Proofs.Ytjmboleiijhelaa.E
open Go Go.RowKit
section
variable {β : Type}
theorem cT {c : Bool} {x y r : Option β} (h : c = true) (k : x = r) : (bif c then x else y) = r := by rw [h]; exact k
theorem cF {c : Bool} {x y r : Option β} (h : c = false) (k : y = r) : (bif c then x else y) = r := by rw [h]; exact k
theorem ltT {a b : Int} (h : a < b) : sl1.lt a b = true := decide_eq_true h
theorem ltF {a b : Int} (h : b ≤ a) : sl1.lt a b = false := decide_eq_false (by omega)
theorem leT {a b : Int} (h : a ≤ b) : sl1.le a b = true := decide_eq_true h
theorem leF {a b : Int} (h : b < a) : sl1.le a b = false := decide_eq_false (by omega)
theorem eqT {a b : Int} (h : a = b) : sl1.eq a b = true := by subst h; exact beq_self_eq_true a
theorem eqF {a b : Int} (h : a ≠ b) : sl1.eq a b = false := beq_eq_false_iff_ne.2 h
theorem neT {a b : Int} (h : a ≠ b) : (!sl1.eq a b) = true := by rw [eqF h]; rfl
theorem neF {a b : Int} (h : a = b) : (!sl1.eq a b) = false := by rw [eqT h]; rfl
theorem irT {i : Int} {n : Nat} (h0 : 0 ≤ i) (h1 : i < (n : Int)) : sl1.ir i n = true := by
  show (decide (0 ≤ i) && decide (i < (n : Int))) = true
  rw [decide_eq_true h0, decide_eq_true h1]; rfl
theorem fwT {n : Nat} (h : n < 1073741824) : sl1.fw n = true := Nat.ble_eq_true_of_le h
theorem andT {a b : Bool} (h : a = true) (k : b = true) : (a && b) = true := by rw [h, k]; rfl
theorem wE {a : Int} (h0 : -9223372036854775808 ≤ a) (h1 : a ≤ 9223372036854775807) : sl1.w a = a := by
  show IntKind.i64.wrap a = a
  rw [IntKind.wrap_i64]; omega
theorem w_succ {i : Nat} (h : i ≤ 9000000000) : sl1.w ((i : Int) + 1) = ((i + 1 : Nat) : Int) := by rw [wE (by omega) (by omega)]; omega
theorem eq_def (a b : Int) : sl1.eq a b = (a == b) := rfl
theorem lt_def (a b : Int) : sl1.lt a b = decide (a < b) := rfl
theorem le_def (a b : Int) : sl1.le a b = decide (a ≤ b) := rfl
theorem getN {α : Type} {d : α} (l : List α) (i : Nat) (h : i < l.length) : List.getD l (Int.toNat (i : Int)) d = l[i] := by
  rw [Int.toNat_natCast, List.getD_eq_getElem?_getD, List.getElem?_eq_getElem h]; rfl
theorem rounds_n : sl1.n = 4294967296 := rfl
def inV (a b c : Int) : Bool := decide (b ≤ a) && decide (a ≤ c)
theorem inV_iff {a b c : Int} : inV a b c = true ↔ b ≤ a ∧ a ≤ c := by simp [inV]
theorem spec_in (a b c : Int) (K : Bool → Option β) : spec_l6In.G sl1 a b c K = K (inV a b c) := by
  by_cases h : b ≤ a
  · exact cT (leT h) (by simp [inV, h, le_def])
  · exact cF (leF (by omega)) (by simp [inV, h])
theorem impl_in (a b c : Int) (K : Bool → Option β) : impl_within.G sl1 a b c K = K (inV a b c) := spec_in a b c K
theorem spec_field (a : Int) (K : Bool → Option β) : spec_FieldOk.G sl1 a K = K (inV a 0 30) := spec_in a 0 30 K
theorem impl_field (a : Int) (K : Bool → Option β) : impl_FieldOk.G sl1 a K = K (inV a 0 30) := spec_in a 0 30 K
theorem spec_kind (a : Int) (K : Bool → Option β) : spec_l4Kind.G sl1 a K = K (inV a 1 2) := spec_in a 1 2 K
def fldL (l : List Int) : Bool := l.all fun x => inV x 0 30
theorem fldL_cons (a : Int) (l : List Int) : fldL (a :: l) = (inV a 0 30 && fldL l) := rfl
theorem vecOk_l (l : List Int) (hl : l.length ≤ 1000000000) (kx : List Int → Option β) (kr : Bool → Option β) (d : Nat) : ∀ (i n : Nat), i + d = l.length → d < n → spec_VecOk.l2 sl1 n kx kr l (i : Int) = if fldL (l.drop i) = true then kx l else kr false := by
  induction d with
  | zero =>
    intro i n hi hn
    obtain ⟨n, rfl⟩ : ∃ m, n = m + 1 := ⟨n - 1, by omega⟩
    rw [spec_VecOk.t2, List.drop_of_length_le (by omega)]
    exact cF (ltF (by omega)) rfl
  | succ d ih =>
    intro i n hi hn
    obtain ⟨n, rfl⟩ : ∃ m, n = m + 1 := ⟨n - 1, by omega⟩
    have h1 : i < l.length := by omega
    rw [spec_VecOk.t2]
    unfold spec_VecOk.b2
    refine cT (ltT (by omega)) (cT (irT (by omega) (by omega)) ((spec_field _ _).trans ?_))
    rw [getN l i h1, List.drop_eq_getElem_cons h1, w_succ (by omega)]
    have ih := ih (i + 1) n (by omega) (by omega)
    rw [fldL_cons]
    cases hc : inV l[i] 0 30
    · rfl
    · rw [Bool.true_and]; exact ih
def vecV (l : List Int) : Bool := fldL l && decide (l.length = 4)
theorem eqLen (n m : Nat) : sl1.eq (n : Int) (m : Int) = decide (n = m) := by
  by_cases h : n = m
  · rw [eqT (by omega), decide_eq_true h]
  · rw [eqF (by omega), decide_eq_false h]
theorem vecOk_G (l : List Int) (hl : l.length ≤ 1000000000) (K : Bool → Option β) : spec_VecOk.G sl1 l K = K (vecV l) := by
  refine (vecOk_l l hl (fun y1 => K (sl1.eq (y1.length : Int) 4)) (fun y2 => K y2) l.length 0 sl1.n (by omega) (by rw [rounds_n]; omega)).trans ?_
  rw [List.drop_zero, show sl1.eq (l.length : Int) 4 = decide (l.length = 4) from eqLen _ 4]
  unfold vecV
  cases fldL l <;> rfl
theorem vals_l (l : List Int) (th : List Bool) (hl : l.length ≤ 1000000000) (kx : List Int → List Bool → Option β) (kr : Bool → Option β) (d : Nat) : ∀ (i n : Nat), i + d = l.length → d < n → spec_l4Vals.l2 sl1 n kx kr l th (i : Int) = if fldL (l.drop i) = true then kx l th else kr false := by
  induction d with
  | zero =>
    intro i n hi hn
    obtain ⟨n, rfl⟩ : ∃ m, n = m + 1 := ⟨n - 1, by omega⟩
    rw [spec_l4Vals.t2, List.drop_of_length_le (by omega)]
    exact cF (ltF (by omega)) rfl
  | succ d ih =>
    intro i n hi hn
    obtain ⟨n, rfl⟩ : ∃ m, n = m + 1 := ⟨n - 1, by omega⟩
    have h1 : i < l.length := by omega
    rw [spec_l4Vals.t2]
    unfold spec_l4Vals.b2
    refine cT (ltT (by omega)) (cT (irT (by omega) (by omega)) ((spec_field _ _).trans ?_))
    rw [getN l i h1, List.drop_eq_getElem_cons h1, w_succ (by omega)]
    have ih := ih (i + 1) n (by omega) (by omega)
    rw [fldL_cons]
    cases hc : inV l[i] 0 30
    · rfl
    · rw [Bool.true_and]; exact ih
def valsV (l : List Int) (th : List Bool) : Bool := fldL l && (decide (l.length = 8) && decide (th.length = 8))
theorem vals_G (l : List Int) (th : List Bool) (hl : l.length ≤ 1000000000) (K : Bool → Option β) : spec_l4Vals.G sl1 l th K = K (valsV l th) := by
  refine (vals_l l th hl (fun y1 y2 => bif (sl1.eq (y1.length : Int) 8) then (K (sl1.eq (y2.length : Int) 8)) else (K false)) (fun y3 => K y3) l.length 0 sl1.n (by omega) (by rw [rounds_n]; omega)).trans ?_
  rw [List.drop_zero]
  rw [show sl1.eq (l.length : Int) 8 = decide (l.length = 8) from eqLen _ 8, show sl1.eq (th.length : Int) 8 = decide (th.length = 8) from eqLen _ 8]
  unfold valsV
  cases fldL l <;> cases decide (l.length = 8) <;> rfl
theorem tmod_in {a n : Int} (h : 0 ≤ a) (hn : 0 < n) : 0 ≤ Int.tmod a n ∧ Int.tmod a n < n := by
  rw [Int.tmod_eq_emod_of_nonneg h]
  exact ⟨Int.emod_nonneg _ (by omega), Int.emod_lt_of_pos _ hn⟩
theorem xr_in (a b : Int) : -9223372036854775808 ≤ sl1.xr .i64 a b ∧ sl1.xr .i64 a b ≤ 9223372036854775807 := by
  show -9223372036854775808 ≤ IntKind.i64.wrap _ ∧ IntKind.i64.wrap _ ≤ 9223372036854775807
  rw [IntKind.wrap_i64]; omega
theorem byteAt {b : List Int} (hb : ∀ x ∈ b, 0 ≤ x ∧ x ≤ 255) {i : Int} (h0 : 0 ≤ i) (h1 : i < (b.length : Int)) : 0 ≤ List.getD b (Int.toNat i) 0 ∧ List.getD b (Int.toNat i) 0 ≤ 255 := by
  obtain ⟨n, rfl⟩ := Int.eq_ofNat_of_zero_le h0
  have hn : n < b.length := by omega
  have := getN b n hn (d := (0 : Int))
  rw [this]
  exact hb _ (List.getElem_mem hn)
theorem xr_pos {a b : Int} (h0 : 0 ≤ a) (h1 : a ≤ 4611686018427387903) (h2 : 0 ≤ b) (h3 : b ≤ 4611686018427387903) : 0 ≤ sl1.xr .i64 a b := by
  show 0 ≤ IntKind.i64.wrap _
  have e : ∀ c : Int, 0 ≤ c → c ≤ 4611686018427387903 → (BitVec.ofInt IntKind.i64.bits c).toNat < 2 ^ 62 := by
    intro c hc hc2
    show (BitVec.ofInt 64 c).toNat < 2 ^ 62
    rw [BitVec.toNat_ofInt]
    omega
  have h := Nat.xor_lt_two_pow (e a h0 h1) (e b h2 h3)
  have e2 : ((BitVec.ofInt IntKind.i64.bits a ^^^ BitVec.ofInt IntKind.i64.bits b).toNat) < 2 ^ 62 := by
    rw [BitVec.toNat_xor]; exact h
  rw [IntKind.wrap_i64]
  omega
theorem pick_G {b : List Int} (hb : ∀ x ∈ b, 0 ≤ x ∧ x ≤ 255) (hl : b.length ≤ 2000) {p n : Int} (hp : 0 ≤ p) (hp2 : p ≤ 1000000) (hn : 1 ≤ n) : ∃ v, 0 ≤ v ∧ v < n ∧ ∀ (β : Type) (K : List Int → Int → Int → Option β), spec_l6Rd_pick.G sl1 b p n K = K b (p + 1) v := by
  have wp : sl1.w (p + 1) = p + 1 := wE (by omega) (by omega)
  have wq : sl1.w (p + 1 - 1) = p := by rw [wE (a := p + 1 - 1) (by omega) (by omega)]; omega
  by_cases h0 : b.length = 0
  · refine ⟨0, by omega, by omega, fun β K => ?_⟩
    unfold spec_l6Rd_pick.G
    rw [wp]
    exact cF (ltF (by omega)) (cT (eqT (by omega)) rfl)
  · have hnz : (!((b.length : Int) == 0)) = true := by rw [Bool.not_eq_true']; exact beq_eq_false_iff_ne.2 (by omega)
    have hnn : (!(n == 0)) = true := by rw [Bool.not_eq_true']; exact beq_eq_false_iff_ne.2 (by omega)
    by_cases h1 : p < (b.length : Int)
    · have hbt := byteAt hb hp h1
      refine ⟨Int.tmod (sl1.w (List.getD b (Int.toNat p) 0)) n, ?_, ?_, fun β K => ?_⟩
      · rw [wE (by omega) (by omega)]; exact (tmod_in hbt.1 (by omega)).1
      · rw [wE (by omega) (by omega)]; exact (tmod_in hbt.1 (by omega)).2
      · unfold spec_l6Rd_pick.G
        rw [wp, wq]
        exact cF (ltF (by omega)) (cF (eqF (by omega)) (cT (ltT h1) (cT (irT hp h1) (cT hnn rfl))))
    · have ha := tmod_in hp (show 0 < (b.length : Int) by omega)
      have hc := tmod_in (a := p * 7 + 3) (by omega) (show 0 < (b.length : Int) by omega)
      have hq : 0 ≤ Int.tdiv p (b.length : Int) ∧ Int.tdiv p (b.length : Int) ≤ p := ⟨Int.tdiv_nonneg hp (by omega), Int.tdiv_le_self _ hp⟩
      have b1 := byteAt hb ha.1 ha.2
      have b2 := byteAt hb hc.1 hc.2
      have w7 : sl1.w (sl1.w (p * 7) + 3) = p * 7 + 3 := by rw [wE (a := p * 7) (by omega) (by omega), wE (by omega) (by omega)]
      refine ⟨Int.tmod (sl1.xr .i64 (sl1.w ((sl1.w ((sl1.w ((sl1.w ((sl1.w (List.getD b (Int.toNat (Int.tmod p (b.length : Int))) 0)) * 131)) + (sl1.w ((sl1.w (List.getD b (Int.toNat (Int.tmod (p * 7 + 3) (b.length : Int))) 0)) * 1117)))) + (sl1.w (p * 29)))) + (sl1.w ((sl1.w (Int.tdiv p (b.length : Int))) * 53)))) (sl1.w (Int.tdiv (sl1.w ((sl1.w ((sl1.w ((sl1.w ((sl1.w (List.getD b (Int.toNat (Int.tmod p (b.length : Int))) 0)) * 131)) + (sl1.w ((sl1.w (List.getD b (Int.toNat (Int.tmod (p * 7 + 3) (b.length : Int))) 0)) * 1117)))) + (sl1.w (p * 29)))) + (sl1.w ((sl1.w (Int.tdiv p (b.length : Int))) * 53)))) 64))) n, ?_, ?_, fun β K => ?_⟩
      · refine (tmod_in ?_ (by omega)).1
        generalize List.getD b (Int.toNat (Int.tmod p (b.length : Int))) 0 = x at b1 ⊢
        generalize List.getD b (Int.toNat (Int.tmod (p * 7 + 3) (b.length : Int))) 0 = y at b2 ⊢
        generalize Int.tdiv p (b.length : Int) = z at hq ⊢
        have e : sl1.w ((sl1.w ((sl1.w ((sl1.w ((sl1.w x) * 131)) + (sl1.w ((sl1.w y) * 1117)))) + (sl1.w (p * 29)))) + (sl1.w ((sl1.w z) * 53))) = x * 131 + y * 1117 + p * 29 + z * 53 := by
          rw [wE (a := x) (by omega) (by omega), wE (a := y) (by omega) (by omega), wE (a := z) (by omega) (by omega), wE (a := x * 131) (by omega) (by omega), wE (a := y * 1117) (by omega) (by omega), wE (a := p * 29) (by omega) (by omega), wE (a := z * 53) (by omega) (by omega), wE (a := x * 131 + y * 1117) (by omega) (by omega), wE (a := x * 131 + y * 1117 + p * 29) (by omega) (by omega), wE (by omega) (by omega)]
        rw [e]
        have d1 : 0 ≤ Int.tdiv (x * 131 + y * 1117 + p * 29 + z * 53) 64 := Int.tdiv_nonneg (by omega) (by omega)
        have d2 : Int.tdiv (x * 131 + y * 1117 + p * 29 + z * 53) 64 ≤ x * 131 + y * 1117 + p * 29 + z * 53 := Int.tdiv_le_self _ (by omega)
        rw [wE (a := Int.tdiv _ 64) (by omega) (by omega)]
        exact xr_pos (by omega) (by omega) d1 (by omega)
      · refine (tmod_in ?_ (by omega)).2
        generalize List.getD b (Int.toNat (Int.tmod p (b.length : Int))) 0 = x at b1 ⊢
        generalize List.getD b (Int.toNat (Int.tmod (p * 7 + 3) (b.length : Int))) 0 = y at b2 ⊢
        generalize Int.tdiv p (b.length : Int) = z at hq ⊢
        have e : sl1.w ((sl1.w ((sl1.w ((sl1.w ((sl1.w x) * 131)) + (sl1.w ((sl1.w y) * 1117)))) + (sl1.w (p * 29)))) + (sl1.w ((sl1.w z) * 53))) = x * 131 + y * 1117 + p * 29 + z * 53 := by
          rw [wE (a := x) (by omega) (by omega), wE (a := y) (by omega) (by omega), wE (a := z) (by omega) (by omega), wE (a := x * 131) (by omega) (by omega), wE (a := y * 1117) (by omega) (by omega), wE (a := p * 29) (by omega) (by omega), wE (a := z * 53) (by omega) (by omega), wE (a := x * 131 + y * 1117) (by omega) (by omega), wE (a := x * 131 + y * 1117 + p * 29) (by omega) (by omega), wE (by omega) (by omega)]
        rw [e]
        have d1 : 0 ≤ Int.tdiv (x * 131 + y * 1117 + p * 29 + z * 53) 64 := Int.tdiv_nonneg (by omega) (by omega)
        have d2 : Int.tdiv (x * 131 + y * 1117 + p * 29 + z * 53) 64 ≤ x * 131 + y * 1117 + p * 29 + z * 53 := Int.tdiv_le_self _ (by omega)
        rw [wE (a := Int.tdiv _ 64) (by omega) (by omega)]
        exact xr_pos (by omega) (by omega) d1 (by omega)
      · unfold spec_l6Rd_pick.G
        rw [wp, wq, w7]
        exact cF (ltF (by omega)) (cF (eqF (by omega)) (cF (ltF (by omega)) (cT hnz (cT (irT ha.1 ha.2) (cT hnz (cT (irT hc.1 hc.2) (cT hnz (cT hnn rfl))))))))
end
end Go.Proofs.Ytjmboleiijhelaa.E
end
section
set_option linter.unusedVariables false
set_option linter.unusedSimpArgs false
namespace Go.Proofs.Ytjmboleiijhelaa.E
open Go Go.RowKit
set_option linter.unusedVariables false
structure Src (b : List Int) : Prop where
  byte : ∀ x ∈ b, 0 ≤ x ∧ x ≤ 255
  len : b.length ≤ 2000
theorem pick_S {b : List Int} (hb : Src b) {p : Int} (n : Int) (hn : 1 ≤ n := by omega) (hp : 0 ≤ p := by omega) (hp2 : p ≤ 1000000 := by omega) : ∃ v, 0 ≤ v ∧ v < n ∧ ∀ (β : Type) (K : List Int → Int → Int → Option β), spec_l6Rd_pick.G sl1 b p n K = K b (p + 1) v := pick_G hb.byte hb.len hp hp2 hn
theorem open_G {l : List Int} (hl : ∀ x ∈ l, 0 ≤ x ∧ x ≤ 255) : ∃ b, Src b ∧ ∀ (β : Type) (K : List Int → Int → Option β), spec_l6Open.G sl1 l K = K b 0 := by
  by_cases h : 2000 < l.length
  · refine ⟨l.take 2000, ⟨fun x hx => hl x (List.mem_of_mem_take hx), by rw [List.length_take]; omega⟩, fun β K => ?_⟩
    unfold spec_l6Open.G
    exact cT (ltT (by omega)) (cT (andT (andT (andT rfl rfl) (leT (by omega))) (leT (by omega))) rfl)
  · exact ⟨l, ⟨hl, by omega⟩, fun β K => cF (ltF (by omega)) rfl⟩
theorem num_G {b : List Int} (hb : Src b) {p : Int} (hp : 0 ≤ p) (hp2 : p ≤ 900000) : ∃ v q, p ≤ q ∧ q ≤ p + 3 ∧ -1 ≤ v ∧ v ≤ 31 ∧ ∀ (β : Type) (K : List Int → Int → Int → Option β), spec_l91Num.G sl1 b p K = K b q v := by
  obtain ⟨a, a0, a1, ea⟩ := pick_S hb (p := p) 10
  obtain ⟨c, c0, c1, ec⟩ := pick_S hb (p := p + 1) 2
  obtain ⟨d, d0, d1, ed⟩ := pick_S hb (p := p + 1) 5
  obtain ⟨e, e0, e1, ee⟩ := pick_S hb (p := p + 1 + 1) 2
  obtain ⟨f, f0, f1, ef⟩ := pick_S hb (p := p + 1 + 1) 31
  obtain ⟨g, g0, g1, eg⟩ := pick_S hb (p := p + 1) 31
  have two : ∀ (x y i : Int), 0 ≤ i → i < 2 → -1 ≤ x → x ≤ 31 → -1 ≤ y → y ≤ 31 → -1 ≤ List.getD [x, y] (Int.toNat i) 0 ∧ List.getD [x, y] (Int.toNat i) 0 ≤ 31 := by
    intro x y i h0 h1 x0 x1 y0 y1
    have : i = 0 ∨ i = 1 := by omega
    rcases this with rfl | rfl
    · exact ⟨x0, x1⟩
    · exact ⟨y0, y1⟩
  by_cases h0 : a = 0
  · exact ⟨0, p + 1, by omega, by omega, by omega, by omega, fun β K => (ea _ _).trans (cT (eqT h0) rfl)⟩
  by_cases h1 : a = 1
  · obtain ⟨t0, t1⟩ := two 1 30 c c0 c1 (by omega) (by omega) (by omega) (by omega)
    exact ⟨List.getD [1, 30] (Int.toNat c) 0, p + 1 + 1, by omega, by omega, t0, t1, fun β K => (ea _ _).trans (cF (eqF h0) (cT (eqT h1) ((ec _ _).trans (cT (irT c0 c1) rfl))))⟩
  by_cases h2 : a = 2
  · by_cases hd : d = 0
    · obtain ⟨t0, t1⟩ := two (-1) 31 e e0 e1 (by omega) (by omega) (by omega) (by omega)
      exact ⟨List.getD [(-1), 31] (Int.toNat e) 0, p + 1 + 1 + 1, by omega, by omega, t0, t1, fun β K => (ea _ _).trans (cF (eqF h0) (cF (eqF h1) (cT (eqT h2) ((ed _ _).trans (cT (eqT hd) ((ee _ _).trans (cT (irT e0 e1) rfl)))))))⟩
    · exact ⟨f, p + 1 + 1 + 1, by omega, by omega, by omega, by omega, fun β K => (ea _ _).trans (cF (eqF h0) (cF (eqF h1) (cT (eqT h2) ((ed _ _).trans (cF (eqF hd) ((ef _ _).trans rfl))))))⟩
  · exact ⟨g, p + 1 + 1, by omega, by omega, by omega, by omega, fun β K => (ea _ _).trans (cF (eqF h0) (cF (eqF h1) (cF (eqF h2) ((eg _ _).trans rfl))))⟩
theorem kind_G {b : List Int} (hb : Src b) {p : Int} (hp : 0 ≤ p) (hp2 : p ≤ 900000) : ∃ v q, p ≤ q ∧ q ≤ p + 3 ∧ 0 ≤ v ∧ v ≤ 3 ∧ ∀ (β : Type) (K : List Int → Int → Int → Option β), spec_l91Kind.G sl1 b p K = K b q v := by
  obtain ⟨a, a0, a1, ea⟩ := pick_S hb (p := p) 40
  obtain ⟨c, c0, c1, ec⟩ := pick_S hb (p := p + 1) 2
  by_cases h0 : a = 0
  · have : (0 : Int) ≤ List.getD [0, 3] (Int.toNat c) 0 ∧ List.getD [0, 3] (Int.toNat c) 0 ≤ (3 : Int) := by
      have : c = 0 ∨ c = 1 := by omega
      rcases this with rfl | rfl <;> exact ⟨by decide, by decide⟩
    exact ⟨List.getD [0, 3] (Int.toNat c) 0, p + 1 + 1, by omega, by omega, this.1, this.2, fun β K => (ea _ _).trans (cT (eqT h0) ((ec _ _).trans (cT (irT c0 c1) rfl)))⟩
  · exact ⟨1 + c, p + 1 + 1, by omega, by omega, by omega, by omega, fun β K => (ea _ _).trans (cF (eqF h0) ((ec _ _).trans (by rw [wE (by omega) (by omega)])))⟩
theorem data_G {b : List Int} (hb : Src b) {p : Int} (hp : 0 ≤ p) (hp2 : p ≤ 900000) : ∃ d, vecV d = true ∧ ∀ (β : Type) (K : List Int → Int → List Int → Option β), spec_l92Data.G sl1 b p K = K b (p + 1 + 1 + 1 + 1) d := by
  obtain ⟨a, a0, a1, ea⟩ := pick_S hb (p := p) 31
  obtain ⟨c, c0, c1, ec⟩ := pick_S hb (p := p + 1) 4
  obtain ⟨d, d0, d1, ed⟩ := pick_S hb (p := p + 1 + 1) 31
  obtain ⟨e, e0, e1, ee⟩ := pick_S hb (p := p + 1 + 1 + 1) 27
  refine ⟨[a, c, d, e], ?_, fun β K => (ea _ _).trans ((ec _ _).trans ((ed _ _).trans (ee _ _)))⟩
  unfold vecV fldL inV
  simp
  omega
def setF : Nat → List Bool → Int → Nat → List Bool
  | 0, l, _, _ => l
  | d + 1, l, x, i => setF d (l.set i (sl1.eq (Int.tmod x 2) 1)) (Int.tdiv x 2) (i + 1)
theorem setF_len : ∀ (d : Nat) (l : List Bool) (x : Int) (i : Nat), (setF d l x i).length = l.length
  | 0, _, _, _ => rfl
  | d + 1, l, x, i => by rw [setF, setF_len, List.length_set]
theorem set_l {β : Type} (kx : List Bool → Option β) (kr : Option β) (d : Nat) : ∀ (l : List Bool) (x : Int) (i n : Nat), i + d = l.length → l.length ≤ 1000 → d < n → 0 ≤ x → x ≤ 1000000 → spec_l4Set.l3 sl1 n kx kr l x (i : Int) = kx (setF d l x i) := by
  induction d with
  | zero =>
    intro l x i n hi hl hn h0 h1
    obtain ⟨n, rfl⟩ : ∃ m, n = m + 1 := ⟨n - 1, by omega⟩
    rw [spec_l4Set.t3]; exact cF (ltF (by omega)) rfl
  | succ d ih =>
    intro l x i n hi hl hn h0 h1
    obtain ⟨n, rfl⟩ : ∃ m, n = m + 1 := ⟨n - 1, by omega⟩
    have q0 : 0 ≤ Int.tdiv x 2 := Int.tdiv_nonneg h0 (by omega)
    have q1 : Int.tdiv x 2 ≤ x := Int.tdiv_le_self _ h0
    have e := ih (l.set i (sl1.eq (Int.tmod x 2) 1)) (Int.tdiv x 2) (i + 1) n (by rw [List.length_set]; omega) (by rw [List.length_set]; omega) (by omega) q0 (by omega)
    rw [spec_l4Set.t3]
    unfold spec_l4Set.b3
    refine cT (ltT (by omega)) (cT (irT (by omega) (by omega)) ?_)
    rw [w_succ (by omega), wE (a := Int.tdiv x 2) (by omega) (by omega), Int.toNat_natCast]
    exact e
def setV (x : Int) : List Bool := setF 8 (List.replicate 8 false) x 0
theorem setV_len (x : Int) : (setV x).length = 8 := by unfold setV; rw [setF_len]; rfl
theorem set_G {x : Int} (h0 : 0 ≤ x) (h1 : x ≤ 1000000) {β : Type} (K : List Bool → Option β) : spec_l4Set.G sl1 x K = K (setV x) := by
  unfold spec_l4Set.G
  exact cT rfl (set_l (β := β) K none 8 (List.replicate 8 false) x 0 sl1.n rfl (by simp) (by rw [rounds_n]; omega) h0 h1)
theorem which_G {b : List Int} (hb : Src b) {p : Int} (hp : 0 ≤ p) (hp2 : p ≤ 900000) : ∃ w q, p ≤ q ∧ q ≤ p + 2 ∧ w.length = 8 ∧ ∀ (β : Type) (K : List Int → Int → List Bool → Option β), spec_l92Which.G sl1 b p K = K b q w := by
  obtain ⟨a, a0, a1, ea⟩ := pick_S hb (p := p) 3
  obtain ⟨c, c0, c1, ec⟩ := pick_S hb (p := p + 1) 256
  by_cases h0 : a = 0
  · exact ⟨setV 255, p + 1, by omega, by omega, setV_len _, fun β K => (ea _ _).trans (cT (eqT h0) ((set_G (by omega) (by omega) _).trans rfl))⟩
  · exact ⟨setV c, p + 1 + 1, by omega, by omega, setV_len _, fun β K => (ea _ _).trans (cF (eqF h0) ((ec _ _).trans ((set_G (by omega) (by omega) _).trans rfl)))⟩
theorem keq {α : Sort _} {a b : α} (h : a = b) : a = b := h
noncomputable def rowS (kind at_ : Int) : List Int := (spec_l4Row.G sl1 kind at_ some).getD []
theorem row_G {β : Type} {kind : Int} (hk : kind = 1 ∨ kind = 2) {n : Nat} (hn : n < 8) (K : List Int → Option β) : spec_l4Row.G sl1 kind (n : Int) K = K (rowS kind (n : Int)) := by
  have h8 : n = 0 ∨ n = 1 ∨ n = 2 ∨ n = 3 ∨ n = 4 ∨ n = 5 ∨ n = 6 ∨ n = 7 := by omega
  rcases hk with rfl | rfl <;> rcases h8 with rfl | rfl | rfl | rfl | rfl | rfl | rfl | rfl <;> refine keq ?_ <;> kernel_rfl
theorem row_vec {kind : Int} (hk : kind = 1 ∨ kind = 2) {n : Nat} (hn : n < 8) : vecV (rowS kind (n : Int)) = true := by
  have h8 : n = 0 ∨ n = 1 ∨ n = 2 ∨ n = 3 ∨ n = 4 ∨ n = 5 ∨ n = 6 ∨ n = 7 := by omega
  rcases hk with rfl | rfl <;> rcases h8 with rfl | rfl | rfl | rfl | rfl | rfl | rfl | rfl <;> refine keq ?_ <;> kernel_rfl
theorem vecV_iff {l : List Int} : vecV l = true ↔ (∀ x ∈ l, 0 ≤ x ∧ x ≤ 30) ∧ l.length = 4 := by
  unfold vecV fldL
  simp [List.all_eq_true, inV_iff]
def dotV : List Int → List Int → Int → Int
  | x :: a, y :: b, n => dotV a b (Int.tmod (n + x * y) 31)
  | _, _, n => n
theorem mod31 {n x y : Int} (hn : 0 ≤ n ∧ n ≤ 30) (hx : 0 ≤ x ∧ x ≤ 30) (hy : 0 ≤ y ∧ y ≤ 30) : sl1.w (n + sl1.w (x * y)) = n + x * y ∧ 0 ≤ Int.tmod (n + x * y) 31 ∧ Int.tmod (n + x * y) 31 ≤ 30 := by
  have h0 : 0 ≤ x * y := Int.mul_nonneg hx.1 hy.1
  have h1 : x * y ≤ 30 * 30 := Int.mul_le_mul hx.2 hy.2 hy.1 (by omega)
  rw [wE (a := x * y) (by omega) (by omega), wE (by omega) (by omega)]
  have := tmod_in (a := n + x * y) (n := 31) (by omega) (by omega)
  exact ⟨rfl, this.1, by omega⟩
theorem dot_l {β : Type} (kx : Int → Option β) (kr : Option β) (a b : List Int) (ha : ∀ x ∈ a, 0 ≤ x ∧ x ≤ 30) (hb : ∀ x ∈ b, 0 ≤ x ∧ x ≤ 30) (hl : a.length ≤ b.length) (hs : a.length ≤ 1000) (d : Nat) : ∀ (v : Int) (i n : Nat), i + d = a.length → d < n → 0 ≤ v ∧ v ≤ 30 → spec_l2Dot.l3 sl1 n kx kr a b v (i : Int) = kx (dotV (a.drop i) (b.drop i) v) := by
  induction d with
  | zero =>
    intro v i n hi hn hv
    obtain ⟨n, rfl⟩ : ∃ m, n = m + 1 := ⟨n - 1, by omega⟩
    rw [spec_l2Dot.t3, List.drop_of_length_le (by omega)]; exact cF (ltF (by omega)) rfl
  | succ d ih =>
    intro v i n hi hn hv
    obtain ⟨n, rfl⟩ : ∃ m, n = m + 1 := ⟨n - 1, by omega⟩
    have h1 : i < a.length := by omega
    have h2 : i < b.length := by omega
    have m := mod31 hv (ha _ (List.getElem_mem h1)) (hb _ (List.getElem_mem h2))
    have e := ih (Int.tmod (v + a[i] * b[i]) 31) (i + 1) n (by omega) (by omega) m.2
    rw [spec_l2Dot.t3]
    unfold spec_l2Dot.b3
    refine cT (ltT (by omega)) (cT (irT (by omega) (by omega)) (cT (irT (by omega) (by omega)) ?_))
    rw [getN a i h1, getN b i h2, w_succ (by omega), m.1, List.drop_eq_getElem_cons h1, List.drop_eq_getElem_cons h2, dotV]
    exact e
theorem dot_G {β : Type} {a b : List Int} (ha : vecV a = true) (hb : vecV b = true) (K : Int → Option β) : spec_l2Dot.G sl1 a b K = K (dotV a b 0) := by
  obtain ⟨a1, a2⟩ := vecV_iff.1 ha
  obtain ⟨b1, b2⟩ := vecV_iff.1 hb
  exact dot_l K none a b a1 b1 (by omega) (by omega) a.length 0 0 sl1.n (by omega) (by rw [rounds_n]; omega) (by omega)
theorem dotV_in : ∀ (a b : List Int) (n : Int), (∀ x ∈ a, 0 ≤ x ∧ x ≤ 30) → (∀ x ∈ b, 0 ≤ x ∧ x ≤ 30) → 0 ≤ n ∧ n ≤ 30 → 0 ≤ dotV a b n ∧ dotV a b n ≤ 30
  | [], b, n, _, _, hn => by unfold dotV; exact hn
  | x :: a, [], n, _, _, hn => by unfold dotV; exact hn
  | x :: a, y :: b, n, ha, hb, hn => by
    rw [dotV]
    exact dotV_in a b _ (fun z hz => ha z (List.mem_cons_of_mem _ hz)) (fun z hz => hb z (List.mem_cons_of_mem _ hz)) (mod31 hn (ha x List.mem_cons_self) (hb y List.mem_cons_self)).2
noncomputable def allV (kind : Int) (data : List Int) : List Int := (List.range 8).map fun (i : Nat) => dotV (rowS kind (i : Int)) data 0
theorem allV_len (kind : Int) (data : List Int) : (allV kind data).length = 8 := by simp [allV]
theorem allV_in {kind : Int} (hk : kind = 1 ∨ kind = 2) {data : List Int} (hd : vecV data = true) : ∀ x ∈ allV kind data, 0 ≤ x ∧ x ≤ 30 := by
  intro x hx
  obtain ⟨i, hi, rfl⟩ := List.mem_map.1 hx
  exact dotV_in _ _ _ (vecV_iff.1 (row_vec hk (List.mem_range.1 hi))).1 (vecV_iff.1 hd).1 (by omega)
theorem all_l {β : Type} {kind : Int} (hk : kind = 1 ∨ kind = 2) {data : List Int} (hd : vecV data = true) (kx : List Int → Option β) (kr : Option β) (d : Nat) : ∀ (i n : Nat), i + d = 8 → d < n → spec_l4All.l3 sl1 n kx kr ((List.range i).map fun (j : Nat) => dotV (rowS kind (j : Int)) data 0) kind data (i : Int) = kx (allV kind data) := by
  induction d with
  | zero =>
    intro i n hi hn
    obtain ⟨n, rfl⟩ : ∃ m, n = m + 1 := ⟨n - 1, by omega⟩
    obtain rfl : i = 8 := by omega
    rw [spec_l4All.t3]; exact cF (ltF (by omega)) rfl
  | succ d ih =>
    intro i n hi hn
    obtain ⟨n, rfl⟩ : ∃ m, n = m + 1 := ⟨n - 1, by omega⟩
    rw [spec_l4All.t3]
    unfold spec_l4All.b3
    refine cT (ltT (by omega)) ((row_G hk (by omega) _).trans ((dot_G (row_vec hk (by omega)) hd _).trans (cT (fwT (by simp; omega)) ?_)))
    rw [w_succ (by omega)]
    have e := ih (i + 1) n (by omega) (by omega)
    rw [List.range_succ, List.map_append] at e
    exact e
theorem all_G {β : Type} {kind : Int} (hk : kind = 1 ∨ kind = 2) {data : List Int} (hd : vecV data = true) (K : List Int → Option β) : spec_l4All.G sl1 kind data K = K (allV kind data) :=
  all_l hk hd K none 8 0 sl1.n (by omega) (by rw [rounds_n]; omega)
theorem copy_G {β : Type} {kind : Int} {vals vers : List Int} {there : List Bool} (h1 : vals.length ≤ 1000000) (h2 : vers.length ≤ 1000000) (h3 : there.length ≤ 1000000) (K : List Int → List Int → List Bool → Int → Option β) : spec_l21Copy.G sl1 kind vals vers there K = K vals vers there kind := by
  unfold spec_l21Copy.G
  simp only [List.nil_append]
  exact cT (fwT (by omega)) (cT (fwT (by omega)) (cT (fwT (by omega)) rfl))
theorem lose_G {β : Type} {kind : Int} {vals vers : List Int} {there : List Bool} (h1 : vals.length = 8) (h2 : vers.length = 8) (h3 : there.length = 8) {i : Nat} (hi : i < 8) (K : List Int → List Int → List Bool → Int → Option β) :
    spec_l21Lose.G sl1 kind vals vers there (i : Int) K = K (vals.set i 0) (vers.set i 0) (there.set i false) kind := by
  refine (copy_G (by omega) (by omega) (by omega) _).trans ?_
  exact cT (irT (by omega) (by omega)) (cT (irT (by omega) (by omega)) (cT (irT (by omega) (by omega)) rfl))
theorem put_G {β : Type} {kind : Int} (hk : kind = 1 ∨ kind = 2) {vals vers : List Int} {there : List Bool} (h1 : vals.length = 8) (h2 : vers.length = 8) (h3 : there.length = 8) {data : List Int} (hd : vecV data = true) {i : Nat} (hi : i < 8) (v : Int) (K : List Int → List Int → List Bool → Int → Option β) :
    spec_l21Put.G sl1 kind vals vers there data (i : Int) v K = K (vals.set i ((allV kind data).getD i 0)) (vers.set i v) (there.set i true) kind := by
  refine (copy_G (by omega) (by omega) (by omega) _).trans ((all_G hk hd _).trans ?_)
  exact cT (irT (by omega) (by rw [allV_len]; omega)) (cT (irT (by omega) (by omega)) (cT (irT (by omega) (by omega)) (cT (irT (by omega) (by omega)) rfl)))
def topV (l : List Int) (n : Int) : Int := l.foldl (fun a x => if x > a then x else a) n
theorem top_l {β : Type} (kx : Int → Option β) (kr : Option β) (kind : Int) (vals vers : List Int) (there : List Bool) (hs : vers.length ≤ 1000) (d : Nat) : ∀ (v : Int) (i n : Nat), i + d = vers.length → d < n → spec_l21Top.l3 sl1 n kx kr kind vals vers there v (i : Int) = kx (topV (vers.drop i) v) := by
  induction d with
  | zero =>
    intro v i n hi hn
    obtain ⟨n, rfl⟩ : ∃ m, n = m + 1 := ⟨n - 1, by omega⟩
    rw [spec_l21Top.t3, List.drop_of_length_le (by omega)]; exact cF (ltF (by omega)) rfl
  | succ d ih =>
    intro v i n hi hn
    obtain ⟨n, rfl⟩ : ∃ m, n = m + 1 := ⟨n - 1, by omega⟩
    have h1 : i < vers.length := by omega
    have e := ih (sl1.mx v vers[i]) (i + 1) n (by omega) (by omega)
    rw [spec_l21Top.t3]
    unfold spec_l21Top.b3
    refine cT (ltT (by omega)) (cT (irT (by omega) (by omega)) ?_)
    rw [getN vers i h1, w_succ (by omega), List.drop_eq_getElem_cons h1]
    exact e
theorem top_G {β : Type} (kind : Int) (vals vers : List Int) (there : List Bool) (hs : vers.length ≤ 1000) (K : Int → Option β) : spec_l21Top.G sl1 kind vals vers there K = K (topV vers 0) :=
  top_l K none kind vals vers there hs vers.length 0 0 sl1.n (by omega) (by rw [rounds_n]; omega)
theorem topV_ge : ∀ (l : List Int) (n : Int), n ≤ topV l n ∧ ∀ x ∈ l, x ≤ topV l n
  | [], n => ⟨Int.le_refl _, by simp⟩
  | a :: l, n => by
    have h := topV_ge l (if a > n then a else n)
    refine ⟨Int.le_trans ?_ h.1, fun x hx => ?_⟩
    · split <;> omega
    · rcases List.mem_cons.1 hx with rfl | hx
      · refine Int.le_trans ?_ h.1; split <;> omega
      · exact h.2 x hx
theorem topV_le {m : Int} : ∀ (l : List Int) (n : Int), n ≤ m → (∀ x ∈ l, x ≤ m) → topV l n ≤ m
  | [], n, hn, _ => hn
  | a :: l, n, hn, hl => topV_le l _ (by have := hl a List.mem_cons_self; show (if a > n then a else n) ≤ m; split <;> omega) fun x hx => hl x (List.mem_cons_of_mem _ hx)
def ofV (vers : List Int) (there : List Bool) (v : Int) : List Bool := List.zipWith (fun t x => t && (x == v)) there vers
theorem ofV_len {vers : List Int} {there : List Bool} {v : Int} (h1 : vers.length = 8) (h2 : there.length = 8) : (ofV vers there v).length = 8 := by unfold ofV; rw [List.length_zipWith]; omega
theorem of_l {β : Type} (kx : List Bool → Option β) (kr : Option β) (kind : Int) (vals vers : List Int) (there : List Bool) (v : Int) (h : there.length ≤ vers.length) (hl : there.length ≤ 1000) (d : Nat) : ∀ (i n : Nat) (acc : List Bool), i + d = there.length → acc.length = i → d < n → spec_l21Of.l3 sl1 n kx kr kind vals vers there acc v (i : Int) = kx (acc ++ List.zipWith (fun t x => t && (x == v)) (there.drop i) (vers.drop i)) := by
  induction d with
  | zero =>
    intro i n acc hi ha hn
    obtain ⟨n, rfl⟩ : ∃ m, n = m + 1 := ⟨n - 1, by omega⟩
    rw [spec_l21Of.t3, List.drop_of_length_le (by omega : there.length ≤ i), List.zipWith_nil_left, List.append_nil]; exact cF (ltF (by omega)) rfl
  | succ d ih =>
    intro i n acc hi ha hn
    obtain ⟨n, rfl⟩ : ∃ m, n = m + 1 := ⟨n - 1, by omega⟩
    have h1 : i < there.length := by omega
    have h2 : i < vers.length := by omega
    have hn := ih (i + 1) n (acc ++ [there[i] && vers[i] == v]) (by omega) (by rw [List.length_append, List.length_singleton, ha]) (by omega)
    rw [List.append_assoc] at hn
    rw [spec_l21Of.t3]
    unfold spec_l21Of.b3
    refine cT (ltT (by omega)) (cT (irT (by omega) (by omega)) ?_)
    rw [getN there i h1, getN vers i h2, w_succ (by omega), List.drop_eq_getElem_cons h1, List.drop_eq_getElem_cons h2, List.zipWith_cons_cons]
    cases c : there[i]
    · rw [c, Bool.false_and] at hn
      rw [Bool.false_and]
      exact cF rfl (cT (fwT (by simp; omega)) hn)
    · rw [c, Bool.true_and] at hn
      rw [Bool.true_and]
      exact cT rfl (cT (irT (by omega) (by omega)) (cT (fwT (by simp; omega)) hn))
theorem of_G {β : Type} (kind : Int) (vals vers : List Int) (there : List Bool) (v : Int) (h : there.length ≤ vers.length) (hl : there.length ≤ 1000) (K : List Bool → Option β) : spec_l21Of.G sl1 kind vals vers there v K = K (ofV vers there v) :=
  (of_l K none kind vals vers there v h hl there.length 0 sl1.n [] (by omega) rfl (by rw [rounds_n]; omega)).trans rfl
theorem new_l {β : Type} (kx : Int → Int → List Int → List Int → List Bool → Option β) (kr : Option β) (k0 kind : Int) (vals : List Int) (there : List Bool) (v : Int) (d : Nat) : ∀ (i n : Nat), i + d = 8 → d < n → spec_l21New.l3 sl1 n kx kr k0 kind vals (List.replicate i v) there v (i : Int) = kx k0 kind vals (List.replicate 8 v) there := by
  induction d with
  | zero =>
    intro i n hi hn
    obtain ⟨n, rfl⟩ : ∃ m, n = m + 1 := ⟨n - 1, by omega⟩
    obtain rfl : i = 8 := by omega
    rw [spec_l21New.t3]; exact cF (ltF (by omega)) rfl
  | succ d ih =>
    intro i n hi hn
    obtain ⟨n, rfl⟩ : ∃ m, n = m + 1 := ⟨n - 1, by omega⟩
    rw [spec_l21New.t3]
    unfold spec_l21New.b3
    have e := ih (i + 1) n (by omega) (by omega)
    rw [List.replicate_succ'] at e
    refine cT (ltT (by omega)) (cT (fwT (by simp; omega)) ?_)
    rw [w_succ (by omega)]
    exact e
theorem new_G {β : Type} {kind : Int} (hk : kind = 1 ∨ kind = 2) {data : List Int} (hd : vecV data = true) (v : Int) (K : List Int → List Int → List Bool → Int → Option β) :
    spec_l21New.G sl1 kind data v K = K (allV kind data) (List.replicate 8 v) (setV 255) kind := by
  unfold spec_l21New.G
  refine (all_G hk hd _).trans ((set_G (by omega) (by omega) _).trans ?_)
  exact new_l _ none 0 kind _ _ v 8 0 sl1.n (by omega) (by rw [rounds_n]; omega)
end Go.Proofs.Ytjmboleiijhelaa.E
end
section
set_option linter.unusedVariables false
set_option linter.unusedSimpArgs false
namespace Go.Proofs.Ytjmboleiijhelaa.E
open Go Go.RowKit
set_option linter.unusedVariables false
set_option maxRecDepth 100000
theorem has_nat {β : Type} (m : List (List Int)) (v : List Int) (K : Bool → Option β) : spec_l3Has.G sl1 m v K = (spec_l3Has.G sl1 m v some).bind K := by
  have h : ∀ {γ : Type} (K : Bool → Option γ), spec_l3Has.G sl0 m v K = (spec_l3Has.G sl0 m v (fun b => some ((), (b, ())))).bind (fun y => K y.2.1) := fun K => spec_l3Has.ok.nat ((), (m, (v, ()))) (fun y => K y.2.1)
  rw [sl_eq] at h
  rw [h K, h some, Option.bind_assoc]; rfl
theorem by_nat {β : Type} (m : List (List Int)) (v : List Int) (K : List Int → Bool → Option β) : spec_l3By.G sl1 m v K = (spec_l3By.G sl1 m v (fun a b => some (a, b))).bind (fun r => K r.1 r.2) := by
  have h : ∀ {γ : Type} (K : List Int → Bool → Option γ), spec_l3By.G sl0 m v K = (spec_l3By.G sl0 m v (fun a b => some ((), (a, (b, ()))))).bind (fun y => K y.2.1 y.2.2.1) := fun K => spec_l3By.ok.nat ((), (m, (v, ()))) (fun y => K y.2.1 y.2.2.1)
  rw [sl_eq] at h
  rw [h K, h (fun a b => some (a, b)), Option.bind_assoc]; rfl
noncomputable def mixF (kind : Int) (c : Nat) : List Nat → List Int → Int
  | a :: s, b :: t => b * (rowS kind (a : Int)).getD c 0 + mixF kind c s t
  | _, _ => 0
noncomputable def rowsF (kind : Int) (I : List Nat) : List (List Int) := I.map fun (a : Nat) => rowS kind (a : Int)
noncomputable def hasF (kind : Int) (I : List Nat) (i : Nat) : Option Bool := spec_l3Has.G sl1 (rowsF kind I) (rowS kind (i : Int)) some
noncomputable def byO (kind : Int) (I : List Nat) (i : Nat) : Option (List Int × Bool) := spec_l3By.G sl1 (rowsF kind I) (rowS kind (i : Int)) (fun a b => some (a, b))
noncomputable def byF (kind : Int) (I : List Nat) (i : Nat) : List Int × Bool := (byO kind I i).getD ([], false)
noncomputable def okBy (kind : Int) (I : List Nat) (i : Nat) : Option (List Int × Bool) → Bool
  | some (r, b) => b && (Nat.beq r.length I.length && (r.all (fun x => inV x 0 30) && [0, 1, 2, 3].all fun c => Int.tmod (mixF kind c I r) 31 == (rowS kind (i : Int)).getD c 0))
  | none => false
noncomputable def okAll (kind : Int) : Nat → Nat → List Nat → Bool
  | 0, _, I => Nat.ble I.length 4
  | d + 1, i, I => okAll kind d (i + 1) I && match hasF kind I i with
    | some true => okBy kind I i (byO kind I i)
    | some false => Nat.ble I.length 3 && okAll kind d (i + 1) (I ++ [i])
    | none => false
theorem okAll_step {kind : Int} {d i : Nat} {J : List Nat} (h1 : hasF kind J i = some false) (h2 : Nat.ble J.length 3 = true) (h3 : okAll kind d (i + 1) J = true) (h4 : okAll kind d (i + 1) (J ++ [i]) = true) : okAll kind (d + 1) i J = true := by
  unfold okAll
  rw [h1, h3, h4, h2]; rfl
theorem okA1_n : okAll 1 5 3 [] = true := by kernel_rfl
theorem okA1_0 : okAll 1 5 3 [0] = true := by kernel_rfl
theorem okA1_1 : okAll 1 5 3 [1] = true := by kernel_rfl
theorem okA1_01 : okAll 1 5 3 [0, 1] = true := by kernel_rfl
theorem okA1_2 : okAll 1 5 3 [2] = true := by kernel_rfl
theorem okA1_02 : okAll 1 5 3 [0, 2] = true := by kernel_rfl
theorem okA1_12 : okAll 1 5 3 [1, 2] = true := by kernel_rfl
theorem okA1_012 : okAll 1 5 3 [0, 1, 2] = true := by kernel_rfl
theorem okAll_1 : okAll 1 8 0 [] = true := (okAll_step (by kernel_rfl) (by kernel_rfl) (okAll_step (by kernel_rfl) (by kernel_rfl) (okAll_step (by kernel_rfl) (by kernel_rfl) okA1_n okA1_2) (okAll_step (by kernel_rfl) (by kernel_rfl) okA1_1 okA1_12)) (okAll_step (by kernel_rfl) (by kernel_rfl) (okAll_step (by kernel_rfl) (by kernel_rfl) okA1_0 okA1_02) (okAll_step (by kernel_rfl) (by kernel_rfl) okA1_01 okA1_012)))
theorem okA2_n : okAll 2 5 3 [] = true := by kernel_rfl
theorem okA2_0 : okAll 2 5 3 [0] = true := by kernel_rfl
theorem okA2_1 : okAll 2 5 3 [1] = true := by kernel_rfl
theorem okA2_01 : okAll 2 5 3 [0, 1] = true := by kernel_rfl
theorem okA2_2 : okAll 2 5 3 [2] = true := by kernel_rfl
theorem okA2_02 : okAll 2 5 3 [0, 2] = true := by kernel_rfl
theorem okA2_12 : okAll 2 5 3 [1, 2] = true := by kernel_rfl
theorem okA2_012 : okAll 2 5 3 [0, 1, 2] = true := by kernel_rfl
theorem okAll_2 : okAll 2 8 0 [] = true := (okAll_step (by kernel_rfl) (by kernel_rfl) (okAll_step (by kernel_rfl) (by kernel_rfl) (okAll_step (by kernel_rfl) (by kernel_rfl) okA2_n okA2_2) (okAll_step (by kernel_rfl) (by kernel_rfl) okA2_1 okA2_12)) (okAll_step (by kernel_rfl) (by kernel_rfl) (okAll_step (by kernel_rfl) (by kernel_rfl) okA2_0 okA2_02) (okAll_step (by kernel_rfl) (by kernel_rfl) okA2_01 okA2_012)))
theorem okAll_k {kind : Int} (hk : kind = 1 ∨ kind = 2) : okAll kind 8 0 [] = true := by
  rcases hk with rfl | rfl
  · exact okAll_1
  · exact okAll_2
end Go.Proofs.Ytjmboleiijhelaa.E
end
section
set_option linter.unusedVariables false
set_option linter.unusedSimpArgs false
namespace Go.Proofs.Ytjmboleiijhelaa.E
open Go Go.RowKit
set_option linter.unusedVariables false
set_option maxRecDepth 100000
def sumF : List Int → List Int → Int → Int
  | b :: s, g :: t, n => sumF s t (Int.tmod (n + b * g) 31)
  | _, _, n => n
noncomputable def fitF (kind : Int) (vals : List Int) (there : List Bool) : Nat → Nat → List Nat → Bool
  | 0, _, _ => true
  | d + 1, i, I => match there.getD i false with
    | false => fitF kind vals there d (i + 1) I
    | true => match hasF kind I i with
      | some true => sumF (byF kind I i).1 (I.map fun (a : Nat) => vals.getD a 0) 0 == vals.getD i 0 && fitF kind vals there d (i + 1) I
      | _ => fitF kind vals there d (i + 1) (I ++ [i])
theorem sum_l {β : Type} (kx : List (List Int) → List Int → Int → List Int → List Bool → Int → Int → Option β) (kr : Option β) (rows : List (List Int)) (got : List Int) (kind : Int) (vals : List Int) (there : List Bool) (at_ : Int) (by_ : List Int)
    (hb : ∀ x ∈ by_, 0 ≤ x ∧ x ≤ 30) (hg : ∀ x ∈ got, 0 ≤ x ∧ x ≤ 30) (hl : by_.length = got.length) (hs : got.length ≤ 8) (d : Nat) : ∀ (v : Int) (j n : Nat), j + d = by_.length → d < n → 0 ≤ v ∧ v ≤ 30 →
    spec_l4Fits.l12 sl1 n kx kr rows got kind vals there at_ by_ v (j : Int) = kx rows got kind vals there at_ (sumF (by_.drop j) (got.drop j) v) := by
  induction d with
  | zero =>
    intro v j n hj hn hv
    obtain ⟨n, rfl⟩ : ∃ m, n = m + 1 := ⟨n - 1, by omega⟩
    rw [spec_l4Fits.t12, List.drop_of_length_le (by omega)]; exact (cF (ltF (by omega)) rfl)
  | succ d ih =>
    intro v j n hj hn hv
    obtain ⟨n, rfl⟩ : ∃ m, n = m + 1 := ⟨n - 1, by omega⟩
    have j1 : j < by_.length := by omega
    have j2 : j < got.length := by omega
    have m := mod31 hv (hb _ (List.getElem_mem j1)) (hg _ (List.getElem_mem j2))
    have e := ih (Int.tmod (v + by_[j] * got[j]) 31) (j + 1) n (by omega) (by omega) m.2
    rw [spec_l4Fits.t12]
    unfold spec_l4Fits.b12
    refine cT (ltT (by omega)) (cT (irT (by omega) (by omega)) (cT (irT (by omega) (by omega)) ?_))
    rw [getN by_ j j1, getN got j j2, w_succ (by omega), m.1, List.drop_eq_getElem_cons j1, List.drop_eq_getElem_cons j2, sumF]
    exact e
theorem getD_in {l : List Int} {P : Int → Prop} (h : ∀ x ∈ l, P x) {i : Nat} (hi : i < l.length) : P (l.getD i 0) := by
  rw [List.getD_eq_getElem?_getD, List.getElem?_eq_getElem hi]; exact h _ (List.getElem_mem hi)
theorem getC {α : Type} (d : α) (l : List α) (i : Nat) : List.getD l (Int.toNat (i : Int)) d = l.getD i d := by rw [Int.toNat_natCast]
theorem fits_l {β : Type} {kind : Int} {vals : List Int} {there : List Bool} (hk : kind = 1 ∨ kind = 2) (hv : vals.length = 8) (hf : ∀ x ∈ vals, 0 ≤ x ∧ x ≤ 30) (ht : there.length = 8) (K : Bool → Option β) (d : Nat) : ∀ (i n : Nat) (I : List Nat), i + d = 8 → d < n → okAll kind d i I = true → (∀ x ∈ I, x < 8) → I.length ≤ 4 →
    spec_l4Fits.l4 sl1 n (K true) (fun y1 => K y1) (rowsF kind I) (I.map fun (a : Nat) => vals.getD a 0) kind vals there (i : Int) = K (fitF kind vals there d i I) := by
  induction d with
  | zero =>
    intro i n I hd hn ho hI hI4
    obtain ⟨n, rfl⟩ : ∃ m, n = m + 1 := ⟨n - 1, by omega⟩
    rw [spec_l4Fits.t4]; exact cF (ltF (by omega)) rfl
  | succ d ih =>
    intro i n I hd hn ho hI hI4
    obtain ⟨n, rfl⟩ : ∃ m, n = m + 1 := ⟨n - 1, by omega⟩
    unfold okAll at ho
    rw [Bool.and_eq_true] at ho
    obtain ⟨ho1, ho2⟩ := ho
    have next := ih (i + 1) n I (by omega) (by omega) ho1 hI hI4
    rw [spec_l4Fits.t4]
    unfold spec_l4Fits.b4
    refine cT (ltT (by omega)) (cT (irT (by omega) (by omega)) ?_)
    rw [getC false, w_succ (by omega)]
    unfold fitF
    cases ct : there.getD i false
    · exact cT rfl next
    · refine cF rfl ((row_G hk (by omega) _).trans ((has_nat _ _ _).trans ?_))
      change (hasF kind I i).bind _ = _
      split at ho2
      · rename_i hh
        rw [hh]
        rw [Option.bind_some]
        refine cT rfl ((by_nat _ _ _).trans ?_)
        change (byO kind I i).bind _ = _
        cases hB : byO kind I i with
        | none => rw [hB] at ho2; cases ho2
        | some b =>
          rw [hB] at ho2
          obtain ⟨r, b⟩ := b
          simp only [okBy, Bool.and_eq_true, List.all_eq_true] at ho2
          obtain ⟨_, hb2, hb3, _⟩ := ho2
          have hb2 : r.length = I.length := Nat.eq_of_beq_eq_true hb2
          have hbf : byF kind I i = (r, b) := by unfold byF; rw [hB]; rfl
          rw [hbf]
          have hg : ∀ x ∈ (I.map fun (a : Nat) => vals.getD a 0), 0 ≤ x ∧ x ≤ 30 := fun x hx => by
            obtain ⟨a, ha, rfl⟩ := List.mem_map.1 hx
            exact getD_in hf (by have := hI a ha; omega)
          rw [Option.bind_some]
          refine (sum_l _ _ _ _ _ _ _ _ r (fun x hx => inV_iff.1 (hb3 x hx)) hg (by rw [List.length_map]; exact hb2) (by rw [List.length_map]; omega) r.length 0 0 sl1.n (by omega) (by rw [rounds_n]; omega) (by omega)).trans ?_
          rw [List.drop_zero, List.drop_zero]
          refine cT (irT (by omega) (by omega)) ?_
          rw [getC (0 : Int)]
          generalize sumF r (I.map fun (a : Nat) => vals.getD a 0) 0 = q
          dsimp only
          by_cases cs : q = vals.getD i 0
          · rw [show (q == vals.getD i 0) = true from beq_iff_eq.2 cs, Bool.true_and]
            refine cF (neF cs) ?_
            rw [w_succ (by omega)]
            exact next
          · rw [show (q == vals.getD i 0) = false from beq_eq_false_iff_ne.2 cs, Bool.false_and]
            exact cT (neT cs) rfl
      · rename_i hh
        rw [Bool.and_eq_true] at ho2
        have h3 : I.length ≤ 3 := Nat.le_of_ble_eq_true ho2.1
        rw [hh]
        rw [Option.bind_some]
        have e1 : rowsF kind I ++ [rowS kind (i : Int)] = rowsF kind (I ++ [i]) := by unfold rowsF; rw [List.map_append]; rfl
        have e2 : (I.map fun (a : Nat) => vals.getD a 0) ++ [vals.getD i 0] = (I ++ [i]).map fun (a : Nat) => vals.getD a 0 := by rw [List.map_append]; rfl
        refine cF rfl (cT (fwT (by simp [rowsF]; omega)) (cT (irT (by omega) (by omega)) (cT (fwT (by simp; omega)) ?_)))
        rw [getC (0 : Int), e1, e2]
        refine ih (i + 1) n (I ++ [i]) (by omega) (by omega) ho2.2 (fun x hx => ?_) (by rw [List.length_append, List.length_singleton]; omega)
        rcases List.mem_append.1 hx with h | h
        · exact hI x h
        · rw [List.mem_singleton.1 h]; omega
      · cases ho2
noncomputable def fitsV (kind : Int) (vals : List Int) (there : List Bool) : Bool := fitF kind vals there 8 0 []
theorem fits_G {β : Type} {kind : Int} {vals : List Int} {there : List Bool} (hk : kind = 1 ∨ kind = 2) (hv : vals.length = 8) (hf : ∀ x ∈ vals, 0 ≤ x ∧ x ≤ 30) (ht : there.length = 8) (K : Bool → Option β) : spec_l4Fits.G sl1 kind vals there K = K (fitsV kind vals there) :=
  fits_l hk hv hf ht K 8 0 sl1.n [] (by omega) (by rw [rounds_n]; omega) (okAll_k hk) (by intro x hx; cases hx) (by simp)
noncomputable def okF (kind : Int) (vals vers : List Int) (there : List Bool) : Nat → Nat → Bool
  | 0, _ => true
  | d + 1, i => (match there.getD i false with
    | true => inV (vers.getD i 0) 1 99 && fitsV kind vals (ofV vers there (vers.getD i 0))
    | false => vals.getD i 0 == 0 && vers.getD i 0 == 0) && okF kind vals vers there d (i + 1)
theorem ok_l {β : Type} {kind : Int} {vals vers : List Int} {there : List Bool} (hk : kind = 1 ∨ kind = 2) (h1 : vals.length = 8) (hf : ∀ x ∈ vals, 0 ≤ x ∧ x ≤ 30) (h2 : vers.length = 8) (h3 : there.length = 8) (K : Bool → Option β) (d : Nat) : ∀ (i n : Nat), i + d = 8 → d < n →
    spec_StripeOk.l4 sl1 n (K true) (fun y3 => K y3) kind vals vers there (i : Int) = K (okF kind vals vers there d i) := by
  induction d with
  | zero =>
    intro i n hd hn
    obtain ⟨n, rfl⟩ : ∃ m, n = m + 1 := ⟨n - 1, by omega⟩
    rw [spec_StripeOk.t4]; exact cF (ltF (by omega)) rfl
  | succ d ih =>
    intro i n hd hn
    obtain ⟨n, rfl⟩ : ∃ m, n = m + 1 := ⟨n - 1, by omega⟩
    have next := ih (i + 1) n (by omega) (by omega)
    rw [spec_StripeOk.t4]
    unfold spec_StripeOk.b4
    refine cT (ltT (by omega)) (cT (irT (by omega) (by omega)) ?_)
    rw [getC false, getC (0 : Int), getC (0 : Int), w_succ (by omega)]
    unfold okF
    cases ct : there.getD i false
    · refine cT rfl (cT (irT (by omega) (by omega)) ?_)
      dsimp only
      by_cases c0 : vals.getD i 0 = 0
      · refine cF (neF c0) (cT (irT (by omega) (by omega)) ?_)
        rw [show (vals.getD i 0 == 0) = true from beq_iff_eq.2 c0, Bool.true_and]
        by_cases c1 : vers.getD i 0 = 0
        · rw [show (vers.getD i 0 == 0) = true from beq_iff_eq.2 c1, Bool.true_and]
          exact cF (neF c1) (cT (irT (by omega) (by omega)) (cF rfl next))
        · rw [show (vers.getD i 0 == 0) = false from beq_eq_false_iff_ne.2 c1, Bool.false_and]
          exact cT (neT c1) rfl
      · rw [show (vals.getD i 0 == 0) = false from beq_eq_false_iff_ne.2 c0, Bool.false_and, Bool.false_and]
        exact cT (neT c0) rfl
    · refine cF rfl (cT (irT (by omega) (by omega)) (cT rfl (cT (irT (by omega) (by omega)) ((spec_in _ _ _ _).trans ?_))))
      dsimp only
      cases cv : inV (vers.getD i 0) 1 99
      · exact cT rfl rfl
      · rw [Bool.true_and]
        refine cF rfl (cT (irT (by omega) (by omega)) ((of_G kind vals vers there _ (by omega) (by omega) _).trans ((fits_G hk h1 hf (ofV_len h2 h3) _).trans ?_)))
        cases cf : fitsV kind vals (ofV vers there (vers.getD i 0))
        · exact cT rfl rfl
        · rw [Bool.true_and]; exact cF rfl next
noncomputable def stripeV (kind : Int) (vals vers : List Int) (there : List Bool) : Bool := inV kind 1 2 && (valsV vals there && (decide (vers.length = 8) && okF kind vals vers there 8 0))
theorem kindV {k : Int} (h : inV k 1 2 = true) : k = 1 ∨ k = 2 := by rw [inV_iff] at h; omega
theorem valsV_iff {l : List Int} {th : List Bool} : valsV l th = true ↔ (∀ x ∈ l, 0 ≤ x ∧ x ≤ 30) ∧ l.length = 8 ∧ th.length = 8 := by
  unfold valsV fldL
  simp [List.all_eq_true, inV_iff]
theorem stripeOk_G {β : Type} (kind : Int) (vals vers : List Int) (there : List Bool) (hl : vals.length ≤ 1000000000) (K : Bool → Option β) : spec_StripeOk.G sl1 kind vals vers there K = K (stripeV kind vals vers there) := by
  unfold spec_StripeOk.G stripeV
  refine (spec_kind _ _).trans ?_
  cases ck : inV kind 1 2
  · exact cT rfl rfl
  rw [Bool.true_and]
  refine cF rfl ((vals_G vals there hl _).trans ?_)
  cases cv : valsV vals there
  · exact cT rfl rfl
  rw [Bool.true_and]
  obtain ⟨hf, h1, h2⟩ := valsV_iff.1 cv
  refine cF rfl ?_
  by_cases c8 : vers.length = 8
  · rw [decide_eq_true c8, Bool.true_and]
    exact cF (neF (by omega)) (ok_l (kindV ck) h1 hf c8 h2 K 8 0 sl1.n (by omega) (by rw [rounds_n]; omega))
  · rw [decide_eq_false c8, Bool.false_and]
    exact cT (neT (by omega)) rfl
theorem stripeV_k {kind : Int} {vals vers : List Int} {there : List Bool} (h : stripeV kind vals vers there = true) : (kind = 1 ∨ kind = 2) ∧ (∀ x ∈ vals, 0 ≤ x ∧ x ≤ 30) ∧ vals.length = 8 ∧ vers.length = 8 ∧ there.length = 8 ∧ okF kind vals vers there 8 0 = true := by
  unfold stripeV at h
  simp only [Bool.and_eq_true, decide_eq_true_eq] at h
  obtain ⟨h1, h2, h3, h4⟩ := h
  obtain ⟨a, b, c⟩ := valsV_iff.1 h2
  exact ⟨kindV h1, a, b, h3, c, h4⟩
noncomputable def writeF (kind : Int) (data : List Int) (which : List Bool) (v : Int) : Nat → Nat → List Int → List Int → List Bool → List Int × List Int × List Bool
  | 0, _, a, b, c => (a, b, c)
  | d + 1, i, a, b, c => match which.getD i false with
    | true => writeF kind data which v d (i + 1) (a.set i ((allV kind data).getD i 0)) (b.set i v) (c.set i true)
    | false => writeF kind data which v d (i + 1) a b c
theorem write_l {β : Type} {kind : Int} {vals vers : List Int} {there : List Bool} (hk : kind = 1 ∨ kind = 2) (h2 : vers.length = 8) {data : List Int} (hd : vecV data = true) {which : List Bool} (hw : which.length = 8) (x4 : Int) (htop : 0 ≤ topV vers 0 ∧ topV vers 0 ≤ 1000000)
    (kx : Int → Int → List Int → List Int → List Bool → Option β) (kr : Option β) (d : Nat) : ∀ (i n : Nat) (a b : List Int) (c : List Bool), i + d = 8 → d < n → a.length = 8 → b.length = 8 → c.length = 8 →
    spec_StripeWrite.l7 sl1 n kx kr kind vals vers there x4 kind a b c data which (i : Int) = kx x4 kind (writeF kind data which (topV vers 0 + 1) d i a b c).1 (writeF kind data which (topV vers 0 + 1) d i a b c).2.1 (writeF kind data which (topV vers 0 + 1) d i a b c).2.2 := by
  induction d with
  | zero =>
    intro i n a b c hd hn ha hb hc
    obtain ⟨n, rfl⟩ : ∃ m, n = m + 1 := ⟨n - 1, by omega⟩
    rw [spec_StripeWrite.t7]; exact cF (ltF (by omega)) rfl
  | succ d ih =>
    intro i n a b c hdd hn ha hb hc
    obtain ⟨n, rfl⟩ : ∃ m, n = m + 1 := ⟨n - 1, by omega⟩
    rw [spec_StripeWrite.t7]
    unfold spec_StripeWrite.b7 writeF
    refine cT (ltT (by omega)) (cT (irT (by omega) (by omega)) ?_)
    rw [getC false, w_succ (by omega)]
    cases cw : which.getD i false
    · exact cF rfl (ih (i + 1) n a b c (by omega) (by omega) ha hb hc)
    · refine cT rfl ((top_G kind vals vers there (by omega) _).trans ((put_G hk ha hb hc hd (by omega) _ _).trans ?_))
      rw [wE (by omega) (by omega)]
      exact ih (i + 1) n _ _ _ (by omega) (by omega) (by rw [List.length_set]; exact ha) (by rw [List.length_set]; exact hb) (by rw [List.length_set]; exact hc)
end Go.Proofs.Ytjmboleiijhelaa.E
end
section
set_option linter.unusedVariables false
set_option linter.unusedSimpArgs false
namespace Go.Proofs.Ytjmboleiijhelaa.E
open Go Go.RowKit
set_option linter.unusedVariables false
set_option maxRecDepth 100000
structure Sd (kind : Int) (vals vers : List Int) (there : List Bool) : Prop where
  k0 : 0 ≤ kind
  k1 : kind ≤ 3
  l1 : vals.length = 8
  l2 : vers.length = 8
  l3 : there.length = 8
  v : ∀ x ∈ vals, -1 ≤ x ∧ x ≤ 31
  w : ∀ x ∈ vers, 0 ≤ x ∧ x ≤ 99
theorem set_all {P : Int → Prop} {l : List Int} {i : Nat} {y : Int} (h : ∀ x ∈ l, P x) (hy : P y) : ∀ x ∈ l.set i y, P x := fun x hx => by
  rcases List.mem_or_eq_of_mem_set hx with h1 | rfl
  · exact h x h1
  · exact hy
theorem Sd.val {kind : Int} {vals vers : List Int} {there : List Bool} (h : Sd kind vals vers there) {i : Nat} {y : Int} (hy : -1 ≤ y ∧ y ≤ 31) : Sd kind (vals.set i y) vers there :=
  { h with l1 := by rw [List.length_set]; exact h.l1, v := set_all h.v hy }
theorem Sd.ver {kind : Int} {vals vers : List Int} {there : List Bool} (h : Sd kind vals vers there) {i : Nat} {y : Int} (hy : 0 ≤ y ∧ y ≤ 99) : Sd kind vals (vers.set i y) there :=
  { h with l2 := by rw [List.length_set]; exact h.l2, w := set_all h.w hy }
theorem Sd.the {kind : Int} {vals vers : List Int} {there : List Bool} (h : Sd kind vals vers there) {i : Nat} {y : Bool} : Sd kind vals vers (there.set i y) :=
  { h with l3 := by rw [List.length_set]; exact h.l3 }
theorem Sd.top {kind : Int} {vals vers : List Int} {there : List Bool} (h : Sd kind vals vers there) : 0 ≤ topV vers 0 ∧ topV vers 0 ≤ 99 := ⟨(topV_ge vers 0).1, topV_le vers 0 (by omega) fun x hx => (h.w x hx).2⟩
theorem writeF_Sd {kind : Int} (hk : kind = 1 ∨ kind = 2) {data : List Int} (hd : vecV data = true) {which : List Bool} {v : Int} (hv : 0 ≤ v ∧ v ≤ 99) : ∀ (d i : Nat) (a b : List Int) (c : List Bool), i + d = 8 → Sd kind a b c →
    Sd kind (writeF kind data which v d i a b c).1 (writeF kind data which v d i a b c).2.1 (writeF kind data which v d i a b c).2.2
  | 0, _, a, b, c, _, h => h
  | d + 1, i, a, b, c, hi, h => by
    unfold writeF
    cases which.getD i false
    · exact writeF_Sd hk hd hv d (i + 1) a b c (by omega) h
    · refine writeF_Sd hk hd hv d (i + 1) _ _ _ (by omega) (((h.val ?_).ver hv).the)
      have := getD_in (P := fun x => 0 ≤ x ∧ x ≤ 30) (allV_in hk hd) (i := i) (by rw [allV_len]; omega)
      omega
noncomputable def writeV (kind : Int) (vals vers : List Int) (there : List Bool) (data : List Int) (which : List Bool) : (List Int × List Int × List Bool) × Int × Bool :=
  match stripeV kind vals vers there && (vecV data && decide (which.length = 8)), decide (99 ≤ topV vers 0) with
  | false, _ => (([], [], []), 0, false)
  | true, true => ((vals, vers, there), kind, false)
  | true, false => (writeF kind data which (topV vers 0 + 1) 8 0 vals vers there, kind, true)
theorem write_G {β : Type} (kind : Int) (vals vers : List Int) (there : List Bool) (data : List Int) (which : List Bool) (hl : vals.length ≤ 1000000000) (hdl : data.length ≤ 1000000000) (K : List Int → List Int → List Bool → Int → Bool → Option β) :
    spec_StripeWrite.G sl1 kind vals vers there data which K = K (writeV kind vals vers there data which).1.1 (writeV kind vals vers there data which).1.2.1 (writeV kind vals vers there data which).1.2.2 (writeV kind vals vers there data which).2.1 (writeV kind vals vers there data which).2.2 := by
  unfold spec_StripeWrite.G
  refine (stripeOk_G kind vals vers there hl _).trans ?_
  cases cs : stripeV kind vals vers there
  · have e : writeV kind vals vers there data which = (([], [], []), 0, false) := by unfold writeV; rw [cs]; rfl
    rw [e]; exact cT rfl rfl
  refine cF rfl ((vecOk_G data hdl _).trans ?_)
  cases cd : vecV data
  · have e : writeV kind vals vers there data which = (([], [], []), 0, false) := by unfold writeV; rw [cs, cd]; rfl
    rw [e]; exact cT rfl rfl
  refine cF rfl ?_
  by_cases cw : which.length = 8
  · refine cF (neF (by omega)) ?_
    obtain ⟨hk, hf, h1, h2, h3, _⟩ := stripeV_k cs
    refine (copy_G (by omega) (by omega) (by omega) _).trans ((top_G kind vals vers there (by omega) _).trans ?_)
    by_cases ct : 99 ≤ topV vers 0
    · have e : writeV kind vals vers there data which = ((vals, vers, there), kind, false) := by unfold writeV; rw [cs, cd, decide_eq_true cw, decide_eq_true ct]; rfl
      rw [e]; exact cT (leT ct) rfl
    · have e : writeV kind vals vers there data which = (writeF kind data which (topV vers 0 + 1) 8 0 vals vers there, kind, true) := by unfold writeV; rw [cs, cd, decide_eq_true cw, decide_eq_false ct]; rfl
      rw [e]
      exact cF (leF (by omega)) (write_l hk h2 cd cw 0 ⟨(topV_ge vers 0).1, by omega⟩ _ none 8 0 sl1.n vals vers there (by omega) (by rw [rounds_n]; omega) h1 h2 h3)
  · have e : writeV kind vals vers there data which = (([], [], []), 0, false) := by unfold writeV; rw [cs, cd, decide_eq_false cw]; rfl
    rw [e]; exact cT (neT (by omega)) rfl
theorem writeV_ok {kind : Int} {vals vers : List Int} {there : List Bool} {data : List Int} {which : List Bool} (h : (writeV kind vals vers there data which).2.2 = true) :
    writeV kind vals vers there data which = (writeF kind data which (topV vers 0 + 1) 8 0 vals vers there, kind, true) ∧ stripeV kind vals vers there = true ∧ vecV data = true ∧ which.length = 8 ∧ topV vers 0 < 99 := by
  unfold writeV at h ⊢
  split at h
  · cases h
  · cases h
  · rename_i h1 h2
    simp only [Bool.and_eq_true, decide_eq_true_eq] at h1
    exact ⟨rfl, h1.1, h1.2.1, h1.2.2, by simpa using h2⟩
theorem writeV_Sd {kind : Int} {vals vers : List Int} {there : List Bool} {data : List Int} {which : List Bool} (hs : Sd kind vals vers there) (h : (writeV kind vals vers there data which).2.2 = true) :
    (writeV kind vals vers there data which).2.1 = kind ∧ Sd kind (writeV kind vals vers there data which).1.1 (writeV kind vals vers there data which).1.2.1 (writeV kind vals vers there data which).1.2.2 := by
  obtain ⟨e, h1, h2, h3, h4⟩ := writeV_ok h
  rw [e]
  exact ⟨rfl, writeF_Sd (stripeV_k h1).1 h2 ⟨by have := hs.top; omega, by omega⟩ 8 0 _ _ _ (by omega) hs⟩
theorem rounds_S {b : List Int} (hb : Src b) (x : Int) {kind : Int} (hk : kind = 1 ∨ kind = 2) (m : Nat) (hm : m ≤ 100) : ∀ (n : Nat) (p : Int) (vals vers : List Int) (there : List Bool), m < n → 0 ≤ p → p + 7 * m ≤ 1000 → Sd kind vals vers there →
    ∃ q vals' vers' there', p ≤ q ∧ q ≤ p + 7 * m ∧ Sd kind vals' vers' there' ∧ ∀ (β : Type) (kx : List Int → Int → Int → Int → List Int → List Int → List Bool → Option β) (kr : Option β),
      spec_l92Stripe.l3 sl1 n kx kr b p x kind vals vers there (m : Int) = kx b q x kind vals' vers' there' := by
  induction m with
  | zero =>
    intro n p vals vers there hn hp hp2 hs
    obtain ⟨n, rfl⟩ : ∃ m, n = m + 1 := ⟨n - 1, by omega⟩
    exact ⟨p, vals, vers, there, by omega, by omega, hs, fun β kx kr => by rw [spec_l92Stripe.t3]; exact cF (ltF (by omega)) rfl⟩
  | succ m ih =>
    intro n p vals vers there hn hp hp2 hs
    obtain ⟨n, rfl⟩ : ∃ m, n = m + 1 := ⟨n - 1, by omega⟩
    have wm : sl1.w (((m + 1 : Nat) : Int) - 1) = (m : Int) := by rw [wE (by omega) (by omega)]; omega
    obtain ⟨a, a0, a1, ea⟩ := pick_S hb (p := p) 3
    by_cases h0 : a = 0
    · obtain ⟨d, hd, ed⟩ := data_G hb (p := p + 1) (by omega) (by omega)
      obtain ⟨w, q, hq0, hq1, hw, ew⟩ := which_G hb (p := p + 1 + 1 + 1 + 1 + 1) (by omega) (by omega)
      cases ho : (writeV kind vals vers there d w).2.2
      · obtain ⟨q', v1, v2, v3, k1, k2, k3, k4⟩ := ih (by omega) n q vals vers there (by omega) (by omega) (by omega) hs
        refine ⟨q', v1, v2, v3, by omega, by omega, k3, fun β kx kr => ?_⟩
        rw [spec_l92Stripe.t3]
        unfold spec_l92Stripe.b3
        refine cT (ltT (by omega)) ((ea _ _).trans (cT (eqT h0) ((ed _ _).trans ((ew _ _).trans ((write_G _ _ _ _ _ _ (by have := hs.l1; omega) (by have := (vecV_iff.1 hd).2; omega) _).trans ?_)))))
        rw [ho]
        refine cF rfl ?_
        rw [wm]
        exact k4 β kx kr
      · obtain ⟨ek, hs'⟩ := writeV_Sd hs ho
        obtain ⟨q', v1, v2, v3, k1, k2, k3, k4⟩ := ih (by omega) n q _ _ _ (by omega) (by omega) (by omega) hs'
        refine ⟨q', v1, v2, v3, by omega, by omega, k3, fun β kx kr => ?_⟩
        rw [spec_l92Stripe.t3]
        unfold spec_l92Stripe.b3
        refine cT (ltT (by omega)) ((ea _ _).trans (cT (eqT h0) ((ed _ _).trans ((ew _ _).trans ((write_G _ _ _ _ _ _ (by have := hs.l1; omega) (by have := (vecV_iff.1 hd).2; omega) _).trans ?_)))))
        rw [ho]
        refine cT rfl ?_
        rw [wm, ek]
        exact k4 β kx kr
    · obtain ⟨c, c0, c1, ec⟩ := pick_S hb (p := p + 1) 8
      obtain ⟨i, rfl⟩ := Int.eq_ofNat_of_zero_le c0
      obtain ⟨q', v1, v2, v3, k1, k2, k3, k4⟩ := ih (by omega) n (p + 1 + 1) _ _ _ (by omega) (by omega) (by omega) (((hs.val (i := i) (y := 0) (by omega)).ver (i := i) (y := 0) (by omega)).the (i := i) (y := false))
      refine ⟨q', v1, v2, v3, by omega, by omega, k3, fun β kx kr => ?_⟩
      rw [spec_l92Stripe.t3]
      unfold spec_l92Stripe.b3
      refine cT (ltT (by omega)) ((ea _ _).trans (cF (eqF h0) ((ec _ _).trans ((lose_G hs.l1 hs.l2 hs.l3 (by omega) _).trans ?_))))
      rw [wm]
      exact k4 β kx kr
theorem late_S (b : List Int) (p x kind : Int) (vals : List Int) (there : List Bool) (h3 : there.length = 8) (d : Nat) : ∀ (i n : Nat) (vers : List Int), i + d = 8 → d < n → Sd kind vals vers there →
    ∃ vers', Sd kind vals vers' there ∧ ∀ (β : Type) (kx : List Int → Int → Int → Int → List Int → List Int → List Bool → Option β) (kr : Option β),
      spec_l92Stripe.l23 sl1 n kx kr b p x kind vals vers there (i : Int) = kx b p x kind vals vers' there := by
  induction d with
  | zero =>
    intro i n vers hi hn hs
    obtain ⟨n, rfl⟩ : ∃ m, n = m + 1 := ⟨n - 1, by omega⟩
    exact ⟨vers, hs, fun β kx kr => by rw [spec_l92Stripe.t23]; exact cF (ltF (by have := hs.l2; omega)) rfl⟩
  | succ d ih =>
    intro i n vers hi hn hs
    have l2 := hs.l2
    obtain ⟨n, rfl⟩ : ∃ m, n = m + 1 := ⟨n - 1, by omega⟩
    cases ct : there.getD i false
    · obtain ⟨v', k1, k2⟩ := ih (i + 1) n vers (by omega) (by omega) hs
      refine ⟨v', k1, fun β kx kr => ?_⟩
      rw [spec_l92Stripe.t23]
      unfold spec_l92Stripe.b23
      refine cT (ltT (by omega)) (cT (irT (by omega) (by omega)) ?_)
      rw [getC false, ct, w_succ (by omega)]
      exact cF rfl (k2 β kx kr)
    · have ht := hs.top
      have hv := getD_in (P := fun x => 0 ≤ x ∧ x ≤ 99) hs.w (i := i) (by omega)
      have hg : vers.getD i 0 ≤ topV vers 0 := getD_in (P := fun x => x ≤ topV vers 0) (topV_ge vers 0).2 (by omega)
      obtain ⟨v', k1, k2⟩ := ih (i + 1) n (vers.set i (vers.getD i 0 + 99 - topV vers 0)) (by omega) (by omega) (hs.ver (by omega))
      refine ⟨v', k1, fun β kx kr => ?_⟩
      rw [spec_l92Stripe.t23]
      unfold spec_l92Stripe.b23
      refine cT (ltT (by omega)) (cT (irT (by omega) (by omega)) ?_)
      rw [getC false, ct]
      refine cT rfl (cT (irT (by omega) (by omega)) ((top_G _ _ _ _ (by omega) _).trans (cT (irT (by omega) (by omega)) ?_)))
      rw [getC (0 : Int), w_succ (by omega), wE (a := vers.getD i 0 + 99) (by omega) (by omega), wE (a := vers.getD i 0 + 99 - topV vers 0) (by omega) (by omega), Int.toNat_natCast]
      exact k2 β kx kr
theorem stripe_S {b : List Int} (hb : Src b) {p : Int} (hp : 0 ≤ p) (hp2 : p ≤ 100) : ∃ q kind vals vers there, p ≤ q ∧ q ≤ p + 60 ∧ Sd kind vals vers there ∧ ∀ (β : Type) (K : List Int → Int → List Int → List Int → List Bool → Int → Option β), spec_l92Stripe.G sl1 b p K = K b q vals vers there kind := by
  obtain ⟨a, a0, a1, ea⟩ := pick_S hb (p := p) 2
  obtain ⟨d, hd, ed⟩ := data_G hb (p := p + 1) (by omega) (by omega)
  obtain ⟨e, e0, e1, ee⟩ := pick_S hb (p := p + 1 + 1 + 1 + 1 + 1) 3
  obtain ⟨m, m0, m1, em⟩ := pick_S hb (p := p + 1 + 1 + 1 + 1 + 1 + 1) 4
  obtain ⟨m, rfl⟩ := Int.eq_ofNat_of_zero_le m0
  have hk : 1 + a = 1 ∨ 1 + a = 2 := by omega
  have wk : sl1.w (1 + a) = 1 + a := wE (by omega) (by omega)
  have we : sl1.w (1 + e) = 1 + e := wE (by omega) (by omega)
  have hs0 : Sd (1 + a) (allV (1 + a) d) (List.replicate 8 (1 + e)) (setV 255) := ⟨by omega, by omega, allV_len _ _, by simp, setV_len _, fun x hx => by have := allV_in hk hd x hx; omega, fun x hx => by have := List.eq_of_mem_replicate hx; omega⟩
  obtain ⟨q, vals, vers, there, q0, q1, hs, er⟩ := rounds_S hb 0 hk m (by omega) sl1.n (p + 1 + 1 + 1 + 1 + 1 + 1 + 1) _ _ _ (by rw [rounds_n]; omega) (by omega) (by omega) hs0
  have start : ∀ (β : Type) (K : List Int → Int → List Int → List Int → List Bool → Int → Option β) (r : Option β), (_ : Option β) = r → spec_l92Stripe.G sl1 b p K = r := fun β K r h => by
    unfold spec_l92Stripe.G
    refine (ea _ _).trans ((ed _ _).trans ((ee _ _).trans ?_))
    rw [wk, we]
    exact (new_G hk hd _ _).trans ((em _ _).trans ((er _ _ _).trans h))
  obtain ⟨c, c0, c1, ec⟩ := pick_S hb (p := q) 30
  by_cases h0 : c = 0
  · obtain ⟨i, i0, i1, ei⟩ := pick_S hb (p := q + 1) 8
    obtain ⟨v, r, r0, r1, v0, v1, ev⟩ := num_G hb (p := q + 1 + 1) (by omega) (by omega)
    obtain ⟨i, rfl⟩ := Int.eq_ofNat_of_zero_le i0
    exact ⟨r, 1 + a, vals.set i v, vers, there, by omega, by omega, hs.val ⟨v0, v1⟩, fun β K => start β K _ ((ec _ _).trans (cT (eqT h0) ((ei _ _).trans ((ev _ _).trans (cT (irT i0 (by rw [hs.l1]; omega)) rfl)))))⟩
  by_cases h1 : c = 1
  · obtain ⟨i, i0, i1, ei⟩ := pick_S hb (p := q + 1) 8
    obtain ⟨v, v0, v1, ev⟩ := pick_S hb (p := q + 1 + 1) 5
    obtain ⟨i, rfl⟩ := Int.eq_ofNat_of_zero_le i0
    exact ⟨q + 1 + 1 + 1, 1 + a, vals, vers.set i v, there, by omega, by omega, hs.ver ⟨v0, by omega⟩, fun β K => start β K _ ((ec _ _).trans (cF (eqF h0) (cT (eqT h1) ((ei _ _).trans ((ev _ _).trans (cT (irT i0 (by rw [hs.l2]; omega)) rfl))))))⟩
  by_cases h2 : c = 2
  · obtain ⟨i, i0, i1, ei⟩ := pick_S hb (p := q + 1) 8
    obtain ⟨i, rfl⟩ := Int.eq_ofNat_of_zero_le i0
    exact ⟨q + 1 + 1, 1 + a, vals, vers, there.set i false, by omega, by omega, hs.the, fun β K => start β K _ ((ec _ _).trans (cF (eqF h0) (cF (eqF h1) (cT (eqT h2) ((ei _ _).trans (cT (irT i0 (by rw [hs.l3]; omega)) rfl))))))⟩
  by_cases h3 : c = 3
  · obtain ⟨v, r, r0, r1, v0, v1, ev⟩ := kind_G hb (p := q + 1) (by omega) (by omega)
    exact ⟨r, v, vals, vers, there, by omega, by omega, { hs with k0 := v0, k1 := v1 }, fun β K => start β K _ ((ec _ _).trans (cF (eqF h0) (cF (eqF h1) (cF (eqF h2) (cT (eqT h3) (ev _ _))))))⟩
  by_cases h4 : c = 4
  · cases ho : stripeV (1 + a) vals vers there
    · exact ⟨q + 1, 1 + a, vals, vers, there, by omega, by omega, hs, fun β K => start β K _ ((ec _ _).trans (cF (eqF h0) (cF (eqF h1) (cF (eqF h2) (cF (eqF h3) (cT (eqT h4) ((stripeOk_G _ _ _ _ (by rw [hs.l1]; omega) _).trans (cF ho rfl))))))))⟩
    · obtain ⟨vers', hs', el⟩ := late_S b (q + 1) 0 (1 + a) vals there hs.l3 8 0 sl1.n vers (by omega) (by rw [rounds_n]; omega) hs
      exact ⟨q + 1, 1 + a, vals, vers', there, by omega, by omega, hs', fun β K => start β K _ ((ec _ _).trans (cF (eqF h0) (cF (eqF h1) (cF (eqF h2) (cF (eqF h3) (cT (eqT h4) ((stripeOk_G _ _ _ _ (by rw [hs.l1]; omega) _).trans (cT ho (el _ _ _)))))))))⟩
  · exact ⟨q + 1, 1 + a, vals, vers, there, by omega, by omega, hs, fun β K => start β K _ ((ec _ _).trans (cF (eqF h0) (cF (eqF h1) (cF (eqF h2) (cF (eqF h3) (cF (eqF h4) rfl))))))⟩
end Go.Proofs.Ytjmboleiijhelaa.E
end
section
set_option linter.unusedVariables false
set_option linter.unusedSimpArgs false
namespace Go.Proofs.Ytjmboleiijhelaa.E
open Go Go.RowKit
set_option linter.unusedVariables false
set_option maxRecDepth 100000
abbrev Dk' := Int × Int × Int × Unit
def rotRaw (a b c : Int) : Int := sl1.w ((Int.tmod (sl1.w ((sl1.w ((sl1.w ((3 : Int) * a)) + (sl1.w ((5 : Int) * b)))) + (sl1.w ((7 : Int) * c)))) 89) + 1)
def rotV (a b c : Int) : Int := bif inV a 0 30 && (inV b 1 99 && inV c 0 7) then rotRaw a b c else 0
theorem rot_impl {β : Type} (a b c : Int) (K : Int → Option β) : impl_RotSum.G sl1 a b c K = K (rotV a b c) := by
  unfold impl_RotSum.G rotV
  refine (impl_field _ _).trans ?_
  cases h1 : inV a 0 30
  · exact cT rfl rfl
  refine cF rfl ((impl_in b 1 99 _).trans ?_)
  cases h2 : inV b 1 99
  · exact cT rfl rfl
  refine cF rfl ((impl_in c 0 7 _).trans ?_)
  cases h3 : inV c 0 7
  · exact cT rfl rfl
  exact cF rfl rfl
theorem rot_spec {β : Type} (a b c : Int) (K : Int → Option β) : spec_RotSum.G sl1 a b c K = K (rotV a b c) := by
  unfold spec_RotSum.G rotV
  refine (spec_field _ _).trans ?_
  cases h1 : inV a 0 30
  · exact cT rfl rfl
  refine cF rfl ((spec_in b 1 99 _).trans ?_)
  cases h2 : inV b 1 99
  · exact cT rfl rfl
  refine cF rfl ((spec_in c 0 7 _).trans ?_)
  cases h3 : inV c 0 7
  · exact cT rfl rfl
  exact cF rfl rfl
theorem rotV_pos (a b c : Int) : 0 ≤ rotV a b c := by
  unfold rotV
  cases h : inV a 0 30 && (inV b 1 99 && inV c 0 7)
  · exact Int.le_refl _
  · simp only [Bool.and_eq_true, inV_iff] at h
    obtain ⟨h1, h2, h3⟩ := h
    show 0 ≤ rotRaw a b c
    unfold rotRaw
    rw [wE (a := 3 * a) (by omega) (by omega), wE (a := 5 * b) (by omega) (by omega), wE (a := 7 * c) (by omega) (by omega), wE (a := 3 * a + 5 * b) (by omega) (by omega), wE (a := 3 * a + 5 * b + 7 * c) (by omega) (by omega)]
    have := tmod_in (a := 3 * a + 5 * b + 7 * c) (n := 89) (by omega) (by omega)
    rw [wE (by omega) (by omega)]; omega
def zeroD (d : Dk') : Bool := sl1.eq d.1 0 && (sl1.eq d.2.1 0 && (sl1.eq d.2.2.1 0 && true))
def goodV (d : Dk') (i : Int) : Bool := !(d.2.2.1 == 0) && (d.2.2.1 == rotV d.1 d.2.1 i)
theorem good_impl {β : Type} (d : Dk') (i : Int) (K : Bool → Option β) : impl_Disk_intact.G sl1 d.1 d.2.1 d.2.2.1 i K = K (goodV d i) := by
  unfold impl_Disk_intact.G goodV
  by_cases h : d.2.2.1 = 0
  · rw [show (d.2.2.1 == 0) = true from beq_iff_eq.2 h]
    exact cF (neF h) rfl
  · rw [show (d.2.2.1 == 0) = false from beq_eq_false_iff_ne.2 h]
    exact cT (neT h) ((rot_impl _ _ _ _).trans rfl)
theorem good_spec {β : Type} (d : Dk') (i : Int) (K : Bool → Option β) : spec_l41Good.G sl1 d.1 d.2.1 d.2.2.1 i K = K (goodV d i) := by
  unfold spec_l41Good.G goodV
  have hp := rotV_pos d.1 d.2.1 i
  by_cases h : 0 < d.2.2.1
  · rw [show (d.2.2.1 == 0) = false from beq_eq_false_iff_ne.2 (by omega)]
    refine cT (ltT h) ((rot_spec _ _ _ _).trans ?_)
    rw [eq_def, Bool.not_false, Bool.true_and, Bool.beq_comm]
  · refine cF (ltF (by omega)) ?_
    by_cases h0 : d.2.2.1 = 0
    · rw [show (d.2.2.1 == 0) = true from beq_iff_eq.2 h0]; rfl
    · rw [show (d.2.2.1 == rotV d.1 d.2.1 i) = false from beq_eq_false_iff_ne.2 (by omega), Bool.and_false]
def badV (l : List Dk') (i : Nat) : Bool := !zeroD (l.getD i (0, (0, (0, ())))) && !goodV (l.getD i (0, (0, (0, ())))) (i : Int)
def findW (l : List Dk') (n : Nat) : List Int := ((List.range n).filter (badV l)).map fun (i : Nat) => (i : Int)
theorem findW_succ (l : List Dk') (n : Nat) : findW l (n + 1) = if badV l n = true then findW l n ++ [(n : Int)] else findW l n := by
  unfold findW
  rw [List.range_succ, List.filter_append, List.map_append]
  cases h : badV l n <;> simp [h]
theorem findW_len (l : List Dk') (n : Nat) : (findW l n).length ≤ n := by
  unfold findW
  rw [List.length_map]
  exact Nat.le_trans (List.length_filter_le _ _) (by simp)
theorem findW_mem (l : List Dk') {n i : Nat} (h : i < n) : (i : Int) ∈ findW l n ↔ badV l i = true := by
  unfold findW
  rw [List.mem_map]
  constructor
  · rintro ⟨j, hj, e⟩
    obtain rfl : j = i := by omega
    exact (List.mem_filter.1 hj).2
  · intro hb
    exact ⟨i, List.mem_filter.2 ⟨List.mem_range.2 h, hb⟩, rfl⟩
theorem find_impl_l {β : Type} (l : List Dk') (hl : l.length = 8) (kx : List Int → Option β) (kr : Option β) (d : Nat) : ∀ (i n : Nat), i + d = 8 → d < n → impl_RotFind.l5 sl1 n kx kr (findW l i) l 8 (i : Int) = kx (findW l 8) := by
  induction d with
  | zero =>
    intro i n hi hn
    obtain ⟨n, rfl⟩ : ∃ m, n = m + 1 := ⟨n - 1, by omega⟩
    obtain rfl : i = 8 := by omega
    rw [impl_RotFind.t5]; exact cF (ltF (by omega)) rfl
  | succ d ih =>
    intro i n hi hn
    obtain ⟨n, rfl⟩ : ∃ m, n = m + 1 := ⟨n - 1, by omega⟩
    have e := ih (i + 1) n (by omega) (by omega)
    have hlen := findW_len l i
    rw [findW_succ] at e
    rw [impl_RotFind.t5]
    unfold impl_RotFind.b5
    refine cT (ltT (by omega)) (cT (irT (by omega) (by omega)) ?_)
    rw [w_succ (by omega)]
    simp only [getC]
    change (bif !zeroD (l.getD i (0, (0, (0, ())))) then _ else _) = _
    unfold badV at e
    cases hz : zeroD (l.getD i (0, (0, (0, ()))))
    · rw [hz] at e
      refine cT rfl ((good_impl _ _ _).trans ?_)
      cases hg : goodV (l.getD i (0, (0, (0, ())))) (i : Int)
      · rw [hg] at e
        exact cT rfl (cT (fwT (by simp; omega)) e)
      · rw [hg] at e
        exact cF rfl e
    · rw [hz] at e
      exact cF rfl e
theorem find_spec_l {β : Type} (l : List Dk') (hl : l.length = 8) (kx : List Int → Option β) (kr : Option β) (d : Nat) : ∀ (i n : Nat), i + d = 8 → d < n → spec_RotFind.l5 sl1 n kx kr (findW l i) l (i : Int) = kx (findW l 8) := by
  induction d with
  | zero =>
    intro i n hi hn
    obtain ⟨n, rfl⟩ : ∃ m, n = m + 1 := ⟨n - 1, by omega⟩
    obtain rfl : i = 8 := by omega
    rw [spec_RotFind.t5]; exact cF (ltF (by omega)) rfl
  | succ d ih =>
    intro i n hi hn
    obtain ⟨n, rfl⟩ : ∃ m, n = m + 1 := ⟨n - 1, by omega⟩
    have e := ih (i + 1) n (by omega) (by omega)
    have hlen := findW_len l i
    rw [findW_succ] at e
    rw [spec_RotFind.t5]
    unfold spec_RotFind.b5
    refine cT (ltT (by omega)) (cT (irT (by omega) (by omega)) ?_)
    rw [w_succ (by omega)]
    simp only [getC]
    change (bif !zeroD (l.getD i (0, (0, (0, ())))) then _ else _) = _
    unfold badV at e
    cases hz : zeroD (l.getD i (0, (0, (0, ()))))
    · rw [hz] at e
      refine cT rfl (cT (irT (by omega) (by omega)) ((good_spec _ _ _).trans ?_))
      cases hg : goodV (l.getD i (0, (0, (0, ())))) (i : Int)
      · rw [hg] at e
        exact cT rfl (cT (fwT (by simp; omega)) e)
      · rw [hg] at e
        exact cF rfl e
    · rw [hz] at e
      exact cF rfl e
def findV (l : List Dk') : List Int := bif decide (l.length = 8) then findW l 8 else []
theorem findV_len (l : List Dk') : (findV l).length ≤ 8 := by
  unfold findV
  cases decide (l.length = 8)
  · exact Nat.zero_le _
  · exact findW_len l 8
theorem find_impl {β : Type} (l : List Dk') (K : List Int → Option β) : impl_RotFind.G sl1 l K = K (findV l) := by
  unfold impl_RotFind.G findV
  by_cases h : l.length = 8
  · rw [decide_eq_true h]
    refine cF (neF (by omega)) (cT rfl ?_)
    rw [show ((l.length : Nat) : Int) = 8 by omega]
    refine (find_impl_l l h _ none 8 0 sl1.n (by omega) (by rw [rounds_n]; omega)).trans ?_
    refine cT (andT (andT (leT (by omega)) (leT (by omega))) (leT (by omega))) ?_
    rw [Int.toNat_natCast, List.take_length]; rfl
  · rw [decide_eq_false h]
    exact cT (neT (by omega)) rfl
theorem find_spec {β : Type} (l : List Dk') (K : List Int → Option β) : spec_RotFind.G sl1 l K = K (findV l) := by
  unfold spec_RotFind.G findV
  by_cases h : l.length = 8
  · rw [decide_eq_true h]
    exact cF (neF (by omega)) (find_spec_l l h _ none 8 0 sl1.n (by omega) (by rw [rounds_n]; omega))
  · rw [decide_eq_false h]
    exact cT (neT (by omega)) rfl
theorem lkInts_l {β : Type} (l : List Int) (hl : l.length ≤ 1000000) (kx : Option β) (kr : Bool → Option β) (d : Nat) : ∀ (i n : Nat), i + d = l.length → d < n → laws_lkInts.l4 sl1 n kx kr l l (i : Int) = kx := by
  induction d with
  | zero =>
    intro i n hi hn
    obtain ⟨n, rfl⟩ : ∃ m, n = m + 1 := ⟨n - 1, by omega⟩
    rw [laws_lkInts.t4]; exact cF (ltF (by omega)) rfl
  | succ d ih =>
    intro i n hi hn
    obtain ⟨n, rfl⟩ : ∃ m, n = m + 1 := ⟨n - 1, by omega⟩
    rw [laws_lkInts.t4]
    unfold laws_lkInts.b4
    refine cT (ltT (by omega)) (cT (irT (by omega) (by omega)) (cT (irT (by omega) (by omega)) (cF (neF rfl) ?_)))
    rw [w_succ (by omega)]
    exact ih (i + 1) n (by omega) (by omega)
theorem lkInts_same {β : Type} (l : List Int) (hl : l.length ≤ 1000000) (K : Bool → Option β) : laws_lkInts.G sl1 l l K = K true := by
  unfold laws_lkInts.G
  exact cF (neF rfl) (lkInts_l l hl _ _ l.length 0 sl1.n (by omega) (by rw [rounds_n]; omega))
theorem lkIn_l {β : Type} (l : List Int) (x : Int) (hl : l.length ≤ 1000000) (kx : Option β) (kr : Bool → Option β) (d : Nat) : ∀ (i n : Nat), i + d = l.length → d < n → laws_lkIn.l2 sl1 n kx kr l x (i : Int) = bif (l.drop i).any (· == x) then kr true else kx := by
  induction d with
  | zero =>
    intro i n hi hn
    obtain ⟨n, rfl⟩ : ∃ m, n = m + 1 := ⟨n - 1, by omega⟩
    rw [laws_lkIn.t2, List.drop_of_length_le (by omega)]; exact cF (ltF (by omega)) rfl
  | succ d ih =>
    intro i n hi hn
    obtain ⟨n, rfl⟩ : ∃ m, n = m + 1 := ⟨n - 1, by omega⟩
    have h1 : i < l.length := by omega
    rw [laws_lkIn.t2]
    unfold laws_lkIn.b2
    refine cT (ltT (by omega)) (cT (irT (by omega) (by omega)) ?_)
    rw [getN l i h1, w_succ (by omega), List.drop_eq_getElem_cons h1, List.any_cons]
    by_cases h : l[i] = x
    · rw [show (l[i] == x) = true from beq_iff_eq.2 h]
      exact cT (eqT h) rfl
    · rw [show (l[i] == x) = false from beq_eq_false_iff_ne.2 h, Bool.false_or]
      exact cF (eqF h) (ih (i + 1) n (by omega) (by omega))
theorem lkIn_G {β : Type} (l : List Int) (x : Int) (hl : l.length ≤ 1000000) (K : Bool → Option β) : laws_lkIn.G sl1 l x K = K (l.any (· == x)) := by
  refine (lkIn_l l x hl (K false) (fun y1 => K y1) l.length 0 sl1.n (by omega) (by rw [rounds_n]; omega)).trans ?_
  rw [List.drop_zero]
  cases l.any (· == x) <;> rfl
theorem any_find (l : List Dk') {i : Nat} (h : i < 8) : (findW l 8).any (· == (i : Int)) = badV l i := by
  rw [Bool.eq_iff_iff, List.any_eq_true, ← findW_mem l h]
  constructor
  · rintro ⟨x, hx, e⟩; rw [← beq_iff_eq.1 e]; exact hx
  · intro hx; exact ⟨_, hx, beq_self_eq_true _⟩
theorem law_l {β : Type} (l : List Dk') (hl : l.length = 8) (kx : Option β) (kr : Bool → Option β) (d : Nat) : ∀ (i n : Nat), i + d = 8 → d < n → laws_FnRotFind.l8 sl1 n kx kr (findW l 8) l (i : Int) = kx := by
  induction d with
  | zero =>
    intro i n hi hn
    obtain ⟨n, rfl⟩ : ∃ m, n = m + 1 := ⟨n - 1, by omega⟩
    rw [laws_FnRotFind.t8]; exact cF (ltF (by omega)) rfl
  | succ d ih =>
    intro i n hi hn
    obtain ⟨n, rfl⟩ : ∃ m, n = m + 1 := ⟨n - 1, by omega⟩
    have e := ih (i + 1) n (by omega) (by omega)
    have hm := any_find l (i := i) (by omega)
    have hlen := findW_len l 8
    have hp := rotV_pos (l.getD i (0, (0, (0, ())))).1 (l.getD i (0, (0, (0, ())))).2.1 (i : Int)
    rw [laws_FnRotFind.t8]
    unfold laws_FnRotFind.b8
    refine cT (ltT (by omega)) (cT (irT (by omega) (by omega)) ?_)
    rw [w_succ (by omega)]
    simp only [getC]
    unfold badV goodV at hm
    generalize hd : l.getD i (0, (0, (0, ()))) = D at hm hp ⊢
    have hz : (sl1.eq D.1 0 && (sl1.eq D.2.1 0 && (sl1.eq D.2.2.1 0 && true))) = zeroD D := rfl
    rw [hz]
    by_cases h0 : 0 < D.2.2.1
    · have hnz : zeroD D = false := by
        unfold zeroD
        rw [eqF (a := D.2.2.1) (b := 0) (by omega)]
        cases sl1.eq D.1 0 <;> cases sl1.eq D.2.1 0 <;> rfl
      refine cT (ltT h0) (cT (irT (by omega) (by omega)) (cT (irT (by omega) (by omega)) ((rot_impl _ _ _ _).trans (cT (irT (by omega) (by omega)) ((lkIn_G _ _ (by omega) _).trans ?_)))))
      rw [hnz, show (D.2.2.1 == 0) = false from beq_eq_false_iff_ne.2 (by omega)] at hm
      rw [hm]
      by_cases hr : rotV D.1 D.2.1 (i : Int) = D.2.2.1
      · rw [show (D.2.2.1 == rotV D.1 D.2.1 (i : Int)) = true from beq_iff_eq.2 hr.symm]
        exact cF (neF hr) (cF rfl e)
      · rw [show (D.2.2.1 == rotV D.1 D.2.1 (i : Int)) = false from beq_eq_false_iff_ne.2 fun h => hr h.symm]
        refine cT (neT hr) (cT (irT (by omega) (by omega)) ?_)
        rw [hnz]
        exact cF rfl e
    · refine cF (ltF (by omega)) ((lkIn_G _ _ (by omega) _).trans (cT (irT (by omega) (by omega)) ?_))
      have hg : (!(D.2.2.1 == 0) && (D.2.2.1 == rotV D.1 D.2.1 (i : Int))) = false := by
        by_cases h1 : D.2.2.1 = 0
        · rw [show (D.2.2.1 == 0) = true from beq_iff_eq.2 h1]; rfl
        · rw [show (D.2.2.1 == rotV D.1 D.2.1 (i : Int)) = false from beq_eq_false_iff_ne.2 (by omega), Bool.and_false]
      rw [hg, Bool.not_false, Bool.and_true] at hm
      rw [hm]
      refine cF ?_ e
      cases zeroD D <;> rfl
theorem rotw_l {β : Type} (kind : Int) {vals vers : List Int} {there : List Bool} (h1 : vals.length = 8) (h2 : vers.length = 8) (h3 : there.length = 8) (d : Nat) : ∀ (i n : Nat) (acc : List Dk'), i + d = 8 → acc.length = i → d < n →
    ∃ r : List Dk', r.length = 8 ∧ ∀ (β : Type) (kx : List Dk' → Option β) (kr : Option β), spec_RotWrite.l5 sl1 n kx kr kind vals vers there acc (i : Int) = kx r := by
  induction d with
  | zero =>
    intro i n acc hi ha hn
    obtain ⟨n, rfl⟩ : ∃ m, n = m + 1 := ⟨n - 1, by omega⟩
    exact ⟨acc, by omega, fun β kx kr => by rw [spec_RotWrite.t5]; exact cF (ltF (by omega)) rfl⟩
  | succ d ih =>
    intro i n acc hi ha hn
    obtain ⟨n, rfl⟩ : ∃ m, n = m + 1 := ⟨n - 1, by omega⟩
    cases ct : there.getD i false
    · obtain ⟨r, k1, k2⟩ := ih (i + 1) n (acc ++ [(0, (0, (0, ())))]) (by omega) (by simp; omega) (by omega)
      refine ⟨r, k1, fun β kx kr => ?_⟩
      rw [spec_RotWrite.t5]
      unfold spec_RotWrite.b5
      refine cT (ltT (by omega)) (cT (irT (by omega) (by omega)) ?_)
      rw [getC false, ct, w_succ (by omega)]
      exact cF rfl (cT (fwT (by simp; omega)) (k2 β kx kr))
    · obtain ⟨r, k1, k2⟩ := ih (i + 1) n (acc ++ [(vals.getD i 0, (vers.getD i 0, (rotRaw (vals.getD i 0) (vers.getD i 0) (i : Int), ())))]) (by omega) (by simp; omega) (by omega)
      refine ⟨r, k1, fun β kx kr => ?_⟩
      rw [spec_RotWrite.t5]
      unfold spec_RotWrite.b5
      refine cT (ltT (by omega)) (cT (irT (by omega) (by omega)) ?_)
      simp only [getC]
      rw [ct, w_succ (by omega)]
      refine cT rfl (cT (irT (by omega) (by omega)) (cT (irT (by omega) (by omega)) (cT (irT (by omega) (by omega)) (cT (irT (by omega) (by omega)) ?_))))
      exact cT (fwT (by simp; omega)) (k2 β kx kr)
theorem rotw_G {kind : Int} {vals vers : List Int} {there : List Bool} (hs : Sd kind vals vers there) : ∃ r : List Dk', r.length ≤ 8 ∧ ∀ (β : Type) (K : List Dk' → Option β), spec_RotWrite.G sl1 kind vals vers there K = K r := by
  cases ho : stripeV kind vals vers there
  · exact ⟨[], by simp, fun β K => (stripeOk_G _ _ _ _ (by have := hs.l1; omega) _).trans (cT (by rw [ho]; rfl) rfl)⟩
  · obtain ⟨r, k1, k2⟩ := rotw_l (β := Unit) kind hs.l1 hs.l2 hs.l3 8 0 sl1.n [] (by omega) rfl (by rw [rounds_n]; omega)
    exact ⟨r, by omega, fun β K => (stripeOk_G _ _ _ _ (by have := hs.l1; omega) _).trans (cF (by rw [ho]; rfl) (k2 β _ _))⟩
theorem disks_l {b : List Int} (hb : Src b) (kind : Int) (vals vers : List Int) (there : List Bool) (m : Nat) : ∀ (n : Nat) (p : Int) (l : List Dk'), m < n → m ≤ 100 → 0 ≤ p → p + 6 * m ≤ 1000 → l.length ≤ 8 →
    ∃ q l', p ≤ q ∧ q ≤ p + 6 * m ∧ l'.length ≤ 8 ∧ ∃ v' w' t', ∀ (β : Type) (kx : List Int → Int → Int → List Dk' → List Int → List Int → List Bool → Option β) (kr : Option β),
      spec_l93Disks.l4 sl1 n kx kr b p kind l vals vers there (m : Int) = kx b q kind l' v' w' t' := by
  induction m with
  | zero =>
    intro n p l hn hm hp hp2 hl
    obtain ⟨n, rfl⟩ : ∃ m, n = m + 1 := ⟨n - 1, by omega⟩
    exact ⟨p, l, by omega, by omega, hl, vals, vers, there, fun β kx kr => by rw [spec_l93Disks.t4]; exact cF (ltF (by omega)) rfl⟩
  | succ m ih =>
    intro n p l hn hm hp hp2 hl
    obtain ⟨n, rfl⟩ : ∃ m, n = m + 1 := ⟨n - 1, by omega⟩
    have wm : sl1.w (((m + 1 : Nat) : Int) - 1) = (m : Int) := by rw [wE (by omega) (by omega)]; omega
    by_cases hl0 : l.length = 0
    · exact ⟨p, l, by omega, by omega, hl, vals, vers, there, fun β kx kr => by rw [spec_l93Disks.t4]; exact cT (ltT (by omega)) (cF (ltF (by omega)) rfl)⟩
    obtain ⟨i, i0, i1, ei⟩ := pick_S hb (p := p) (l.length : Int)
    obtain ⟨c, c0, c1, ec⟩ := pick_S hb (p := p + 1) 3
    have start : ∀ (β : Type) (kx : List Int → Int → Int → List Dk' → List Int → List Int → List Bool → Option β) (kr r : Option β), (_ : Option β) = r → spec_l93Disks.l4 sl1 (n + 1) kx kr b p kind l vals vers there ((m + 1 : Nat) : Int) = r := fun β kx kr r h => by
      rw [spec_l93Disks.t4]
      unfold spec_l93Disks.b4
      exact cT (ltT (by omega)) (cT (ltT (by omega)) ((ei _ _).trans ((ec _ _).trans h)))
    by_cases h0 : c = 0
    · obtain ⟨v, q, q0, q1, v0, v1, ev⟩ := num_G hb (p := p + 1 + 1) (by omega) (by omega)
      obtain ⟨q', l', k1, k2, k3, v', w', t', k4⟩ := ih n q (l.set (Int.toNat i) (v, (List.getD l (Int.toNat i) (0, (0, (0, ())))).2)) (by omega) (by omega) (by omega) (by omega) (by rw [List.length_set]; exact hl)
      refine ⟨q', l', by omega, by omega, k3, v', w', t', fun β kx kr => start β kx kr _ (cT (eqT h0) ((ev _ _).trans (cT (irT i0 i1) ?_)))⟩
      rw [wm]
      exact k4 β kx kr
    by_cases h1 : c = 1
    · obtain ⟨v, v0, v1, ev⟩ := pick_S hb (p := p + 1 + 1) 91
      obtain ⟨q', l', k1, k2, k3, v', w', t', k4⟩ := ih n (p + 1 + 1 + 1) (l.set (Int.toNat i) ((List.getD l (Int.toNat i) (0, (0, (0, ())))).1, ((List.getD l (Int.toNat i) (0, (0, (0, ())))).2.1, (v, (List.getD l (Int.toNat i) (0, (0, (0, ())))).2.2.2)))) (by omega) (by omega) (by omega) (by omega) (by rw [List.length_set]; exact hl)
      refine ⟨q', l', by omega, by omega, k3, v', w', t', fun β kx kr => start β kx kr _ (cF (eqF h0) (cT (eqT h1) ((ev _ _).trans (cT (irT i0 i1) ?_))))⟩
      rw [wm]
      exact k4 β kx kr
    · obtain ⟨q', l', k1, k2, k3, v', w', t', k4⟩ := ih n (p + 1 + 1) (l.set (Int.toNat i) (0, (0, (0, ())))) (by omega) (by omega) (by omega) (by omega) (by rw [List.length_set]; exact hl)
      refine ⟨q', l', by omega, by omega, k3, v', w', t', fun β kx kr => start β kx kr _ (cF (eqF h0) (cF (eqF h1) (cT (irT i0 i1) ?_)))⟩
      rw [wm]
      exact k4 β kx kr
theorem disks_G {b : List Int} (hb : Src b) : ∃ q kind l, l.length ≤ 8 ∧ ∀ (β : Type) (K : List Int → Int → Int → List Dk' → Option β), spec_l93Disks.G sl1 b 0 K = K b q kind l := by
  obtain ⟨q, kind, vals, vers, there, q0, q1, hs, es⟩ := stripe_S hb (p := 0) (by omega) (by omega)
  obtain ⟨l, hl, el⟩ := rotw_G hs
  obtain ⟨m, m0, m1, em⟩ := pick_S hb (p := q) 3
  obtain ⟨m, rfl⟩ := Int.eq_ofNat_of_zero_le m0
  obtain ⟨q', l', k1, k2, k3, v', w', t', k4⟩ := disks_l hb kind vals vers there m sl1.n (q + 1) l (by rw [rounds_n]; omega) (by omega) (by omega) (by omega) hl
  obtain ⟨c, c0, c1, ec⟩ := pick_S hb (p := q') 40
  have start : ∀ (β : Type) (K : List Int → Int → Int → List Dk' → Option β) (r : Option β), (_ : Option β) = r → spec_l93Disks.G sl1 b 0 K = r := fun β K r h => by
    unfold spec_l93Disks.G
    exact (es _ _).trans ((el _ _).trans ((em _ _).trans ((k4 _ _ _).trans ((ec _ _).trans h))))
  by_cases h0 : c = 0
  · by_cases h1 : l'.length = 0
    · exact ⟨q' + 1, kind, l', k3, fun β K => start β K _ (cT (eqT h0) (cF (ltF (by omega)) rfl))⟩
    · exact ⟨q' + 1, kind, cutL l' 1 l'.length, by simp [cutL]; omega, fun β K => start β K _ (cT (eqT h0) (cT (ltT (by omega)) (cT (andT (andT (andT rfl (leT (by omega))) (leT (by omega))) (leT (by omega))) rfl)))⟩
  · exact ⟨q' + 1, kind, l', k3, fun β K => start β K _ (cF (eqF h0) rfl)⟩
end Go.Proofs.Ytjmboleiijhelaa.E
namespace Go.Proofs.Ytjmboleiijhelaa.Pure.FnRotFind
open Go Go.Proofs.Ytjmboleiijhelaa.E
theorem pure {β : Type} (l : List Int) (hl : ∀ x ∈ l, 0 ≤ x ∧ x ≤ 255) (K : Bool → Option β) : laws_FnRotFind.G sl1 l K = K true := by
  unfold laws_FnRotFind.G
  by_cases h : 1048576 < (l.length : Int)
  · exact cT (ltT h) rfl
  obtain ⟨b, hb, eb⟩ := open_G hl
  obtain ⟨q, kind, d, hd, ed⟩ := disks_G hb
  refine cF (ltF (by omega)) ?_
  unfold spec_DrawRotFind.G
  refine (eb _ _).trans ((ed _ _).trans ((find_impl _ _).trans ((find_spec _ _).trans ((lkInts_same _ (by have := findV_len d; omega) _).trans (cF rfl ?_)))))
  by_cases h8 : d.length = 8
  · refine cF (neF (by omega)) ?_
    have : findV d = findW d 8 := by unfold findV; rw [decide_eq_true h8]; rfl
    rw [this]
    exact law_l d h8 _ _ 8 0 sl1.n (by omega) (by rw [rounds_n]; omega)
  · refine cT (neT (by omega)) ((find_spec _ _).trans (lkInts_same _ (by have := findV_len d; omega) _))
end Go.Proofs.Ytjmboleiijhelaa.Pure.FnRotFind
end
section
set_option linter.unusedVariables false
set_option linter.unusedSimpArgs false
namespace Go.Proofs.Ytjmboleiijhelaa.fnRotFind
open Go.ChangeShapes Go.WideShapes Go.ChangeAt Go.RowKit
open Go.ChangeMaps (open_string shut_string)
set_option linter.unusedVariables false
theorem own : ownKnob Try.prog.godebug = none := by kernel_rfl
theorem laidOut : laidOutB Try.prog = true := by kernel_rfl
set_option maxRecDepth 100000 in
theorem lifted (os : Os) (started : os.Started) (H : Type) (enc : TypeId × Value → H) :
    ReturnsInHanded {} Try.checked os 3 .any (Rows.fnRotFindSpec.pre6 enc Try.prog Try.f3 Rows.fnRotFindRow.domain false) (Rows.fnRotFindSpec.post enc Try.prog Try.f3 false true false false) := by
  refine returnsInHanded_of_change_sized (C := Try.checked) own started (by kernel_rfl) Try.func3
    (ChangeSpec.witness6 (enc := enc) (C := Try.checked) false ⟨#[], #[.slice none 0 0], []⟩ 8 (by kernel_rfl) (by kernel_rfl) (by kernel_rfl) (by kernel_rfl)) ?_
  intro W base args ds gs before hval0 hW hcnd hsz0 _
  have hval : ∀ (j : Nat) t v, Try.f3.params[j]? = some t → args[j]? = some v → Value.okWide Try.prog W .any base t v := hval0
  have hW' := hW
  obtain ⟨p, q, hA0, hV, rfl, hfz, hnd⟩ := hW
  have hA : DataW.TrodAll enc Try.prog W 0 (fun _ => true) true Try.f3.params.toList args.toList ds p := hA0
  rw [Try.params3] at hA hval
  obtain ⟨v0, vs0, d0, ds0, p0, q0, hargs, rfl, rfl, h0, r0⟩ := trodAll_cons hA
  obtain ⟨rfl, rfl, rfl⟩ := trodAll_nil r0
  obtain rfl : args = #[v0] := by cases args; simp_all
  obtain ⟨rfl, rfl⟩ := trodVars_none hV
  obtain ⟨a0, len0, cap0, rfl⟩ := okWide_slice Try.underlying22 (hval 0 22 v0 rfl rfl)
  have k0 := h0
  have lt0 : ∀ x ∈ p0, x.block < W.heap.size := by obtain ⟨m, hm⟩ := k0; exact DataW.trod_lt m _ _ _ hm
  obtain ⟨z0, w0, b0⟩ : ∃ zs, E.IsRowK .u8 W a0 len0 cap0 zs ∧ (∀ x ∈ zs, (Lit.int .u8 x).wf = true) := by
    obtain ⟨fuel, hf⟩ := h0
    rcases open_ints Try.underlying22 Try.underlying5 (by kernel_rfl) hf with ⟨hcs, _⟩ | ⟨x, l, c, zs, hcs, _, hl, hm, hz, _, hcell, hwz⟩
    · simp [Value.cells] at hcs
      obtain ⟨rfl, rfl, rfl⟩ := hcs
      exact ⟨[], .inl ⟨rfl, rfl, rfl, rfl⟩, by simp⟩
    · simp [Value.cells] at hcs
      obtain ⟨rfl, rfl, rfl⟩ := hcs
      exact ⟨zs, .inr ⟨_, rfl, hl, by simpa using hz, hcell⟩, hwz⟩
  clear hA0 hval0 hsz0
  have hp := Pure.FnRotFind.pure (z0.take len0) (fun x hx => E.byte_wf (b0 x (List.mem_of_mem_take hx))) (fun b => some ((), (b, ())))
  rw [← E.sl_eq] at hp
  refine (E.law_bytes E.laws_FnRotFind.ok w0 hp).mono fun e W' ⟨he, bel⟩ => ?_
  subst he
  exact ⟨_, rfl, _, _, _, [], _, [], hW', trodAll_mk1 (shut_bool Try.underlying4 _), (trodAll_cons_mk (Below.trod laidOut (by kernel_rfl) (of_decide_eq_true (by kernel_rfl)) k0 bel lt0) trodAll_mk0), rfl, bel.frame _, fun h => by cases h⟩
theorem over : Rows.fnRotFindRow.holds Try.pinned (OpenSpec.ofChange Rows.fnRotFindSpec) :=
  OpenClaim.holds_of_wide 3 Try.f3 rfl rfl rfl rfl rfl rfl rfl ⟨rfl, rfl, rfl, rfl, rfl⟩ rfl rfl rfl rfl rfl (by kernel_rfl) Try.func3 (by kernel_rfl)
    (of_decide_eq_true (by kernel_rfl)) (by unfold Func.isWrapper; first | (rw [if_pos (by decide +kernel)]; kernel_rfl) | (rw [if_neg (by decide +kernel)]; exact ⟨rfl, rfl⟩))
    (fun os started H enc _ => lifted os started H enc)
theorem proved : Rows.FnRotFindSaid := over
#print axioms proved
end Go.Proofs.Ytjmboleiijhelaa.fnRotFind
end
