/- What the functions of several statements compute, step by step. No condition. -/
import Derived.Shelf.Bits.Mul64
import Derived.Shelf.Slices.Cells
import Derived.Shelf.Small.Bits
import Derived.Test.YtnbighmbgmjbkaaGreatMGN2
section
set_option linter.unusedVariables false
set_option linter.unusedSimpArgs false
namespace Go.Proofs.YtnbighmbgmjbkaaGreat.E
open Go Go.RowKit
set_option linter.unusedVariables false
set_option maxRecDepth 100000
namespace impl_encode
def sin : Sig := ⟨[], [.one (.val I false), .one (.val (.arr 4 I) false)]⟩
def sout : Sig := ⟨[.buf I false], [.one (.ref (.own 0))]⟩
def h3 : SS := ⟨[0, 3, 5, 8], ⟨[.box [.val (.arr 4 I) false], .buf I false], [.one (.val I false), .one (.ref (.ptr 0)), .one (.ref (.own 1)), .one (.val I false)]⟩⟩
def x3 : SS := ⟨[5], ⟨[.buf I false], [.one (.ref (.own 0))]⟩⟩
def y3 : SS := ⟨[], ⟨[], []⟩⟩
noncomputable def b3 {β : Type} (S : Sl) (L : (List Int) → (List Int) → Int → Int → Option β) (kx : (List Int) → Option β) (kr : Option β) (s0 : (List Int)) (s1 : (List Int)) (s2 : Int) (s3 : Int) : Option β := bif (S.lt s3 8) then (impl_rowOf.G S s2 s3 (fun y1 => impl_vector_dot.G S y1 s0 (fun y2 => bif (S.fw (s1 ++ [y2]).length) then (L s0 (s1 ++ [y2]) s2 (S.w (s3 + 1))) else (none)))) else (kx s1)
noncomputable def r3 {β : Type} (S : Sl) (n : Nat) (kx : x3.sig.den → Option β) (kr : y3.sig.den → Option β) (s : h3.sig.den) : Option β := rounds (fun L kx kr s => b3 S (fun x0 x1 x2 x3 => L (((x0, ()), (x1, ())), (x2, (x3, ())))) (fun x0 => kx ((x0, ()), ())) (kr ((), ())) s.1.1.1 s.1.2.1 s.2.1 s.2.2.1) kx kr n s
noncomputable def l3 {β : Type} (S : Sl) (n : Nat) (kx : (List Int) → Option β) (kr : Option β) (s0 : (List Int)) (s1 : (List Int)) (s2 : Int) (s3 : Int) : Option β := r3 S n (fun s => kx s.1.1) (fun s => kr) (((s0, ()), (s1, ())), (s2, (s3, ())))
theorem t3 {β : Type} (S : Sl) (n : Nat) (kx : (List Int) → Option β) (kr : Option β) (s0 : (List Int)) (s1 : (List Int)) (s2 : Int) (s3 : Int) : l3 S (n + 1) kx kr s0 s1 s2 s3 = b3 S (l3 S n kx kr) kx kr s0 s1 s2 s3 := by kernel_rfl
noncomputable def G {β : Type} (S : Sl) (a0 : Int) (a1 : (List Int)) (K : (List Int) → Option β) : Option β := bif ((S.le 0 0) && (S.le 0 8) && S.fw (Int.toNat 8)) then (l3 S S.n (fun y1 => K y1) none a1 (List.replicate (Int.toNat 0) (0 : Int)) a0 0) else (none)
noncomputable def o : Orac := ⟨92, sin, sout, fun s K => G sl0 s.2.1 s.2.2.1 (fun x0 => K ((x0, ()), ()))⟩
noncomputable def C : Ctx := ⟨tyT, [impl_rowOf.o, impl_vector_dot.o], [⟨3, 0, h3, x3, y3, fun s kx kr => r3 sl0 sl0.n kx kr s⟩], 21, 0⟩
theorem ctx : CtxOk Tryz.prog C := ⟨tyOk, all1 impl_rowOf.ok (all1 impl_vector_dot.ok (all0))⟩
theorem e3 (β : Type) (L : h3.sig.den → Option β) (kx : x3.sig.den → Option β) (kr : y3.sig.den → Option β) (s : h3.sig.den) : evalBody C (nthC (loopsOf (bodyC Tryz.f92)) 0) 0 h3 x3 y3 L kx kr s = b3 sl0 (fun x0 x1 x2 x3 => L (((x0, ()), (x1, ())), (x2, (x3, ())))) (fun x0 => kx ((x0, ()), ())) (kr ((), ())) s.1.1.1 s.1.2.1 s.2.1 s.2.2.1 := by kernel_rfl
theorem g3 : LS Tryz.prog C ⟨3, 0, h3, x3, y3, fun s kx kr => r3 sl0 sl0.n kx kr s⟩ (loopsOf (bodyC Tryz.f92)) := LS.at (i := 0) (by kernel_rfl) (loop_good mixed ctx (ctx_nat ctx) (N := sl0.n) (fun _ _ _ _ => rfl) e3 (all1 (LS.none (by kernel_rfl)) (all0)))
theorem eG (β : Type) (s : sin.den) (K : sout.den → Option β) : evalFn C Tryz.f92 sin sout s K = o.F s K := by kernel_rfl
theorem ok : OracOk Tryz.prog o := fn_ok mixed Tryz.func92 (by kernel_rfl) ctx (c := bodyC Tryz.f92) (by kernel_rfl) (all1 g3 (all0)) (by kernel_rfl) (by kernel_rfl) (by kernel_rfl) (Nat.le_of_ble_eq_true (by kernel_rfl)) eG (by kernel_rfl) (Nat.le_of_ble_eq_true (by kernel_rfl))
end impl_encode
end Go.Proofs.YtnbighmbgmjbkaaGreat.E
end
section
set_option linter.unusedVariables false
set_option linter.unusedSimpArgs false
namespace Go.Proofs.YtnbighmbgmjbkaaGreat.E
open Go Go.RowKit
set_option linter.unusedVariables false
set_option maxRecDepth 100000
namespace impl_within
def sin : Sig := ⟨[], [.one (.val I false), .one (.val I false), .one (.val I false)]⟩
def sout : Sig := ⟨[], [.one (.val .bool false)]⟩
noncomputable def G {β : Type} (S : Sl) (a0 : Int) (a1 : Int) (a2 : Int) (K : Bool → Option β) : Option β := bif (S.le a1 a0) then (K (S.le a0 a2)) else (K false)
noncomputable def o : Orac := ⟨177, sin, sout, fun s K => G sl0 s.2.1 s.2.2.1 s.2.2.2.1 (fun x0 => K ((), (x0, ())))⟩
noncomputable def C : Ctx := ⟨tyT, [], [], 15, 0⟩
theorem ctx : CtxOk Tryz.prog C := ⟨tyOk, all0⟩
theorem eG (β : Type) (s : sin.den) (K : sout.den → Option β) : evalFn C Tryz.f177 sin sout s K = o.F s K := by kernel_rfl
theorem ok : OracOk Tryz.prog o := fn_ok mixed Tryz.func177 (by kernel_rfl) ctx (c := bodyC Tryz.f177) (by kernel_rfl) (all0) (by kernel_rfl) (by kernel_rfl) (by kernel_rfl) (Nat.le_of_ble_eq_true (by kernel_rfl)) eG (by kernel_rfl) (Nat.le_of_ble_eq_true (by kernel_rfl))
end impl_within
end Go.Proofs.YtnbighmbgmjbkaaGreat.E
end
section
set_option linter.unusedVariables false
set_option linter.unusedSimpArgs false
namespace Go.Proofs.YtnbighmbgmjbkaaGreat.E
open Go Go.RowKit
set_option linter.unusedVariables false
set_option maxRecDepth 100000
namespace impl_kindOk
def sin : Sig := ⟨[], [.one (.val I false)]⟩
def sout : Sig := ⟨[], [.one (.val .bool false)]⟩
noncomputable def G {β : Type} (S : Sl) (a0 : Int) (K : Bool → Option β) : Option β := impl_within.G S a0 1 2 (fun y1 => K y1)
noncomputable def o : Orac := ⟨97, sin, sout, fun s K => G sl0 s.2.1 (fun x0 => K ((), (x0, ())))⟩
noncomputable def C : Ctx := ⟨tyT, [impl_within.o], [], 5, 0⟩
theorem ctx : CtxOk Tryz.prog C := ⟨tyOk, all1 impl_within.ok (all0)⟩
theorem eG (β : Type) (s : sin.den) (K : sout.den → Option β) : evalFn C Tryz.f97 sin sout s K = o.F s K := by kernel_rfl
theorem ok : OracOk Tryz.prog o := fn_ok mixed Tryz.func97 (by kernel_rfl) ctx (c := bodyC Tryz.f97) (by kernel_rfl) (all0) (by kernel_rfl) (by kernel_rfl) (by kernel_rfl) (Nat.le_of_ble_eq_true (by kernel_rfl)) eG (by kernel_rfl) (Nat.le_of_ble_eq_true (by kernel_rfl))
end impl_kindOk
end Go.Proofs.YtnbighmbgmjbkaaGreat.E
end
section
set_option linter.unusedVariables false
set_option linter.unusedSimpArgs false
namespace Go.Proofs.YtnbighmbgmjbkaaGreat.E
open Go Go.RowKit
set_option linter.unusedVariables false
set_option maxRecDepth 100000
namespace impl_FieldOk
def sin : Sig := ⟨[], [.one (.val I false)]⟩
def sout : Sig := ⟨[], [.one (.val .bool false)]⟩
noncomputable def G {β : Type} (S : Sl) (a0 : Int) (K : Bool → Option β) : Option β := impl_within.G S a0 0 30 (fun y1 => K y1)
noncomputable def o : Orac := ⟨143, sin, sout, fun s K => G sl0 s.2.1 (fun x0 => K ((), (x0, ())))⟩
noncomputable def C : Ctx := ⟨tyT, [impl_within.o], [], 5, 0⟩
theorem ctx : CtxOk Tryz.prog C := ⟨tyOk, all1 impl_within.ok (all0)⟩
theorem eG (β : Type) (s : sin.den) (K : sout.den → Option β) : evalFn C Tryz.f143 sin sout s K = o.F s K := by kernel_rfl
theorem ok : OracOk Tryz.prog o := fn_ok mixed Tryz.func143 (by kernel_rfl) ctx (c := bodyC Tryz.f143) (by kernel_rfl) (all0) (by kernel_rfl) (by kernel_rfl) (by kernel_rfl) (Nat.le_of_ble_eq_true (by kernel_rfl)) eG (by kernel_rfl) (Nat.le_of_ble_eq_true (by kernel_rfl))
end impl_FieldOk
end Go.Proofs.YtnbighmbgmjbkaaGreat.E
end
section
set_option linter.unusedVariables false
set_option linter.unusedSimpArgs false
namespace Go.Proofs.YtnbighmbgmjbkaaGreat.E
open Go Go.RowKit
set_option linter.unusedVariables false
set_option maxRecDepth 100000
namespace impl_elementsOk_1
def sin : Sig := ⟨[], [.one (.val I false)]⟩
def sout : Sig := ⟨[], [.one (.val .bool false)]⟩
noncomputable def G {β : Type} (S : Sl) (a0 : Int) (K : Bool → Option β) : Option β := impl_FieldOk.G S a0 (fun y1 => K (!y1))
noncomputable def o : Orac := ⟨209, sin, sout, fun s K => G sl0 s.2.1 (fun x0 => K ((), (x0, ())))⟩
noncomputable def C : Ctx := ⟨tyT, [impl_FieldOk.o], [], 6, 0⟩
theorem ctx : CtxOk Tryz.prog C := ⟨tyOk, all1 impl_FieldOk.ok (all0)⟩
theorem eG (β : Type) (s : sin.den) (K : sout.den → Option β) : evalFn C Tryz.f209 sin sout s K = o.F s K := by kernel_rfl
theorem ok : OracOk Tryz.prog o := fn_ok mixed Tryz.func209 (by kernel_rfl) ctx (c := bodyC Tryz.f209) (by kernel_rfl) (all0) (by kernel_rfl) (by kernel_rfl) (by kernel_rfl) (Nat.le_of_ble_eq_true (by kernel_rfl)) eG (by kernel_rfl) (Nat.le_of_ble_eq_true (by kernel_rfl))
end impl_elementsOk_1
end Go.Proofs.YtnbighmbgmjbkaaGreat.E
end
section
set_option linter.unusedVariables false
set_option linter.unusedSimpArgs false
namespace Go.Proofs.YtnbighmbgmjbkaaGreat.E
open Go Go.RowKit
set_option linter.unusedVariables false
set_option maxRecDepth 100000
namespace slices_IndexFunc_Sint_int__
def sin : Sig := ⟨[], [.one (.val (.sl I) false), .one (.ref (.fn 209 []))]⟩
def sout : Sig := ⟨[], [.one (.val I false)]⟩
def h2 : SS := ⟨[0, 1, 7, 8], ⟨[], [.one (.val (.sl I) false), .one (.ref (.fn 209 [])), .one (.val I false), .one (.val I false)]⟩⟩
def x2 : SS := ⟨[], ⟨[], []⟩⟩
def y2 : SS := ⟨[4], ⟨[], [.one (.val I false)]⟩⟩
noncomputable def b2 {β : Type} (S : Sl) (L : (List Int) → Int → Int → Option β) (kx : Option β) (kr : Int → Option β) (s0 : (List Int)) (s1 : Int) (s2 : Int) : Option β := bif (S.lt s2 s1) then (bif (S.ir s2 s0.length) then (impl_elementsOk_1.G S (List.getD s0 (Int.toNat s2) 0) (fun y1 => bif y1 then (kr s2) else (L s0 s1 (S.w (s2 + 1))))) else (none)) else (kx)
noncomputable def r2 {β : Type} (S : Sl) (n : Nat) (kx : x2.sig.den → Option β) (kr : y2.sig.den → Option β) (s : h2.sig.den) : Option β := rounds (fun L kx kr s => b2 S (fun x0 x1 x2 => L ((), (x0, (x1, (x2, ()))))) (kx ((), ())) (fun x0 => kr ((), (x0, ()))) s.2.1 s.2.2.1 s.2.2.2.1) kx kr n s
noncomputable def l2 {β : Type} (S : Sl) (n : Nat) (kx : Option β) (kr : Int → Option β) (s0 : (List Int)) (s1 : Int) (s2 : Int) : Option β := r2 S n (fun s => kx) (fun s => kr s.2.1) ((), (s0, (s1, (s2, ()))))
theorem t2 {β : Type} (S : Sl) (n : Nat) (kx : Option β) (kr : Int → Option β) (s0 : (List Int)) (s1 : Int) (s2 : Int) : l2 S (n + 1) kx kr s0 s1 s2 = b2 S (l2 S n kx kr) kx kr s0 s1 s2 := by kernel_rfl
noncomputable def G {β : Type} (S : Sl) (a0 : (List Int)) (K : Int → Option β) : Option β := l2 S S.n (K (-1)) (fun y1 => K y1) a0 (a0.length : Int) 0
noncomputable def o : Orac := ⟨201, sin, sout, fun s K => G sl0 s.2.1 (fun x0 => K ((), (x0, ())))⟩
noncomputable def C : Ctx := ⟨tyT, [impl_elementsOk_1.o], [⟨2, 0, h2, x2, y2, fun s kx kr => r2 sl0 sl0.n kx kr s⟩], 19, 0⟩
theorem ctx : CtxOk Tryz.prog C := ⟨tyOk, all1 impl_elementsOk_1.ok (all0)⟩
theorem e2 (β : Type) (L : h2.sig.den → Option β) (kx : x2.sig.den → Option β) (kr : y2.sig.den → Option β) (s : h2.sig.den) : evalBody C (nthC (loopsOf (bodyC Tryz.f201)) 0) 0 h2 x2 y2 L kx kr s = b2 sl0 (fun x0 x1 x2 => L ((), (x0, (x1, (x2, ()))))) (kx ((), ())) (fun x0 => kr ((), (x0, ()))) s.2.1 s.2.2.1 s.2.2.2.1 := by kernel_rfl
theorem g2 : LS Tryz.prog C ⟨2, 0, h2, x2, y2, fun s kx kr => r2 sl0 sl0.n kx kr s⟩ (loopsOf (bodyC Tryz.f201)) := LS.at (i := 0) (by kernel_rfl) (loop_good mixed ctx (ctx_nat ctx) (N := sl0.n) (fun _ _ _ _ => rfl) e2 (all1 (LS.none (by kernel_rfl)) (all0)))
theorem eG (β : Type) (s : sin.den) (K : sout.den → Option β) : evalFn C Tryz.f201 sin sout s K = o.F s K := by kernel_rfl
theorem ok : OracOk Tryz.prog o := fn_ok mixed Tryz.func201 (by kernel_rfl) ctx (c := bodyC Tryz.f201) (by kernel_rfl) (all1 g2 (all0)) (by kernel_rfl) (by kernel_rfl) (by kernel_rfl) (Nat.le_of_ble_eq_true (by kernel_rfl)) eG (by kernel_rfl) (Nat.le_of_ble_eq_true (by kernel_rfl))
end slices_IndexFunc_Sint_int__
end Go.Proofs.YtnbighmbgmjbkaaGreat.E
end
section
set_option linter.unusedVariables false
set_option linter.unusedSimpArgs false
namespace Go.Proofs.YtnbighmbgmjbkaaGreat.E
open Go Go.RowKit
set_option linter.unusedVariables false
set_option maxRecDepth 100000
namespace slices_ContainsFunc_Sint_int_
def sin : Sig := ⟨[], [.one (.val (.sl I) false), .one (.ref (.fn 209 []))]⟩
def sout : Sig := ⟨[], [.one (.val .bool false)]⟩
noncomputable def G {β : Type} (S : Sl) (a0 : (List Int)) (K : Bool → Option β) : Option β := slices_IndexFunc_Sint_int__.G S a0 (fun y1 => K (S.le 0 y1))
noncomputable def o : Orac := ⟨144, sin, sout, fun s K => G sl0 s.2.1 (fun x0 => K ((), (x0, ())))⟩
noncomputable def C : Ctx := ⟨tyT, [slices_IndexFunc_Sint_int__.o], [], 9, 0⟩
theorem ctx : CtxOk Tryz.prog C := ⟨tyOk, all1 slices_IndexFunc_Sint_int__.ok (all0)⟩
theorem eG (β : Type) (s : sin.den) (K : sout.den → Option β) : evalFn C Tryz.f144 sin sout s K = o.F s K := by kernel_rfl
theorem ok : OracOk Tryz.prog o := fn_ok mixed Tryz.func144 (by kernel_rfl) ctx (c := bodyC Tryz.f144) (by kernel_rfl) (all0) (by kernel_rfl) (by kernel_rfl) (by kernel_rfl) (Nat.le_of_ble_eq_true (by kernel_rfl)) eG (by kernel_rfl) (Nat.le_of_ble_eq_true (by kernel_rfl))
end slices_ContainsFunc_Sint_int_
end Go.Proofs.YtnbighmbgmjbkaaGreat.E
end
section
set_option linter.unusedVariables false
set_option linter.unusedSimpArgs false
namespace Go.Proofs.YtnbighmbgmjbkaaGreat.E
open Go Go.RowKit
set_option linter.unusedVariables false
set_option maxRecDepth 100000
namespace impl_elementsOk
def sin : Sig := ⟨[], [.one (.val (.sl I) false), .one (.val I false)]⟩
def sout : Sig := ⟨[], [.one (.val .bool false)]⟩
noncomputable def G {β : Type} (S : Sl) (a0 : (List Int)) (a1 : Int) (K : Bool → Option β) : Option β := bif (S.eq (a0.length : Int) a1) then (slices_ContainsFunc_Sint_int_.G S a0 (fun y1 => K (!y1))) else (K false)
noncomputable def o : Orac := ⟨171, sin, sout, fun s K => G sl0 s.2.1 s.2.2.1 (fun x0 => K ((), (x0, ())))⟩
noncomputable def C : Ctx := ⟨tyT, [slices_ContainsFunc_Sint_int_.o], [], 14, 0⟩
theorem ctx : CtxOk Tryz.prog C := ⟨tyOk, all1 slices_ContainsFunc_Sint_int_.ok (all0)⟩
theorem eG (β : Type) (s : sin.den) (K : sout.den → Option β) : evalFn C Tryz.f171 sin sout s K = o.F s K := by kernel_rfl
theorem ok : OracOk Tryz.prog o := fn_ok mixed Tryz.func171 (by kernel_rfl) ctx (c := bodyC Tryz.f171) (by kernel_rfl) (all0) (by kernel_rfl) (by kernel_rfl) (by kernel_rfl) (Nat.le_of_ble_eq_true (by kernel_rfl)) eG (by kernel_rfl) (Nat.le_of_ble_eq_true (by kernel_rfl))
end impl_elementsOk
end Go.Proofs.YtnbighmbgmjbkaaGreat.E
end
section
set_option linter.unusedVariables false
set_option linter.unusedSimpArgs false
namespace Go.Proofs.YtnbighmbgmjbkaaGreat.E
open Go Go.RowKit
set_option linter.unusedVariables false
set_option maxRecDepth 100000
namespace impl_vectorOf
def sin : Sig := ⟨[], [.one (.val (.sl I) false)]⟩
def sout : Sig := ⟨[], [.agg [.val (.arr 4 I) false], .one (.val .bool false)]⟩
def h5 : SS := ⟨[2, 4, 11, 12, 13], ⟨[.box [.val (.arr 4 I) false], .box [.val (.arr 4 I) false]], [.one (.ref (.ptr 0)), .one (.ref (.ptr 1)), .one (.val (.sl I) false), .one (.val I false), .one (.val I false)]⟩⟩
def x5 : SS := ⟨[2, 4], ⟨[.box [.val (.arr 4 I) false], .box [.val (.arr 4 I) false]], [.one (.ref (.ptr 0)), .one (.ref (.ptr 1))]⟩⟩
def y5 : SS := ⟨[], ⟨[], []⟩⟩
noncomputable def b5 {β : Type} (S : Sl) (L : (List Int) → (List Int) → (List Int) → Int → Int → Option β) (kx : (List Int) → (List Int) → Option β) (kr : Option β) (s0 : (List Int)) (s1 : (List Int)) (s2 : (List Int)) (s3 : Int) (s4 : Int) : Option β := bif (S.lt s4 s3) then (bif (S.ir s4 s2.length) then (bif (S.ir s4 4) then (L s0 (List.set s1 (Int.toNat s4) (List.getD s2 (Int.toNat s4) 0)) s2 s3 (S.w (s4 + 1))) else (none)) else (none)) else (kx s0 s1)
noncomputable def r5 {β : Type} (S : Sl) (n : Nat) (kx : x5.sig.den → Option β) (kr : y5.sig.den → Option β) (s : h5.sig.den) : Option β := rounds (fun L kx kr s => b5 S (fun x0 x1 x2 x3 x4 => L (((x0, ()), ((x1, ()), ())), (x2, (x3, (x4, ()))))) (fun x0 x1 => kx (((x0, ()), ((x1, ()), ())), ())) (kr ((), ())) s.1.1.1 s.1.2.1.1 s.2.1 s.2.2.1 s.2.2.2.1) kx kr n s
noncomputable def l5 {β : Type} (S : Sl) (n : Nat) (kx : (List Int) → (List Int) → Option β) (kr : Option β) (s0 : (List Int)) (s1 : (List Int)) (s2 : (List Int)) (s3 : Int) (s4 : Int) : Option β := r5 S n (fun s => kx s.1.1.1 s.1.2.1.1) (fun s => kr) (((s0, ()), ((s1, ()), ())), (s2, (s3, (s4, ()))))
theorem t5 {β : Type} (S : Sl) (n : Nat) (kx : (List Int) → (List Int) → Option β) (kr : Option β) (s0 : (List Int)) (s1 : (List Int)) (s2 : (List Int)) (s3 : Int) (s4 : Int) : l5 S (n + 1) kx kr s0 s1 s2 s3 s4 = b5 S (l5 S n kx kr) kx kr s0 s1 s2 s3 s4 := by kernel_rfl
noncomputable def G {β : Type} (S : Sl) (a0 : (List Int)) (K : (List Int) → Bool → Option β) : Option β := impl_elementsOk.G S a0 4 (fun y1 => bif (!y1) then (K (List.replicate 4 0) false) else (l5 S S.n (fun y2 y3 => K y3 true) none (List.replicate 4 0) (List.replicate 4 0) a0 (a0.length : Int) 0))
noncomputable def o : Orac := ⟨89, sin, sout, fun s K => G sl0 s.2.1 (fun x0 x1 => K ((), ((x0, ()), (x1, ()))))⟩
noncomputable def C : Ctx := ⟨tyT, [impl_elementsOk.o], [⟨5, 0, h5, x5, y5, fun s kx kr => r5 sl0 sl0.n kx kr s⟩], 23, 0⟩
theorem ctx : CtxOk Tryz.prog C := ⟨tyOk, all1 impl_elementsOk.ok (all0)⟩
theorem e5 (β : Type) (L : h5.sig.den → Option β) (kx : x5.sig.den → Option β) (kr : y5.sig.den → Option β) (s : h5.sig.den) : evalBody C (nthC (loopsOf (bodyC Tryz.f89)) 0) 0 h5 x5 y5 L kx kr s = b5 sl0 (fun x0 x1 x2 x3 x4 => L (((x0, ()), ((x1, ()), ())), (x2, (x3, (x4, ()))))) (fun x0 x1 => kx (((x0, ()), ((x1, ()), ())), ())) (kr ((), ())) s.1.1.1 s.1.2.1.1 s.2.1 s.2.2.1 s.2.2.2.1 := by kernel_rfl
theorem g5 : LS Tryz.prog C ⟨5, 0, h5, x5, y5, fun s kx kr => r5 sl0 sl0.n kx kr s⟩ (loopsOf (bodyC Tryz.f89)) := LS.at (i := 0) (by kernel_rfl) (loop_good mixed ctx (ctx_nat ctx) (N := sl0.n) (fun _ _ _ _ => rfl) e5 (all1 (LS.none (by kernel_rfl)) (all0)))
theorem eG (β : Type) (s : sin.den) (K : sout.den → Option β) : evalFn C Tryz.f89 sin sout s K = o.F s K := by kernel_rfl
theorem ok : OracOk Tryz.prog o := fn_ok mixed Tryz.func89 (by kernel_rfl) ctx (c := bodyC Tryz.f89) (by kernel_rfl) (all1 g5 (all0)) (by kernel_rfl) (by kernel_rfl) (by kernel_rfl) (Nat.le_of_ble_eq_true (by kernel_rfl)) eG (by kernel_rfl) (Nat.le_of_ble_eq_true (by kernel_rfl))
end impl_vectorOf
end Go.Proofs.YtnbighmbgmjbkaaGreat.E
end
section
set_option linter.unusedVariables false
set_option linter.unusedSimpArgs false
namespace Go.Proofs.YtnbighmbgmjbkaaGreat.E
open Go Go.RowKit
set_option linter.unusedVariables false
set_option maxRecDepth 100000
namespace impl_versOk
def sin : Sig := ⟨[], [.one (.val I false)]⟩
def sout : Sig := ⟨[], [.one (.val .bool false)]⟩
noncomputable def G {β : Type} (S : Sl) (a0 : Int) (K : Bool → Option β) : Option β := impl_within.G S a0 1 99 (fun y1 => K y1)
noncomputable def o : Orac := ⟨127, sin, sout, fun s K => G sl0 s.2.1 (fun x0 => K ((), (x0, ())))⟩
noncomputable def C : Ctx := ⟨tyT, [impl_within.o], [], 5, 0⟩
theorem ctx : CtxOk Tryz.prog C := ⟨tyOk, all1 impl_within.ok (all0)⟩
theorem eG (β : Type) (s : sin.den) (K : sout.den → Option β) : evalFn C Tryz.f127 sin sout s K = o.F s K := by kernel_rfl
theorem ok : OracOk Tryz.prog o := fn_ok mixed Tryz.func127 (by kernel_rfl) ctx (c := bodyC Tryz.f127) (by kernel_rfl) (all0) (by kernel_rfl) (by kernel_rfl) (by kernel_rfl) (Nat.le_of_ble_eq_true (by kernel_rfl)) eG (by kernel_rfl) (Nat.le_of_ble_eq_true (by kernel_rfl))
end impl_versOk
end Go.Proofs.YtnbighmbgmjbkaaGreat.E
end
section
set_option linter.unusedVariables false
set_option linter.unusedSimpArgs false
namespace Go.Proofs.YtnbighmbgmjbkaaGreat.E
open Go Go.RowKit
set_option linter.unusedVariables false
set_option maxRecDepth 100000
namespace math_bits_Mul
def sin : Sig := ⟨[], [.one (.val (.int .u64) false), .one (.val (.int .u64) false)]⟩
def sout : Sig := ⟨[], [.one (.val (.int .u64) false), .one (.val (.int .u64) false)]⟩
def ren : Go.Shelf.Ren := ⟨fun | 212 => 195 | 263 => 220 | 264 => 221 | n => n, fun | 46 => 171 | 51 => 200 | 53 => 203 | 146 => 201 | 148 => 204 | n => n, fun n => n⟩
theorem lays : Go.Proofs.Lays.n212 Tryz.prog ren where
 mixed := by kernel_rfl
 f212 := Tryz.func195.trans (congrArg some (by kernel_rfl))
 f263 := Tryz.func220.trans (congrArg some (by kernel_rfl))
 f264 := Tryz.func221.trans (congrArg some (by kernel_rfl))
 t46 := Tryz.underlying171
 a46 := Tryz.isAgg171
 z46 := Tryz.sizeOf171
 v46 := Tryz.zeroValue171
 t51 := Tryz.underlying200
 a51 := Tryz.isAgg200
 z51 := Tryz.sizeOf200
 v51 := Tryz.zeroValue200
 t53 := Tryz.underlying203
 a53 := Tryz.isAgg203
 z53 := Tryz.sizeOf203
 v53 := Tryz.zeroValue203
 t146 := Tryz.underlying201
 a146 := Tryz.isAgg201
 z146 := Tryz.sizeOf201
 v146 := Tryz.zeroValue201
 t148 := Tryz.underlying204
 a148 := Tryz.isAgg204
 z148 := Tryz.sizeOf204
 v148 := Tryz.zeroValue204
def ask (x y : Int) (S : Sl) : Bool := (S.le 0 x && S.le x 1000000000) && (S.le 0 y && S.le y 1000000000)
noncomputable def G {β : Type} (S : Sl) (a0 a1 : Int) (K : Int → Int → Option β) : Option β := bif ask a0 a1 S then K 0 (a0 * a1) else none
noncomputable def o : Orac := ⟨195, sin, sout, fun s K => G sl0 s.2.1 s.2.2.1 (fun x y => K ((), (x, (y, ()))))⟩
theorem ok : OracOk Tryz.prog o := pure2_ok Tryz.func195 (by kernel_rfl) (by kernel_rfl) (ask := fun x y => ask x y sl0) (F1 := fun _ _ => 0) (F2 := fun x y => x * y) (fun x y w h => by
 have h : ((ile 0 x && ile x 1000000000) && (ile 0 y && ile y 1000000000)) = true := h
 rw [ile_eq, ile_eq, ile_eq, ile_eq, Bool.and_eq_true, Bool.and_eq_true, Bool.and_eq_true, decide_eq_true_eq, decide_eq_true_eq, decide_eq_true_eq, decide_eq_true_eq] at h
 obtain ⟨⟨x0, x1⟩, y0, y1⟩ := h
 obtain ⟨a, rfl⟩ := Int.eq_ofNat_of_zero_le x0
 obtain ⟨b, rfl⟩ := Int.eq_ofNat_of_zero_le y0
 have hb : a * b ≤ 1000000000 * 1000000000 := Nat.mul_le_mul (by omega) (by omega)
 refine (Any.bits_Mul lays a b (by omega) (by omega) w).mono ?_
 rintro e w2 ⟨rfl, rfl⟩
 rw [Nat.div_eq_of_lt (by omega), Nat.mod_eq_of_lt (by omega), Int.natCast_mul]
 exact ⟨rfl, rfl⟩)
end math_bits_Mul
end Go.Proofs.YtnbighmbgmjbkaaGreat.E
end
section
set_option linter.unusedVariables false
set_option linter.unusedSimpArgs false
namespace Go.Proofs.YtnbighmbgmjbkaaGreat.E
open Go Go.RowKit
set_option linter.unusedVariables false
set_option maxRecDepth 100000
namespace slices_Repeat_Sbool_bool
def sin : Sig := ⟨[], [.one (.val (.sl .bool) false), .one (.val I false)]⟩
def sout : Sig := ⟨[.buf .bool false], [.one (.ref (.own 0))]⟩
def h8 : SS := ⟨[7, 8], ⟨[.buf .bool false], [.one (.ref (.own 0)), .one (.val I false)]⟩⟩
def x8 : SS := ⟨[7], ⟨[.buf .bool false], [.one (.ref (.own 0))]⟩⟩
def y8 : SS := ⟨[], ⟨[], []⟩⟩
noncomputable def b8 {β : Type} (S : Sl) (L : (List Bool) → Int → Option β) (kx : (List Bool) → Option β) (kr : Option β) (s0 : (List Bool)) (s1 : Int) : Option β := bif (S.lt s1 (s0.length : Int)) then (bif ((S.le 0 s1) && (S.le s1 (s0.length : Int)) && (S.le (s0.length : Int) (s0.length : Int)) && (S.le (s0.length : Int) (s0.length : Int))) then (bif ((S.le 0 0) && (S.le 0 s1) && (S.le s1 (s0.length : Int)) && (S.le (s0.length : Int) (s0.length : Int))) then (L (cpy s0 (Int.toNat s1) (Int.toNat (s0.length : Int)) (cutL s0 (Int.toNat 0) (Int.toNat s1))) (S.w (s1 + ((min ((Int.toNat (s0.length : Int)) - (Int.toNat s1)) (List.length (cutL s0 (Int.toNat 0) (Int.toNat s1))) : Nat) : Int)))) else (none)) else (none)) else (kx s0)
noncomputable def r8 {β : Type} (S : Sl) (n : Nat) (kx : x8.sig.den → Option β) (kr : y8.sig.den → Option β) (s : h8.sig.den) : Option β := rounds (fun L kx kr s => b8 S (fun x0 x1 => L ((x0, ()), (x1, ()))) (fun x0 => kx ((x0, ()), ())) (kr ((), ())) s.1.1 s.2.1) kx kr n s
noncomputable def l8 {β : Type} (S : Sl) (n : Nat) (kx : (List Bool) → Option β) (kr : Option β) (s0 : (List Bool)) (s1 : Int) : Option β := r8 S n (fun s => kx s.1.1) (fun s => kr) ((s0, ()), (s1, ()))
theorem t8 {β : Type} (S : Sl) (n : Nat) (kx : (List Bool) → Option β) (kr : Option β) (s0 : (List Bool)) (s1 : Int) : l8 S (n + 1) kx kr s0 s1 = b8 S (l8 S n kx kr) kx kr s0 s1 := by kernel_rfl
noncomputable def G {β : Type} (S : Sl) (a0 : (List Bool)) (a1 : Int) (K : (List Bool) → Option β) : Option β := bif (S.lt a1 0) then (none) else (math_bits_Mul.G S (S.wr .u64 (a0.length : Int)) (S.wr .u64 a1) (fun y1 y2 => bif (S.lt 0 y1) then (none) else (bif (S.lt 9223372036854775807 y2) then (none) else (bif ((S.le 0 (S.w y2)) && (S.le (S.w y2) (S.w y2)) && S.fw (Int.toNat (S.w y2))) then (l8 S S.n (fun y3 => K y3) none (cpy (List.replicate (Int.toNat (S.w y2)) false) 0 (List.length (List.replicate (Int.toNat (S.w y2)) false)) a0) ((min (List.length (List.replicate (Int.toNat (S.w y2)) false)) (List.length a0) : Nat) : Int)) else (none)))))
noncomputable def o : Orac := ⟨136, sin, sout, fun s K => G sl0 s.2.1 s.2.2.1 (fun x0 => K ((x0, ()), ()))⟩
noncomputable def C : Ctx := ⟨(tyV 43), [math_bits_Mul.o], [⟨8, 0, h8, x8, y8, fun s kx kr => r8 sl0 sl0.n kx kr s⟩], 48, 0⟩
theorem ctx : CtxOk Tryz.prog C := ⟨(tyVOk 43), all1 math_bits_Mul.ok (all0)⟩
theorem e8 (β : Type) (L : h8.sig.den → Option β) (kx : x8.sig.den → Option β) (kr : y8.sig.den → Option β) (s : h8.sig.den) : evalBody C (nthC (loopsOf (bodyC Tryz.f136)) 0) 0 h8 x8 y8 L kx kr s = b8 sl0 (fun x0 x1 => L ((x0, ()), (x1, ()))) (fun x0 => kx ((x0, ()), ())) (kr ((), ())) s.1.1 s.2.1 := by kernel_rfl
theorem g8 : LS Tryz.prog C ⟨8, 0, h8, x8, y8, fun s kx kr => r8 sl0 sl0.n kx kr s⟩ (loopsOf (bodyC Tryz.f136)) := LS.at (i := 0) (by kernel_rfl) (loop_good mixed ctx (ctx_nat ctx) (N := sl0.n) (fun _ _ _ _ => rfl) e8 (all1 (LS.none (by kernel_rfl)) (all0)))
theorem eG (β : Type) (s : sin.den) (K : sout.den → Option β) : evalFn C Tryz.f136 sin sout s K = o.F s K := by kernel_rfl
theorem ok : OracOk Tryz.prog o := fn_ok mixed Tryz.func136 (by kernel_rfl) ctx (c := bodyC Tryz.f136) (by kernel_rfl) (all1 g8 (all0)) (by kernel_rfl) (by kernel_rfl) (by kernel_rfl) (Nat.le_of_ble_eq_true (by kernel_rfl)) eG (by kernel_rfl) (Nat.le_of_ble_eq_true (by kernel_rfl))
end slices_Repeat_Sbool_bool
end Go.Proofs.YtnbighmbgmjbkaaGreat.E
end
section
set_option linter.unusedVariables false
set_option linter.unusedSimpArgs false
namespace Go.Proofs.YtnbighmbgmjbkaaGreat.E
open Go Go.RowKit
set_option linter.unusedVariables false
set_option maxRecDepth 100000
namespace slices_Repeat_Sint_int
def sin : Sig := ⟨[], [.one (.val (.sl I) false), .one (.val I false)]⟩
def sout : Sig := ⟨[.buf I false], [.one (.ref (.own 0))]⟩
def h8 : SS := ⟨[7, 8], ⟨[.buf I false], [.one (.ref (.own 0)), .one (.val I false)]⟩⟩
def x8 : SS := ⟨[7], ⟨[.buf I false], [.one (.ref (.own 0))]⟩⟩
def y8 : SS := ⟨[], ⟨[], []⟩⟩
noncomputable def b8 {β : Type} (S : Sl) (L : (List Int) → Int → Option β) (kx : (List Int) → Option β) (kr : Option β) (s0 : (List Int)) (s1 : Int) : Option β := bif (S.lt s1 (s0.length : Int)) then (bif ((S.le 0 s1) && (S.le s1 (s0.length : Int)) && (S.le (s0.length : Int) (s0.length : Int)) && (S.le (s0.length : Int) (s0.length : Int))) then (bif ((S.le 0 0) && (S.le 0 s1) && (S.le s1 (s0.length : Int)) && (S.le (s0.length : Int) (s0.length : Int))) then (L (cpy s0 (Int.toNat s1) (Int.toNat (s0.length : Int)) (cutL s0 (Int.toNat 0) (Int.toNat s1))) (S.w (s1 + ((min ((Int.toNat (s0.length : Int)) - (Int.toNat s1)) (List.length (cutL s0 (Int.toNat 0) (Int.toNat s1))) : Nat) : Int)))) else (none)) else (none)) else (kx s0)
noncomputable def r8 {β : Type} (S : Sl) (n : Nat) (kx : x8.sig.den → Option β) (kr : y8.sig.den → Option β) (s : h8.sig.den) : Option β := rounds (fun L kx kr s => b8 S (fun x0 x1 => L ((x0, ()), (x1, ()))) (fun x0 => kx ((x0, ()), ())) (kr ((), ())) s.1.1 s.2.1) kx kr n s
noncomputable def l8 {β : Type} (S : Sl) (n : Nat) (kx : (List Int) → Option β) (kr : Option β) (s0 : (List Int)) (s1 : Int) : Option β := r8 S n (fun s => kx s.1.1) (fun s => kr) ((s0, ()), (s1, ()))
theorem t8 {β : Type} (S : Sl) (n : Nat) (kx : (List Int) → Option β) (kr : Option β) (s0 : (List Int)) (s1 : Int) : l8 S (n + 1) kx kr s0 s1 = b8 S (l8 S n kx kr) kx kr s0 s1 := by kernel_rfl
noncomputable def G {β : Type} (S : Sl) (a0 : (List Int)) (a1 : Int) (K : (List Int) → Option β) : Option β := bif (S.lt a1 0) then (none) else (math_bits_Mul.G S (S.wr .u64 (a0.length : Int)) (S.wr .u64 a1) (fun y1 y2 => bif (S.lt 0 y1) then (none) else (bif (S.lt 9223372036854775807 y2) then (none) else (bif ((S.le 0 (S.w y2)) && (S.le (S.w y2) (S.w y2)) && S.fw (Int.toNat (S.w y2))) then (l8 S S.n (fun y3 => K y3) none (cpy (List.replicate (Int.toNat (S.w y2)) (0 : Int)) 0 (List.length (List.replicate (Int.toNat (S.w y2)) (0 : Int))) a0) ((min (List.length (List.replicate (Int.toNat (S.w y2)) (0 : Int))) (List.length a0) : Nat) : Int)) else (none)))))
noncomputable def o : Orac := ⟨135, sin, sout, fun s K => G sl0 s.2.1 s.2.2.1 (fun x0 => K ((x0, ()), ()))⟩
noncomputable def C : Ctx := ⟨(tyV 43), [math_bits_Mul.o], [⟨8, 0, h8, x8, y8, fun s kx kr => r8 sl0 sl0.n kx kr s⟩], 48, 0⟩
theorem ctx : CtxOk Tryz.prog C := ⟨(tyVOk 43), all1 math_bits_Mul.ok (all0)⟩
theorem e8 (β : Type) (L : h8.sig.den → Option β) (kx : x8.sig.den → Option β) (kr : y8.sig.den → Option β) (s : h8.sig.den) : evalBody C (nthC (loopsOf (bodyC Tryz.f135)) 0) 0 h8 x8 y8 L kx kr s = b8 sl0 (fun x0 x1 => L ((x0, ()), (x1, ()))) (fun x0 => kx ((x0, ()), ())) (kr ((), ())) s.1.1 s.2.1 := by kernel_rfl
theorem g8 : LS Tryz.prog C ⟨8, 0, h8, x8, y8, fun s kx kr => r8 sl0 sl0.n kx kr s⟩ (loopsOf (bodyC Tryz.f135)) := LS.at (i := 0) (by kernel_rfl) (loop_good mixed ctx (ctx_nat ctx) (N := sl0.n) (fun _ _ _ _ => rfl) e8 (all1 (LS.none (by kernel_rfl)) (all0)))
theorem eG (β : Type) (s : sin.den) (K : sout.den → Option β) : evalFn C Tryz.f135 sin sout s K = o.F s K := by kernel_rfl
theorem ok : OracOk Tryz.prog o := fn_ok mixed Tryz.func135 (by kernel_rfl) ctx (c := bodyC Tryz.f135) (by kernel_rfl) (all1 g8 (all0)) (by kernel_rfl) (by kernel_rfl) (by kernel_rfl) (Nat.le_of_ble_eq_true (by kernel_rfl)) eG (by kernel_rfl) (Nat.le_of_ble_eq_true (by kernel_rfl))
end slices_Repeat_Sint_int
end Go.Proofs.YtnbighmbgmjbkaaGreat.E
end
section
set_option linter.unusedVariables false
set_option linter.unusedSimpArgs false
namespace Go.Proofs.YtnbighmbgmjbkaaGreat.E
open Go Go.RowKit
set_option linter.unusedVariables false
set_option maxRecDepth 100000
namespace impl_StripeNew
def sin : Sig := ⟨[], [.one (.val I false), .one (.val (.sl I) false), .one (.val I false)]⟩
def sout : Sig := ⟨[.buf I false, .buf I false, .buf .bool false], [.agg [.val I false, .ref (.own 0), .ref (.own 1), .ref (.own 2)], .one (.val .bool false)]⟩
noncomputable def G {β : Type} (S : Sl) (a0 : Int) (a1 : (List Int)) (a2 : Int) (K : (List Int) → (List Int) → (List Bool) → Int → Bool → Option β) : Option β := impl_vectorOf.G S a1 (fun y1 y2 => bif (!y2) then (K [] [] [] 0 false) else (impl_kindOk.G S a0 (fun y3 => bif (!y3) then (K [] [] [] 0 false) else (impl_versOk.G S a2 (fun y4 => bif (!y4) then (K [] [] [] 0 false) else (impl_encode.G S a0 y1 (fun y5 => slices_Repeat_Sint_int.G S [a2] 8 (fun y6 => slices_Repeat_Sbool_bool.G S [true] 8 (fun y7 => K y5 y6 y7 a0 true)))))))))
noncomputable def o : Orac := ⟨53, sin, sout, fun s K => G sl0 s.2.1 s.2.2.1 s.2.2.2.1 (fun x0 x1 x2 x3 x4 => K ((x0, (x1, (x2, ()))), ((x3, ()), (x4, ()))))⟩
noncomputable def C : Ctx := ⟨tyT, [impl_encode.o, impl_kindOk.o, impl_vectorOf.o, impl_versOk.o, slices_Repeat_Sbool_bool.o, slices_Repeat_Sint_int.o], [], 38, 0⟩
theorem ctx : CtxOk Tryz.prog C := ⟨tyOk, all1 impl_encode.ok (all1 impl_kindOk.ok (all1 impl_vectorOf.ok (all1 impl_versOk.ok (all1 slices_Repeat_Sbool_bool.ok (all1 slices_Repeat_Sint_int.ok (all0))))))⟩
theorem eG (β : Type) (s : sin.den) (K : sout.den → Option β) : evalFn C Tryz.f53 sin sout s K = o.F s K := by kernel_rfl
theorem ok : OracOk Tryz.prog o := fn_ok mixed Tryz.func53 (by kernel_rfl) ctx (c := bodyC Tryz.f53) (by kernel_rfl) (all0) (by kernel_rfl) (by kernel_rfl) (by kernel_rfl) (Nat.le_of_ble_eq_true (by kernel_rfl)) eG (by kernel_rfl) (Nat.le_of_ble_eq_true (by kernel_rfl))
end impl_StripeNew
end Go.Proofs.YtnbighmbgmjbkaaGreat.E
end
section
set_option linter.unusedVariables false
set_option linter.unusedSimpArgs false
namespace Go.Proofs.YtnbighmbgmjbkaaGreat.E
open Go Go.RowKit
set_option linter.unusedVariables false
set_option maxRecDepth 100000
namespace slices_Clip_Sbool_bool_
def sin : Sig := ⟨[.buf .bool false], [.one (.ref (.own 0))]⟩
def sout : Sig := ⟨[.dead, .buf .bool false], [.one (.ref (.own 1))]⟩
noncomputable def G {β : Type} (S : Sl) (a0 : (List Bool)) (K : (List Bool) → Option β) : Option β := bif ((S.le 0 (a0.length : Int)) && (S.le (a0.length : Int) (a0.length : Int)) && (S.le (a0.length : Int) (a0.length : Int))) then (K (List.take (Int.toNat (a0.length : Int)) a0)) else (none)
noncomputable def o : Orac := ⟨172, sin, sout, fun s K => G sl0 s.1.1 (fun x0 => K ((x0, ()), ()))⟩
noncomputable def C : Ctx := ⟨tyT, [], [], 9, 1⟩
theorem ctx : CtxOk Tryz.prog C := ⟨tyOk, all0⟩
theorem eG (β : Type) (s : sin.den) (K : sout.den → Option β) : evalFn C Tryz.f172 sin sout s K = o.F s K := by kernel_rfl
theorem ok : OracOk Tryz.prog o := fn_ok mixed Tryz.func172 (by kernel_rfl) ctx (c := bodyC Tryz.f172) (by kernel_rfl) (all0) (by kernel_rfl) (by kernel_rfl) (by kernel_rfl) (Nat.le_of_ble_eq_true (by kernel_rfl)) eG (by kernel_rfl) (Nat.le_of_ble_eq_true (by kernel_rfl))
end slices_Clip_Sbool_bool_
end Go.Proofs.YtnbighmbgmjbkaaGreat.E
end
section
set_option linter.unusedVariables false
set_option linter.unusedSimpArgs false
namespace Go.Proofs.YtnbighmbgmjbkaaGreat.E
open Go Go.RowKit
set_option linter.unusedVariables false
set_option maxRecDepth 100000
namespace slices_Clip_Sint_int_
def sin : Sig := ⟨[.buf I false], [.one (.ref (.own 0))]⟩
def sout : Sig := ⟨[.dead, .buf I false], [.one (.ref (.own 1))]⟩
noncomputable def G {β : Type} (S : Sl) (a0 : (List Int)) (K : (List Int) → Option β) : Option β := bif ((S.le 0 (a0.length : Int)) && (S.le (a0.length : Int) (a0.length : Int)) && (S.le (a0.length : Int) (a0.length : Int))) then (K (List.take (Int.toNat (a0.length : Int)) a0)) else (none)
noncomputable def o : Orac := ⟨113, sin, sout, fun s K => G sl0 s.1.1 (fun x0 => K ((x0, ()), ()))⟩
noncomputable def C : Ctx := ⟨tyT, [], [], 9, 1⟩
theorem ctx : CtxOk Tryz.prog C := ⟨tyOk, all0⟩
theorem eG (β : Type) (s : sin.den) (K : sout.den → Option β) : evalFn C Tryz.f113 sin sout s K = o.F s K := by kernel_rfl
theorem ok : OracOk Tryz.prog o := fn_ok mixed Tryz.func113 (by kernel_rfl) ctx (c := bodyC Tryz.f113) (by kernel_rfl) (all0) (by kernel_rfl) (by kernel_rfl) (by kernel_rfl) (Nat.le_of_ble_eq_true (by kernel_rfl)) eG (by kernel_rfl) (Nat.le_of_ble_eq_true (by kernel_rfl))
end slices_Clip_Sint_int_
end Go.Proofs.YtnbighmbgmjbkaaGreat.E
end
section
set_option linter.unusedVariables false
set_option linter.unusedSimpArgs false
namespace Go.Proofs.YtnbighmbgmjbkaaGreat.E
open Go Go.RowKit
set_option linter.unusedVariables false
set_option maxRecDepth 100000
namespace slices_Clone_Sbool_bool
def sin : Sig := ⟨[], [.one (.val (.sl .bool) false)]⟩
def sout : Sig := ⟨[.buf .bool false], [.one (.ref (.own 0))]⟩
noncomputable def G {β : Type} (S : Sl) (a0 : (List Bool)) (K : (List Bool) → Option β) : Option β := bif S.fw a0.length then K a0 else none
noncomputable def o : Orac := ⟨173, sin, sout, fun s K => G sl0 s.2.1 (fun x => K ((x, ()), ()))⟩
noncomputable def C : Ctx := ⟨tyT, [], [], 8, 0⟩
theorem ctx : CtxOk Tryz.prog C := ⟨tyOk, all0⟩
theorem h1 (l : List (Ty.den .bool)) : evalFnV C Tryz.f173 sin sout ((), (l, ())) [.one (.rk .bool false l)] some = bif fewer l.length then some ((l, ()), ()) else none := by kernel_rfl
theorem h2 : evalFnV C Tryz.f173 sin sout ((), (([] : List (Ty.den .bool)), ())) [.one (.rk .bool true [])] some = some ((([] : List (Ty.den .bool)), ()), ()) := by kernel_rfl
theorem ok : OracOk Tryz.prog o := clone_ok (t := .bool) mixed Tryz.func173 (by kernel_rfl) ctx (c := bodyC Tryz.f173) (by kernel_rfl) (all0) (by kernel_rfl) (by kernel_rfl) (by kernel_rfl) (Nat.le_of_ble_eq_true (by kernel_rfl)) h1 h2
end slices_Clone_Sbool_bool
end Go.Proofs.YtnbighmbgmjbkaaGreat.E
end
section
set_option linter.unusedVariables false
set_option linter.unusedSimpArgs false
namespace Go.Proofs.YtnbighmbgmjbkaaGreat.E
open Go Go.RowKit
set_option linter.unusedVariables false
set_option maxRecDepth 100000
namespace slices_Clone_Sint_int
def sin : Sig := ⟨[], [.one (.val (.sl I) false)]⟩
def sout : Sig := ⟨[.buf I false], [.one (.ref (.own 0))]⟩
noncomputable def G {β : Type} (S : Sl) (a0 : (List Int)) (K : (List Int) → Option β) : Option β := bif S.fw a0.length then K a0 else none
noncomputable def o : Orac := ⟨114, sin, sout, fun s K => G sl0 s.2.1 (fun x => K ((x, ()), ()))⟩
noncomputable def C : Ctx := ⟨tyT, [], [], 8, 0⟩
theorem ctx : CtxOk Tryz.prog C := ⟨tyOk, all0⟩
theorem h1 (l : List (Ty.den I)) : evalFnV C Tryz.f114 sin sout ((), (l, ())) [.one (.rk I false l)] some = bif fewer l.length then some ((l, ()), ()) else none := by kernel_rfl
theorem h2 : evalFnV C Tryz.f114 sin sout ((), (([] : List (Ty.den I)), ())) [.one (.rk I true [])] some = some ((([] : List (Ty.den I)), ()), ()) := by kernel_rfl
theorem ok : OracOk Tryz.prog o := clone_ok (t := I) mixed Tryz.func114 (by kernel_rfl) ctx (c := bodyC Tryz.f114) (by kernel_rfl) (all0) (by kernel_rfl) (by kernel_rfl) (by kernel_rfl) (Nat.le_of_ble_eq_true (by kernel_rfl)) h1 h2
end slices_Clone_Sint_int
end Go.Proofs.YtnbighmbgmjbkaaGreat.E
end
section
set_option linter.unusedVariables false
set_option linter.unusedSimpArgs false
namespace Go.Proofs.YtnbighmbgmjbkaaGreat.E
open Go Go.RowKit
set_option linter.unusedVariables false
set_option maxRecDepth 100000
namespace impl_Stripe_copied
def sin : Sig := ⟨[], [.agg [.val I false, .val (.sl I) false, .val (.sl I) false, .val (.sl .bool) false]]⟩
def sout : Sig := ⟨[.buf I false, .buf I false, .buf .bool false], [.agg [.val I false, .ref (.own 0), .ref (.own 1), .ref (.own 2)]]⟩
noncomputable def G {β : Type} (S : Sl) (a0 : Int) (a1 : (List Int)) (a2 : (List Int)) (a3 : (List Bool)) (K : (List Int) → (List Int) → (List Bool) → Int → Option β) : Option β := slices_Clone_Sint_int.G S a1 (fun y1 => slices_Clip_Sint_int_.G S y1 (fun y2 => slices_Clone_Sint_int.G S a2 (fun y3 => slices_Clip_Sint_int_.G S y3 (fun y4 => slices_Clone_Sbool_bool.G S a3 (fun y5 => slices_Clip_Sbool_bool_.G S y5 (fun y6 => K y2 y4 y6 a0))))))
noncomputable def o : Orac := ⟨90, sin, sout, fun s K => G sl0 s.2.1.1 s.2.1.2.1 s.2.1.2.2.1 s.2.1.2.2.2.1 (fun x0 x1 x2 x3 => K ((x0, (x1, (x2, ()))), ((x3, ()), ())))⟩
noncomputable def C : Ctx := ⟨tyT, [slices_Clip_Sbool_bool_.o, slices_Clip_Sint_int_.o, slices_Clone_Sbool_bool.o, slices_Clone_Sint_int.o], [], 18, 0⟩
theorem ctx : CtxOk Tryz.prog C := ⟨tyOk, all1 slices_Clip_Sbool_bool_.ok (all1 slices_Clip_Sint_int_.ok (all1 slices_Clone_Sbool_bool.ok (all1 slices_Clone_Sint_int.ok (all0))))⟩
theorem eG (β : Type) (s : sin.den) (K : sout.den → Option β) : evalFn C Tryz.f90 sin sout s K = o.F s K := by kernel_rfl
theorem ok : OracOk Tryz.prog o := fn_ok mixed Tryz.func90 (by kernel_rfl) ctx (c := bodyC Tryz.f90) (by kernel_rfl) (all0) (by kernel_rfl) (by kernel_rfl) (by kernel_rfl) (Nat.le_of_ble_eq_true (by kernel_rfl)) eG (by kernel_rfl) (Nat.le_of_ble_eq_true (by kernel_rfl))
end impl_Stripe_copied
end Go.Proofs.YtnbighmbgmjbkaaGreat.E
end
section
set_option linter.unusedVariables false
set_option linter.unusedSimpArgs false
namespace Go.Proofs.YtnbighmbgmjbkaaGreat.E
open Go Go.RowKit
set_option linter.unusedVariables false
set_option maxRecDepth 100000
namespace impl_Stripe_drop
def sin : Sig := ⟨[.buf I false, .buf I false, .buf .bool false], [.agg [.val I false, .ref (.own 0), .ref (.own 1), .ref (.own 2)], .one (.val I false)]⟩
def sout : Sig := ⟨[.buf I false, .buf I false, .buf .bool false], []⟩
noncomputable def G {β : Type} (S : Sl) (a0 : (List Int)) (a1 : (List Int)) (a2 : (List Bool)) (a3 : Int) (a4 : Int) (K : (List Int) → (List Int) → (List Bool) → Option β) : Option β := bif (S.ir a4 a0.length) then (bif (S.ir a4 a1.length) then (bif (S.ir a4 a2.length) then (K (List.set a0 (Int.toNat a4) 0) (List.set a1 (Int.toNat a4) 0) (List.set a2 (Int.toNat a4) false)) else (none)) else (none)) else (none)
noncomputable def o : Orac := ⟨118, sin, sout, fun s K => G sl0 s.1.1 s.1.2.1 s.1.2.2.1 s.2.1.1 s.2.2.1 (fun x0 x1 x2 => K ((x0, (x1, (x2, ()))), ()))⟩
noncomputable def C : Ctx := ⟨tyT, [], [], 16, 3⟩
theorem ctx : CtxOk Tryz.prog C := ⟨tyOk, all0⟩
theorem eG (β : Type) (s : sin.den) (K : sout.den → Option β) : evalFn C Tryz.f118 sin sout s K = o.F s K := by kernel_rfl
theorem ok : OracOk Tryz.prog o := fn_ok mixed Tryz.func118 (by kernel_rfl) ctx (c := bodyC Tryz.f118) (by kernel_rfl) (all0) (by kernel_rfl) (by kernel_rfl) (by kernel_rfl) (Nat.le_of_ble_eq_true (by kernel_rfl)) eG (by kernel_rfl) (Nat.le_of_ble_eq_true (by kernel_rfl))
end impl_Stripe_drop
end Go.Proofs.YtnbighmbgmjbkaaGreat.E
end
section
set_option linter.unusedVariables false
set_option linter.unusedSimpArgs false
namespace Go.Proofs.YtnbighmbgmjbkaaGreat.E
open Go Go.RowKit
set_option linter.unusedVariables false
set_option maxRecDepth 100000
namespace impl_Keep_rest
def sin : Sig := ⟨[], [.agg [.val I false, .val (.sl I) false, .val (.sl I) false, .val (.sl .bool) false, .val .bool false, .val I false, .val (.sl I) false, .val I false]]⟩
def sout : Sig := ⟨[.buf I false, .buf I false, .buf .bool false], [.agg [.val I false, .ref (.own 0), .ref (.own 1), .ref (.own 2)]]⟩
def h3 : SS := ⟨[1, 2, 3, 10, 11, 12], ⟨[.box [.val I false, .val (.sl I) false, .val (.sl I) false, .val (.sl .bool) false, .val .bool false, .val I false, .val (.sl I) false, .val I false], .box [.val I false, .ref .e0, .ref .e0, .ref .e0], .box [.val I false, .ref (.own 4), .ref (.own 3), .ref (.own 5)], .buf I false, .buf I false, .buf .bool false], [.one (.ref (.ptr 0)), .one (.ref (.ptr 1)), .one (.ref (.ptr 2)), .one (.ref (.own 3)), .one (.val I false), .one (.val I false)]⟩⟩
def x3 : SS := ⟨[2, 3], ⟨[.box [.val I false, .ref .e0, .ref .e0, .ref .e0], .box [.val I false, .ref (.own 2), .ref (.own 3), .ref (.own 4)], .buf I false, .buf I false, .buf .bool false], [.one (.ref (.ptr 0)), .one (.ref (.ptr 1))]⟩⟩
def y3 : SS := ⟨[], ⟨[], []⟩⟩
noncomputable def b3 {β : Type} (S : Sl) (L : Int → (List Int) → (List Int) → (List Bool) → Bool → Int → (List Int) → Int → Int → Int → (List Int) → (List Int) → (List Bool) → Int → Int → Option β) (kx : Int → Int → (List Int) → (List Int) → (List Bool) → Option β) (kr : Option β) (s0 : Int) (s1 : (List Int)) (s2 : (List Int)) (s3 : (List Bool)) (s4 : Bool) (s5 : Int) (s6 : (List Int)) (s7 : Int) (s8 : Int) (s9 : Int) (s10 : (List Int)) (s11 : (List Int)) (s12 : (List Bool)) (s13 : Int) (s14 : Int) : Option β := bif (S.lt s14 s13) then (bif (S.ir s14 s10.length) then (bif (S.eq (List.getD s10 (Int.toNat s14) 0) s7) then (impl_Stripe_drop.G S s11 s10 s12 s9 s14 (fun y1 y2 y3 => L s0 s1 s2 s3 s4 s5 s6 s7 s8 s9 y2 y1 y3 s13 (S.w (s14 + 1)))) else (L s0 s1 s2 s3 s4 s5 s6 s7 s8 s9 s10 s11 s12 s13 (S.w (s14 + 1)))) else (none)) else (kx s8 s9 s11 s10 s12)
noncomputable def r3 {β : Type} (S : Sl) (n : Nat) (kx : x3.sig.den → Option β) (kr : y3.sig.den → Option β) (s : h3.sig.den) : Option β := rounds (fun L kx kr s => b3 S (fun x0 x1 x2 x3 x4 x5 x6 x7 x8 x9 x10 x11 x12 x13 x14 => L (((x0, (x1, (x2, (x3, (x4, (x5, (x6, (x7, ())))))))), ((x8, ()), ((x9, ()), (x10, (x11, (x12, ())))))), (x13, (x14, ())))) (fun x0 x1 x2 x3 x4 => kx (((x0, ()), ((x1, ()), (x2, (x3, (x4, ()))))), ())) (kr ((), ())) s.1.1.1 s.1.1.2.1 s.1.1.2.2.1 s.1.1.2.2.2.1 s.1.1.2.2.2.2.1 s.1.1.2.2.2.2.2.1 s.1.1.2.2.2.2.2.2.1 s.1.1.2.2.2.2.2.2.2.1 s.1.2.1.1 s.1.2.2.1.1 s.1.2.2.2.1 s.1.2.2.2.2.1 s.1.2.2.2.2.2.1 s.2.1 s.2.2.1) kx kr n s
noncomputable def l3 {β : Type} (S : Sl) (n : Nat) (kx : Int → Int → (List Int) → (List Int) → (List Bool) → Option β) (kr : Option β) (s0 : Int) (s1 : (List Int)) (s2 : (List Int)) (s3 : (List Bool)) (s4 : Bool) (s5 : Int) (s6 : (List Int)) (s7 : Int) (s8 : Int) (s9 : Int) (s10 : (List Int)) (s11 : (List Int)) (s12 : (List Bool)) (s13 : Int) (s14 : Int) : Option β := r3 S n (fun s => kx s.1.1.1 s.1.2.1.1 s.1.2.2.1 s.1.2.2.2.1 s.1.2.2.2.2.1) (fun s => kr) (((s0, (s1, (s2, (s3, (s4, (s5, (s6, (s7, ())))))))), ((s8, ()), ((s9, ()), (s10, (s11, (s12, ())))))), (s13, (s14, ())))
theorem t3 {β : Type} (S : Sl) (n : Nat) (kx : Int → Int → (List Int) → (List Int) → (List Bool) → Option β) (kr : Option β) (s0 : Int) (s1 : (List Int)) (s2 : (List Int)) (s3 : (List Bool)) (s4 : Bool) (s5 : Int) (s6 : (List Int)) (s7 : Int) (s8 : Int) (s9 : Int) (s10 : (List Int)) (s11 : (List Int)) (s12 : (List Bool)) (s13 : Int) (s14 : Int) : l3 S (n + 1) kx kr s0 s1 s2 s3 s4 s5 s6 s7 s8 s9 s10 s11 s12 s13 s14 = b3 S (l3 S n kx kr) kx kr s0 s1 s2 s3 s4 s5 s6 s7 s8 s9 s10 s11 s12 s13 s14 := by kernel_rfl
noncomputable def G {β : Type} (S : Sl) (a0 : Int) (a1 : (List Int)) (a2 : (List Int)) (a3 : (List Bool)) (a4 : Bool) (a5 : Int) (a6 : (List Int)) (a7 : Int) (K : (List Int) → (List Int) → (List Bool) → Int → Option β) : Option β := impl_Stripe_copied.G S a0 a1 a2 a3 (fun y1 y2 y3 y4 => l3 S S.n (fun y5 y6 y7 y8 y9 => K y7 y8 y9 y6) none a0 a1 a2 a3 a4 a5 a6 a7 0 y4 y2 y1 y3 (y2.length : Int) 0)
noncomputable def o : Orac := ⟨129, sin, sout, fun s K => G sl0 s.2.1.1 s.2.1.2.1 s.2.1.2.2.1 s.2.1.2.2.2.1 s.2.1.2.2.2.2.1 s.2.1.2.2.2.2.2.1 s.2.1.2.2.2.2.2.2.1 s.2.1.2.2.2.2.2.2.2.1 (fun x0 x1 x2 x3 => K ((x0, (x1, (x2, ()))), ((x3, ()), ())))⟩
noncomputable def C : Ctx := ⟨tyT, [impl_Stripe_copied.o, impl_Stripe_drop.o], [⟨3, 0, h3, x3, y3, fun s kx kr => r3 sl0 sl0.n kx kr s⟩], 26, 0⟩
theorem ctx : CtxOk Tryz.prog C := ⟨tyOk, all1 impl_Stripe_copied.ok (all1 impl_Stripe_drop.ok (all0))⟩
theorem e3 (β : Type) (L : h3.sig.den → Option β) (kx : x3.sig.den → Option β) (kr : y3.sig.den → Option β) (s : h3.sig.den) : evalBody C (nthC (loopsOf (bodyC Tryz.f129)) 0) 0 h3 x3 y3 L kx kr s = b3 sl0 (fun x0 x1 x2 x3 x4 x5 x6 x7 x8 x9 x10 x11 x12 x13 x14 => L (((x0, (x1, (x2, (x3, (x4, (x5, (x6, (x7, ())))))))), ((x8, ()), ((x9, ()), (x10, (x11, (x12, ())))))), (x13, (x14, ())))) (fun x0 x1 x2 x3 x4 => kx (((x0, ()), ((x1, ()), (x2, (x3, (x4, ()))))), ())) (kr ((), ())) s.1.1.1 s.1.1.2.1 s.1.1.2.2.1 s.1.1.2.2.2.1 s.1.1.2.2.2.2.1 s.1.1.2.2.2.2.2.1 s.1.1.2.2.2.2.2.2.1 s.1.1.2.2.2.2.2.2.2.1 s.1.2.1.1 s.1.2.2.1.1 s.1.2.2.2.1 s.1.2.2.2.2.1 s.1.2.2.2.2.2.1 s.2.1 s.2.2.1 := by kernel_rfl
theorem g3 : LS Tryz.prog C ⟨3, 0, h3, x3, y3, fun s kx kr => r3 sl0 sl0.n kx kr s⟩ (loopsOf (bodyC Tryz.f129)) := LS.at (i := 0) (by kernel_rfl) (loop_good mixed ctx (ctx_nat ctx) (N := sl0.n) (fun _ _ _ _ => rfl) e3 (all1 (LS.none (by kernel_rfl)) (all0)))
theorem eG (β : Type) (s : sin.den) (K : sout.den → Option β) : evalFn C Tryz.f129 sin sout s K = o.F s K := by kernel_rfl
theorem ok : OracOk Tryz.prog o := fn_ok mixed Tryz.func129 (by kernel_rfl) ctx (c := bodyC Tryz.f129) (by kernel_rfl) (all1 g3 (all0)) (by kernel_rfl) (by kernel_rfl) (by kernel_rfl) (Nat.le_of_ble_eq_true (by kernel_rfl)) eG (by kernel_rfl) (Nat.le_of_ble_eq_true (by kernel_rfl))
end impl_Keep_rest
end Go.Proofs.YtnbighmbgmjbkaaGreat.E
end
section
set_option linter.unusedVariables false
set_option linter.unusedSimpArgs false
namespace Go.Proofs.YtnbighmbgmjbkaaGreat.E
open Go Go.RowKit
set_option linter.unusedVariables false
set_option maxRecDepth 100000
namespace impl_Stripe_shaped
def sin : Sig := ⟨[], [.agg [.val I false, .val (.sl I) false, .val (.sl I) false, .val (.sl .bool) false]]⟩
def sout : Sig := ⟨[], [.one (.val .bool false)]⟩
noncomputable def G {β : Type} (S : Sl) (a0 : Int) (a1 : (List Int)) (a2 : (List Int)) (a3 : (List Bool)) (K : Bool → Option β) : Option β := bif (S.eq (a1.length : Int) 8) then (bif (S.eq (a2.length : Int) 8) then (K (S.eq (a3.length : Int) 8)) else (K false)) else (K false)
noncomputable def o : Orac := ⟨128, sin, sout, fun s K => G sl0 s.2.1.1 s.2.1.2.1 s.2.1.2.2.1 s.2.1.2.2.2.1 (fun x0 => K ((), (x0, ())))⟩
noncomputable def C : Ctx := ⟨tyT, [], [], 19, 0⟩
theorem ctx : CtxOk Tryz.prog C := ⟨tyOk, all0⟩
theorem eG (β : Type) (s : sin.den) (K : sout.den → Option β) : evalFn C Tryz.f128 sin sout s K = o.F s K := by kernel_rfl
theorem ok : OracOk Tryz.prog o := fn_ok mixed Tryz.func128 (by kernel_rfl) ctx (c := bodyC Tryz.f128) (by kernel_rfl) (all0) (by kernel_rfl) (by kernel_rfl) (by kernel_rfl) (Nat.le_of_ble_eq_true (by kernel_rfl)) eG (by kernel_rfl) (Nat.le_of_ble_eq_true (by kernel_rfl))
end impl_Stripe_shaped
end Go.Proofs.YtnbighmbgmjbkaaGreat.E
end
section
set_option linter.unusedVariables false
set_option linter.unusedSimpArgs false
namespace Go.Proofs.YtnbighmbgmjbkaaGreat.E
open Go Go.RowKit
set_option linter.unusedVariables false
set_option maxRecDepth 100000
namespace impl_flagged
def sin : Sig := ⟨[], [.one (.val (.sl .bool) false)]⟩
def sout : Sig := ⟨[.buf I false], [.one (.ref (.own 0))]⟩
def h3 : SS := ⟨[3, 7, 8, 9], ⟨[.buf I false], [.one (.ref (.own 0)), .one (.val (.sl .bool) false), .one (.val I false), .one (.val I false)]⟩⟩
def x3 : SS := ⟨[3], ⟨[.buf I false], [.one (.ref (.own 0))]⟩⟩
def y3 : SS := ⟨[], ⟨[], []⟩⟩
noncomputable def b3 {β : Type} (S : Sl) (L : (List Int) → (List Bool) → Int → Int → Option β) (kx : (List Int) → Option β) (kr : Option β) (s0 : (List Int)) (s1 : (List Bool)) (s2 : Int) (s3 : Int) : Option β := bif (S.lt s3 s2) then (bif (S.ir s3 s1.length) then (bif (List.getD s1 (Int.toNat s3) false) then (bif (S.fw (s0 ++ [s3]).length) then (L (s0 ++ [s3]) s1 s2 (S.w (s3 + 1))) else (none)) else (L s0 s1 s2 (S.w (s3 + 1)))) else (none)) else (kx s0)
noncomputable def r3 {β : Type} (S : Sl) (n : Nat) (kx : x3.sig.den → Option β) (kr : y3.sig.den → Option β) (s : h3.sig.den) : Option β := rounds (fun L kx kr s => b3 S (fun x0 x1 x2 x3 => L ((x0, ()), (x1, (x2, (x3, ()))))) (fun x0 => kx ((x0, ()), ())) (kr ((), ())) s.1.1 s.2.1 s.2.2.1 s.2.2.2.1) kx kr n s
noncomputable def l3 {β : Type} (S : Sl) (n : Nat) (kx : (List Int) → Option β) (kr : Option β) (s0 : (List Int)) (s1 : (List Bool)) (s2 : Int) (s3 : Int) : Option β := r3 S n (fun s => kx s.1.1) (fun s => kr) ((s0, ()), (s1, (s2, (s3, ()))))
theorem t3 {β : Type} (S : Sl) (n : Nat) (kx : (List Int) → Option β) (kr : Option β) (s0 : (List Int)) (s1 : (List Bool)) (s2 : Int) (s3 : Int) : l3 S (n + 1) kx kr s0 s1 s2 s3 = b3 S (l3 S n kx kr) kx kr s0 s1 s2 s3 := by kernel_rfl
noncomputable def G {β : Type} (S : Sl) (a0 : (List Bool)) (K : (List Int) → Option β) : Option β := bif ((S.le 0 0) && (S.le 0 8) && S.fw (Int.toNat 8)) then (l3 S S.n (fun y1 => K y1) none (List.replicate (Int.toNat 0) (0 : Int)) a0 (a0.length : Int) 0) else (none)
noncomputable def o : Orac := ⟨93, sin, sout, fun s K => G sl0 s.2.1 (fun x0 => K ((x0, ()), ()))⟩
noncomputable def C : Ctx := ⟨tyT, [], [⟨3, 0, h3, x3, y3, fun s kx kr => r3 sl0 sl0.n kx kr s⟩], 21, 0⟩
theorem ctx : CtxOk Tryz.prog C := ⟨tyOk, all0⟩
theorem e3 (β : Type) (L : h3.sig.den → Option β) (kx : x3.sig.den → Option β) (kr : y3.sig.den → Option β) (s : h3.sig.den) : evalBody C (nthC (loopsOf (bodyC Tryz.f93)) 0) 0 h3 x3 y3 L kx kr s = b3 sl0 (fun x0 x1 x2 x3 => L ((x0, ()), (x1, (x2, (x3, ()))))) (fun x0 => kx ((x0, ()), ())) (kr ((), ())) s.1.1 s.2.1 s.2.2.1 s.2.2.2.1 := by kernel_rfl
theorem g3 : LS Tryz.prog C ⟨3, 0, h3, x3, y3, fun s kx kr => r3 sl0 sl0.n kx kr s⟩ (loopsOf (bodyC Tryz.f93)) := LS.at (i := 0) (by kernel_rfl) (loop_good mixed ctx (ctx_nat ctx) (N := sl0.n) (fun _ _ _ _ => rfl) e3 (all1 (LS.none (by kernel_rfl)) (all0)))
theorem eG (β : Type) (s : sin.den) (K : sout.den → Option β) : evalFn C Tryz.f93 sin sout s K = o.F s K := by kernel_rfl
theorem ok : OracOk Tryz.prog o := fn_ok mixed Tryz.func93 (by kernel_rfl) ctx (c := bodyC Tryz.f93) (by kernel_rfl) (all1 g3 (all0)) (by kernel_rfl) (by kernel_rfl) (by kernel_rfl) (Nat.le_of_ble_eq_true (by kernel_rfl)) eG (by kernel_rfl) (Nat.le_of_ble_eq_true (by kernel_rfl))
end impl_flagged
end Go.Proofs.YtnbighmbgmjbkaaGreat.E
end
section
set_option linter.unusedVariables false
set_option linter.unusedSimpArgs false
namespace Go.Proofs.YtnbighmbgmjbkaaGreat.E
open Go Go.RowKit
set_option linter.unusedVariables false
theorem setCells_keep (b : Nat) : ∀ (vs : List Value) (o : Nat) (w : World) (c : Array Value) (e : TypeId), w.heap[b]? = some (.cells c e (0, 0)) → ∀ k, k < o →
  ∃ c' e', (w.setCells b o vs).heap[b]? = some (.cells c' e' (0, 0)) ∧ c'[k]? = c[k]?
 | [], o, w, c, e, hc, k, _ => ⟨c, e, hc, rfl⟩
 | v :: vs, o, w, c, e, hc, k, hk => by
  have h1 : (w.setCell ⟨b, o, none⟩ v).heap[b]? = some (.cells (c.setIfInBounds o v) e (0, 0)) := by
   simp only [World.setCell, Array.getElem?_modify, if_true, hc, Option.map_some]
   simp
  obtain ⟨c', e', h2, h3⟩ := setCells_keep b vs (o + 1) (w.setCell ⟨b, o, none⟩ v) (c.setIfInBounds o v) e h1 k (by omega)
  exact ⟨c', e', h2, h3.trans (by rw [Array.getElem?_setIfInBounds, if_neg (by omega)])⟩
theorem take1 {c : Array Value} {k : Nat} {v : Value} (h : c[k]? = some v) : (c.toList.drop k).take 1 = [v] := by
 have h' : c.toList[k]? = some v := by simpa using h
 obtain ⟨hk, rfl⟩ := List.getElem?_eq_some_iff.1 h'
 rw [List.drop_eq_getElem_cons hk]; rfl
theorem of_take1 {c : Array Value} {k : Nat} {v : Value} (h : (c.toList.drop k).take 1 = [v]) : c[k]? = some v := by
 have : (c.toList.drop k)[0]? = some v := by
  have h2 := congrArg (·[0]?) h
  simpa [List.getElem?_take] using h2
 simpa [List.getElem?_drop] using this
theorem setCells_facts (b : Nat) : ∀ (vs : List Value) (o : Nat) (w : World) (c : Array Value) (e : TypeId), w.heap[b]? = some (.cells c e (0, 0)) → o + vs.length ≤ c.size →
  (w.setCells b o vs).os = w.os ∧ (w.setCells b o vs).tape = w.tape ∧ (w.setCells b o vs).output = w.output ∧ (w.setCells b o vs).heap.size = w.heap.size ∧
  (∀ b', b' ≠ b → (w.setCells b o vs).heap[b']? = w.heap[b']?) ∧
  ∃ c', (w.setCells b o vs).heap[b]? = some (.cells c' e (0, 0)) ∧ c'.size = c.size ∧ ∀ i, i < vs.length → c'[o + i]? = vs[i]?
 | [], o, w, c, e, hc, _ => ⟨rfl, rfl, rfl, rfl, fun _ _ => rfl, c, hc, rfl, fun i hi => by simp at hi⟩
 | v :: vs, o, w, c, e, hc, hle => by
  simp only [List.length_cons] at hle
  have h1 : (w.setCell ⟨b, o, none⟩ v).heap[b]? = some (.cells (c.setIfInBounds o v) e (0, 0)) := by
   simp only [World.setCell, Array.getElem?_modify, if_true, hc, Option.map_some]
   simp
  obtain ⟨q1, q2, q3, q4, q5, c', q6, q7, q8⟩ := setCells_facts b vs (o + 1) (w.setCell ⟨b, o, none⟩ v) (c.setIfInBounds o v) e h1 (by simp; omega)
  refine ⟨q1, q2, q3, q4.trans (by simp [World.setCell]), fun b' hb => (q5 b' hb).trans ?_, c', q6, q7.trans (by simp), fun i hi => ?_⟩
  ·simp only [World.setCell, Array.getElem?_modify, if_neg (Ne.symm hb)]
  ·cases i with
   | zero =>
    simp only [Nat.add_zero, List.getElem?_cons_zero]
    have h2 := setCells_keep b vs (o + 1) (w.setCell ⟨b, o, none⟩ v) (c.setIfInBounds o v) e h1 o (by omega)
    obtain ⟨c2, e2, h3, h4⟩ := h2
    rw [q6] at h3
    obtain ⟨rfl, _, _⟩ := (Obj.cells.injEq ..).mp (Option.some.inj h3)
    rw [h4, Array.getElem?_setIfInBounds, if_pos rfl, if_pos (by omega)]
   | succ i =>
    rw [show o + (i + 1) = o + 1 + i from by omega, q8 i (by simpa using hi)]; simp
variable {P : Program}
theorem inplace_ok {f : Nat} {fn : Func} (hf : P.funcs[f]? = some fn) (hb : fn.body.isSome = true) (hname : (fn.name == "runtime.NumGoroutine") = false) {F : List Int → List Int} (hF : ∀ l, (F l).length ≤ l.length)
  (hC : ∀ (b off c : Nat) (zs : List Int) (w : World), zs.length ≤ 9223372036854775807 → zs.length ≤ c → (∀ j, j < zs.length → w.cell? ⟨b, off + j, none⟩ = some (.int .i64 (zs.getD j 0))) → (∀ j, j < zs.length → w.frozen? ⟨b, off + j, none⟩ = false) →
   Calls P f #[.slice (some ⟨b, off, none⟩) zs.length c] w fun e w' => e = .returned (.slice (some ⟨b, off, none⟩) (F zs).length c) ∧ ∃ q, w' = (w.drewN q).setCells b off ((F zs ++ List.replicate (zs.length - (F zs).length) 0).map (Value.int .i64)))
  (hE : ∀ (a : Option Addr) (c : Nat) (w : World), Calls P f #[.slice a 0 c] w fun e w' => e = .returned (.slice a 0 c) ∧ w' = w) :
  OracOk P ⟨f, ⟨[.buf (.int .i64) false], [.one (.ref (.own 0))]⟩, ⟨[.dead, .buf (.int .i64) false], [.one (.ref (.own 1))]⟩, fun s K => bif fewer (List.length (α := Int) s.1.1) then K ((F s.1.1, ()), ()) else none⟩ where
 plain := rfl
 le := Nat.le_succ _
 nat := fun s K => by
  show (bif fewer (List.length (α := Int) s.1.1) then K ((F s.1.1, ()), ()) else none) = (bif fewer (List.length (α := Int) s.1.1) then some ((F s.1.1, ()), ()) else none).bind K
  cases fewer (List.length (α := Int) s.1.1) <;> rfl
 ok := fun s r hr => by
  obtain ⟨⟨l0, ⟨⟩⟩, ⟨⟩⟩ := s
  obtain ⟨l, hl⟩ : ∃ l : List Int, l = l0 := ⟨l0, rfl⟩
  subst hl
  have hr : (bif fewer (List.length (α := Int) l) then some ((F l, ()), ()) else none) = some r := hr
  cases hfw : fewer (List.length (α := Int) l) with
  | false => rw [hfw] at hr; cases hr
  | true =>
   rw [hfw] at hr
   obtain rfl := Option.some.inj hr
   have hlen : List.length (α := Int) l < 1073741824 := by
    rw [fewer_eq] at hfw; have h9 : List.length (α := Int) l < most := by simpa using hfw
    exact h9
   intro w ok loc args R hok hv
   obtain ⟨v, rest, rfl, ⟨_, hA, _⟩, rfl⟩ := hv
   let h0 := hOf (⟨[.buf (.int .i64) false], [.one (.ref (.own 0))]⟩ : Sig) ((l, ()), ())
   have hh : h0 0 = some (.buf (.int .i64) false l) := rfl
   have hids : ∀ i ∈ [0], ∃ o, h0 i = some o := fun i hi => by simp at hi; subst hi; exact ⟨_, hh⟩
   have hup : upd ((1, .buf (.int .i64) false (F l)) :: kill [0]) h0 = hOf (⟨[.dead, .buf (.int .i64) false], [.one (.ref (.own 1))]⟩ : Sig) ((F l, ()), ()) := by
    funext j
    match j with
    | 0 => rfl
    | 1 => rfl
    | j + 2 => rfl
   have fin : ∀ (u : Value) (w' : World), After ⟨w, ok, 1, loc⟩ h0 loc w (one (.own 1)) ((1, .buf (.int .i64) false (F l)) :: kill [0]) u w' →
     ∃ v loc', Ending.returned u = Ending.returned v ∧ HRel ⟨w, ok, 1, loc⟩ (hOf (⟨[.dead, .buf (.int .i64) false], [.one (.ref (.own 1))]⟩ : Sig) ((F l, ()), ())) loc' w' ∧
      (∀ j o, h0 j = some o → ∃ o', hOf (⟨[.dead, .buf (.int .i64) false], [.one (.ref (.own 1))]⟩ : Sig) ((F l, ()), ()) j = some o' ∧ Turns o o' ∧ (o' = .dead ∨ loc' j = loc j)) ∧
      ResR (viewOf ⟨w, ok, 1, loc⟩ w' (hOf (⟨[.dead, .buf (.int .i64) false], [.one (.ref (.own 1))]⟩ : Sig) ((F l, ()), ())) loc') [.one (.own 1)] v := by
    rintro u w' ⟨loc', hle, hR, hvr⟩
    rw [hup] at hle hR hvr
    exact ⟨u, loc', rfl, hR, fun j o hj => hle.h j o hj, hvr⟩
   rcases hA.own_buf hh with ⟨hL, ⟨A, e1⟩, hl0⟩ | ⟨L, cap, hL, e1, hcap, hfit⟩
   ·obtain rfl : v = .slice A 0 0 := by simpa using e1
    have hl0 : l = [] := hl0
    subst hl0
    have hF0 : F [] = [] := List.eq_nil_of_length_eq_zero (Nat.le_zero.1 (hF []))
    refine (hE A 0 w).mono ?_
    rintro e w' ⟨rfl, rfl⟩
    refine fin _ _ (After.new R rfl (Nat.le_refl 1) none w' _ [0] rfl rfl rfl (Nat.le_refl _) hids (fun _ _ _ => rfl) (by simp) fun V _ _ hl2 hh2 _ => ⟨?_, one_R rfl ?_ (by simp)⟩)
    ·simp only [ObjR, hl2]; exact hF0
    ·simp only [AtomR, hh2, hl2]; exact ⟨⟨A, rfl⟩, hF0⟩
   ·obtain rfl : v = .slice (some ⟨L.blk, L.off, none⟩) (List.length (α := Int) l) cap := (List.cons.inj e1).1
    obtain ⟨c1, el, k1, k2, k3, k4⟩ := (R.objs 0 _ hh).buf hL
    have k3 : L.off + List.length (α := Int) l * 1 ≤ L.size := k3
    have hfit : L.off + cap * 1 ≤ L.size := hfit
    have hcap : List.length (α := Int) l ≤ cap := hcap
    have lives : LivesAt h0 loc 0 L.blk := ⟨_, L, hh, rfl, hL, rfl⟩
    have hFl := hF l
    have hcell : ∀ j, j < List.length (α := Int) l → w.cell? ⟨L.blk, L.off + j, none⟩ = some (.int .i64 (List.getD (α := Int) l j 0)) := by
     intro j hj
     have h1 : (c1.toList.drop (L.off + j * 1)).take 1 = [.int .i64 (List.getD (α := Int) l j 0)] := k4 j (List.getD (α := Int) l j 0) (by
      show (l : List Int)[j]? = some (List.getD (α := Int) l j 0)
      rw [List.getD_eq_getElem?_getD, List.getElem?_eq_getElem hj]; rfl)
     have h2 := of_take1 h1
     simp only [World.cell?, k1]
     simpa using h2
    refine (hC L.blk L.off cap l w (by omega) hcap hcell (fun j _ => by simp [World.frozen?, k1])).mono ?_
    rintro e w' ⟨rfl, q, rfl⟩
    have hvl : ((F l ++ List.replicate (List.length (α := Int) l - (F l).length) (0 : Int)).map (Value.int .i64)).length = List.length (α := Int) l := by
     simp; omega
    obtain ⟨q1, q2, q3, q4, q5, c', q6, q7, q8⟩ := setCells_facts L.blk ((F l ++ List.replicate (List.length (α := Int) l - (F l).length) (0 : Int)).map (Value.int .i64)) L.off (w.drewN q) c1 el k1 (by rw [hvl, k2]; omega)
    refine fin _ _ (After.new R rfl (Nat.le_refl 1) (some L) _ _ [0] q1 q2 q3 (Nat.le_of_eq q4.symm) hids (fun b _ hk => q5 b fun e => hk 0 (by simp) (e ▸ lives)) (fun L' e => ?_) fun V hV hsub hl2 hh2 _ => ⟨ObjR.mkBuf hl2 ⟨c', el, q6, q7.trans k2, ?_, fun i x hx => ?_⟩, one_R rfl ?_ (by simp)⟩)
    ·obtain rfl := Option.some.inj e
     exact ⟨by rw [q4]; exact (R.blk _ _ lives).1, .inr ⟨0, by simp, lives⟩⟩
    ·show L.off + (F l).length * 1 ≤ L.size
     omega
    ·have hx : (F l)[i]? = some x := hx
     have hi : i < (F l).length := (List.getElem?_eq_some_iff.1 hx).1
     have h8 := q8 i (by rw [hvl]; omega)
     rw [List.getElem?_map, List.getElem?_append_left hi, hx] at h8
     show (c'.toList.drop (L.off + i * 1)).take 1 = [.int .i64 x]
     rw [Nat.mul_one]
     exact take1 h8
    ·simp only [AtomR, hh2, hl2]
     exact ⟨cap, rfl, Nat.le_trans hFl hcap, hfit⟩
 body := ⟨fn, hf, hb, hname⟩
end Go.Proofs.YtnbighmbgmjbkaaGreat.E
end
section
set_option linter.unusedVariables false
set_option linter.unusedSimpArgs false
namespace Go.Proofs.YtnbighmbgmjbkaaGreat.E
open Go Go.RowKit
set_option linter.unusedVariables false
set_option maxRecDepth 100000
namespace slices_Compact_Sint_int
def sin : Sig := ⟨[.buf I false], [.one (.ref (.own 0))]⟩
def sout : Sig := ⟨[.dead, .buf I false], [.one (.ref (.own 1))]⟩
def ren : Go.Shelf.Ren := ⟨fun | 20 => 193 | n => n, fun | 22 => 23 | 3 => 3 | 4 => 4 | 0 => 0 | n => n, fun n => n⟩
theorem lays : Go.Proofs.Lays2.n20 Tryz.prog ren where
 mixed := by kernel_rfl
 i3 := by kernel_rfl
 f20 := Tryz.func193.trans (congrArg some (by kernel_rfl))
 t22 := Tryz.underlying23
 a22 := Tryz.isAgg23
 z22 := Tryz.sizeOf23
 v22 := Tryz.zeroValue23
 t3 := Tryz.underlying3
 a3 := Tryz.isAgg3
 z3 := Tryz.sizeOf3
 v3 := Tryz.zeroValue3
 t4 := Tryz.underlying4
 a4 := Tryz.isAgg4
 z4 := Tryz.sizeOf4
 v4 := Tryz.zeroValue4
 t0 := Tryz.underlying0
 a0 := Tryz.isAgg0
 z0 := Tryz.sizeOf0
 v0 := Tryz.zeroValue0
noncomputable def G {β : Type} (S : Sl) (a0 : List Int) (K : List Int → Option β) : Option β := bif S.fw a0.length then K (Lib.compact a0) else none
noncomputable def o : Orac := ⟨193, sin, sout, fun s K => G sl0 s.1.1 (fun x => K ((x, ()), ()))⟩
theorem ok : OracOk Tryz.prog o := inplace_ok Tryz.func193 (by kernel_rfl) (by kernel_rfl) (F := fun l => Lib.compact l) (fun l => Lib.compact_length_le l) (fun b off c zs w h1 h2 h3 h4 => by
 have h := Any.slices_Compact_int_cells lays b off zs.length c zs w (Nat.le_refl _) h1 h2 h3 h4
 rw [List.take_length] at h
 exact h) (fun a c w => Any.slices_Compact_int_empty lays a c w)
end slices_Compact_Sint_int
end Go.Proofs.YtnbighmbgmjbkaaGreat.E
end
section
set_option linter.unusedVariables false
set_option linter.unusedSimpArgs false
namespace Go.Proofs.YtnbighmbgmjbkaaGreat.E
open Go Go.RowKit
set_option linter.unusedVariables false
set_option maxRecDepth 100000
namespace slices_Reverse_Sint_int_
def sin : Sig := ⟨[.buf I false], [.one (.ref (.own 0))]⟩
def sout : Sig := ⟨[.buf I false], []⟩
def h1 : SS := ⟨[0, 2, 3], ⟨[.buf I false], [.one (.ref (.own 0)), .one (.val I false), .one (.val I false)]⟩⟩
def x1 : SS := ⟨[], ⟨[.buf I false], []⟩⟩
def y1 : SS := ⟨[], ⟨[], []⟩⟩
noncomputable def b1 {β : Type} (S : Sl) (L : (List Int) → Int → Int → Option β) (kx : (List Int) → Option β) (kr : Option β) (s0 : (List Int)) (s1 : Int) (s2 : Int) : Option β := bif (S.lt s1 s2) then (bif (S.ir s2 s0.length) then (bif (S.ir s1 s0.length) then (bif (S.ir s1 s0.length) then (bif (S.ir s2 (List.set s0 (Int.toNat s1) (List.getD s0 (Int.toNat s2) 0)).length) then (L (List.set (List.set s0 (Int.toNat s1) (List.getD s0 (Int.toNat s2) 0)) (Int.toNat s2) (List.getD s0 (Int.toNat s1) 0)) (S.w (s1 + 1)) (S.w (s2 - 1))) else (none)) else (none)) else (none)) else (none)) else (kx s0)
noncomputable def r1 {β : Type} (S : Sl) (n : Nat) (kx : x1.sig.den → Option β) (kr : y1.sig.den → Option β) (s : h1.sig.den) : Option β := rounds (fun L kx kr s => b1 S (fun x0 x1 x2 => L ((x0, ()), (x1, (x2, ())))) (fun x0 => kx ((x0, ()), ())) (kr ((), ())) s.1.1 s.2.1 s.2.2.1) kx kr n s
noncomputable def l1 {β : Type} (S : Sl) (n : Nat) (kx : (List Int) → Option β) (kr : Option β) (s0 : (List Int)) (s1 : Int) (s2 : Int) : Option β := r1 S n (fun s => kx s.1.1) (fun s => kr) ((s0, ()), (s1, (s2, ())))
theorem t1 {β : Type} (S : Sl) (n : Nat) (kx : (List Int) → Option β) (kr : Option β) (s0 : (List Int)) (s1 : Int) (s2 : Int) : l1 S (n + 1) kx kr s0 s1 s2 = b1 S (l1 S n kx kr) kx kr s0 s1 s2 := by kernel_rfl
noncomputable def G {β : Type} (S : Sl) (a0 : (List Int)) (K : (List Int) → Option β) : Option β := l1 S S.n (fun y1 => K y1) none a0 0 (S.w ((a0.length : Int) - 1))
noncomputable def o : Orac := ⟨192, sin, sout, fun s K => G sl0 s.1.1 (fun x0 => K ((x0, ()), ()))⟩
noncomputable def C : Ctx := ⟨tyT, [], [⟨1, 0, h1, x1, y1, fun s kx kr => r1 sl0 sl0.n kx kr s⟩], 28, 1⟩
theorem ctx : CtxOk Tryz.prog C := ⟨tyOk, all0⟩
theorem e1 (β : Type) (L : h1.sig.den → Option β) (kx : x1.sig.den → Option β) (kr : y1.sig.den → Option β) (s : h1.sig.den) : evalBody C (nthC (loopsOf (bodyC Tryz.f192)) 0) 0 h1 x1 y1 L kx kr s = b1 sl0 (fun x0 x1 x2 => L ((x0, ()), (x1, (x2, ())))) (fun x0 => kx ((x0, ()), ())) (kr ((), ())) s.1.1 s.2.1 s.2.2.1 := by kernel_rfl
theorem g1 : LS Tryz.prog C ⟨1, 0, h1, x1, y1, fun s kx kr => r1 sl0 sl0.n kx kr s⟩ (loopsOf (bodyC Tryz.f192)) := LS.at (i := 0) (by kernel_rfl) (loop_good mixed ctx (ctx_nat ctx) (N := sl0.n) (fun _ _ _ _ => rfl) e1 (all1 (LS.none (by kernel_rfl)) (all0)))
theorem eG (β : Type) (s : sin.den) (K : sout.den → Option β) : evalFn C Tryz.f192 sin sout s K = o.F s K := by kernel_rfl
theorem ok : OracOk Tryz.prog o := fn_ok mixed Tryz.func192 (by kernel_rfl) ctx (c := bodyC Tryz.f192) (by kernel_rfl) (all1 g1 (all0)) (by kernel_rfl) (by kernel_rfl) (by kernel_rfl) (Nat.le_of_ble_eq_true (by kernel_rfl)) eG (by kernel_rfl) (Nat.le_of_ble_eq_true (by kernel_rfl))
end slices_Reverse_Sint_int_
end Go.Proofs.YtnbighmbgmjbkaaGreat.E
end
section
set_option linter.unusedVariables false
set_option linter.unusedSimpArgs false
namespace Go.Proofs.YtnbighmbgmjbkaaGreat.E
open Go Go.RowKit
set_option linter.unusedVariables false
set_option maxRecDepth 100000
namespace math_bits_Len
def sin : Sig := ⟨[], [.one (.val (.int .u64) false)]⟩
def sout : Sig := ⟨[], [.one (.val I false)]⟩
def ren : Go.Shelf.Ren := ⟨fun | 125 => 219 | 128 => 247 | 129 => 248 | n => n, fun | 3 => 3 | 4 => 4 | 5 => 5 | 9 => 9 | 46 => 171 | 51 => 200 | 53 => 203 | n => n, fun n => n⟩
theorem lays : Go.Proofs.Lays.n125 Tryz.prog ren where
 mixed := by kernel_rfl
 f125 := Tryz.func219.trans (congrArg some (by kernel_rfl))
 f128 := Tryz.func247.trans (congrArg some (by kernel_rfl))
 f129 := Tryz.func248.trans (congrArg some (by kernel_rfl))
 t3 := Tryz.underlying3
 a3 := Tryz.isAgg3
 z3 := Tryz.sizeOf3
 v3 := Tryz.zeroValue3
 t4 := Tryz.underlying4
 a4 := Tryz.isAgg4
 z4 := Tryz.sizeOf4
 v4 := Tryz.zeroValue4
 t5 := Tryz.underlying5
 a5 := Tryz.isAgg5
 z5 := Tryz.sizeOf5
 v5 := Tryz.zeroValue5
 t9 := Tryz.underlying9
 a9 := Tryz.isAgg9
 z9 := Tryz.sizeOf9
 v9 := Tryz.zeroValue9
 t46 := Tryz.underlying171
 a46 := Tryz.isAgg171
 z46 := Tryz.sizeOf171
 v46 := Tryz.zeroValue171
 t51 := Tryz.underlying200
 a51 := Tryz.isAgg200
 z51 := Tryz.sizeOf200
 v51 := Tryz.zeroValue200
 t53 := Tryz.underlying203
 a53 := Tryz.isAgg203
 z53 := Tryz.sizeOf203
 v53 := Tryz.zeroValue203
def ask (x : Int) (S : Sl) : Bool := S.le 0 x && S.le x 18446744073709551615
def blen (x : Int) : Int := (Lib.bitLen x.toNat : Int)
noncomputable def G {β : Type} (S : Sl) (a0 : Int) (K : Int → Option β) : Option β := bif ask a0 S then K (blen a0) else none
noncomputable def o : Orac := ⟨219, sin, sout, fun s K => G sl0 s.2.1 (fun x => K ((), (x, ())))⟩
theorem ok : OracOk Tryz.prog o := pure1_ok Tryz.func219 (by kernel_rfl) (by kernel_rfl) (ask := fun x => ask x sl0) (F := blen) (fun x w h => by
 have h : (ile 0 x && ile x 18446744073709551615) = true := h
 rw [ile_eq, ile_eq, Bool.and_eq_true, decide_eq_true_eq, decide_eq_true_eq] at h
 exact Any.bits_Len lays x w h.1 h.2)
end math_bits_Len
end Go.Proofs.YtnbighmbgmjbkaaGreat.E
end
section
set_option linter.unusedVariables false
set_option linter.unusedSimpArgs false
namespace Go.Proofs.YtnbighmbgmjbkaaGreat.E
open Go Go.RowKit
set_option linter.unusedVariables false
set_option maxRecDepth 100000
namespace cmp_isNaN_int
def sin : Sig := ⟨[], [.one (.val I false)]⟩
def sout : Sig := ⟨[], [.one (.val .bool false)]⟩
noncomputable def G {β : Type} (S : Sl) (a0 : Int) (K : Bool → Option β) : Option β := K (!S.eq a0 a0)
noncomputable def o : Orac := ⟨261, sin, sout, fun s K => G sl0 s.2.1 (fun x0 => K ((), (x0, ())))⟩
noncomputable def C : Ctx := ⟨tyT, [], [], 6, 0⟩
theorem ctx : CtxOk Tryz.prog C := ⟨tyOk, all0⟩
theorem eG (β : Type) (s : sin.den) (K : sout.den → Option β) : evalFn C Tryz.f261 sin sout s K = o.F s K := by kernel_rfl
theorem ok : OracOk Tryz.prog o := fn_ok mixed Tryz.func261 (by kernel_rfl) ctx (c := bodyC Tryz.f261) (by kernel_rfl) (all0) (by kernel_rfl) (by kernel_rfl) (by kernel_rfl) (Nat.le_of_ble_eq_true (by kernel_rfl)) eG (by kernel_rfl) (Nat.le_of_ble_eq_true (by kernel_rfl))
end cmp_isNaN_int
end Go.Proofs.YtnbighmbgmjbkaaGreat.E
end
section
set_option linter.unusedVariables false
set_option linter.unusedSimpArgs false
namespace Go.Proofs.YtnbighmbgmjbkaaGreat.E
open Go Go.RowKit
set_option linter.unusedVariables false
set_option maxRecDepth 100000
namespace cmp_Less_int
def sin : Sig := ⟨[], [.one (.val I false), .one (.val I false)]⟩
def sout : Sig := ⟨[], [.one (.val .bool false)]⟩
noncomputable def G {β : Type} (S : Sl) (a0 : Int) (a1 : Int) (K : Bool → Option β) : Option β := cmp_isNaN_int.G S a0 (fun y1 => bif y1 then (cmp_isNaN_int.G S a1 (fun y2 => bif (!y2) then (K true) else (K (S.lt a0 a1)))) else (K (S.lt a0 a1)))
noncomputable def o : Orac := ⟨244, sin, sout, fun s K => G sl0 s.2.1 s.2.2.1 (fun x0 => K ((), (x0, ())))⟩
noncomputable def C : Ctx := ⟨tyT, [cmp_isNaN_int.o], [], 17, 0⟩
theorem ctx : CtxOk Tryz.prog C := ⟨tyOk, all1 cmp_isNaN_int.ok (all0)⟩
theorem eG (β : Type) (s : sin.den) (K : sout.den → Option β) : evalFn C Tryz.f244 sin sout s K = o.F s K := by kernel_rfl
theorem ok : OracOk Tryz.prog o := fn_ok mixed Tryz.func244 (by kernel_rfl) ctx (c := bodyC Tryz.f244) (by kernel_rfl) (all0) (by kernel_rfl) (by kernel_rfl) (by kernel_rfl) (Nat.le_of_ble_eq_true (by kernel_rfl)) eG (by kernel_rfl) (Nat.le_of_ble_eq_true (by kernel_rfl))
end cmp_Less_int
end Go.Proofs.YtnbighmbgmjbkaaGreat.E
end
section
set_option linter.unusedVariables false
set_option linter.unusedSimpArgs false
namespace Go.Proofs.YtnbighmbgmjbkaaGreat.E
open Go Go.RowKit
set_option linter.unusedVariables false
set_option maxRecDepth 100000
namespace slices_breakPatternsOrdered_int
def sin : Sig := ⟨[], [.one (.val (.sl I) false), .one (.val I false), .one (.val I false)]⟩
def sout : Sig := ⟨[], []⟩
noncomputable def G {β : Type} (S : Sl) (a0 : (List Int)) (a1 : Int) (a2 : Int) (K : Option β) : Option β := bif (S.le 8 (S.w (a2 - a1))) then (none) else (K)
noncomputable def o : Orac := ⟨240, sin, sout, fun s K => G sl0 s.2.1 s.2.2.1 s.2.2.2.1 (K ((), ()))⟩
noncomputable def C : Ctx := ⟨tyT, [], [], 65, 0⟩
theorem ctx : CtxOk Tryz.prog C := ⟨tyOk, all0⟩
theorem eG (β : Type) (s : sin.den) (K : sout.den → Option β) : evalFn C Tryz.f240 sin sout s K = o.F s K := by kernel_rfl
theorem ok : OracOk Tryz.prog o := fn_ok mixed Tryz.func240 (by kernel_rfl) ctx (c := bodyC Tryz.f240) (by kernel_rfl) (all0) (by kernel_rfl) (by kernel_rfl) (by kernel_rfl) (Nat.le_of_ble_eq_true (by kernel_rfl)) eG (by kernel_rfl) (Nat.le_of_ble_eq_true (by kernel_rfl))
end slices_breakPatternsOrdered_int
end Go.Proofs.YtnbighmbgmjbkaaGreat.E
end
section
set_option linter.unusedVariables false
set_option linter.unusedSimpArgs false
namespace Go.Proofs.YtnbighmbgmjbkaaGreat.E
open Go Go.RowKit
set_option linter.unusedVariables false
set_option maxRecDepth 100000
namespace slices_order2Ordered_int
def sin : Sig := ⟨[.box [.val I false]], [.one (.val (.sl I) false), .one (.val I false), .one (.val I false), .one (.ref (.ptr 0))]⟩
def sout : Sig := ⟨[.box [.val I false]], [.one (.val I false), .one (.val I false)]⟩
noncomputable def G {β : Type} (S : Sl) (a0 : Int) (a1 : (List Int)) (a2 : Int) (a3 : Int) (K : Int → Int → Int → Option β) : Option β := bif (S.ir a3 a1.length) then (bif (S.ir a2 a1.length) then (cmp_Less_int.G S (List.getD a1 (Int.toNat a3) 0) (List.getD a1 (Int.toNat a2) 0) (fun y1 => bif y1 then (K (S.w (a0 + 1)) a3 a2) else (K a0 a2 a3))) else (none)) else (none)
noncomputable def o : Orac := ⟨262, sin, sout, fun s K => G sl0 s.1.1.1 s.2.1 s.2.2.1 s.2.2.2.1 (fun x0 x1 x2 => K (((x0, ()), ()), (x1, (x2, ()))))⟩
noncomputable def C : Ctx := ⟨tyT, [cmp_Less_int.o], [], 28, 1⟩
theorem ctx : CtxOk Tryz.prog C := ⟨tyOk, all1 cmp_Less_int.ok (all0)⟩
theorem eG (β : Type) (s : sin.den) (K : sout.den → Option β) : evalFn C Tryz.f262 sin sout s K = o.F s K := by kernel_rfl
theorem ok : OracOk Tryz.prog o := fn_ok mixed Tryz.func262 (by kernel_rfl) ctx (c := bodyC Tryz.f262) (by kernel_rfl) (all0) (by kernel_rfl) (by kernel_rfl) (by kernel_rfl) (Nat.le_of_ble_eq_true (by kernel_rfl)) eG (by kernel_rfl) (Nat.le_of_ble_eq_true (by kernel_rfl))
end slices_order2Ordered_int
end Go.Proofs.YtnbighmbgmjbkaaGreat.E
end
section
set_option linter.unusedVariables false
set_option linter.unusedSimpArgs false
namespace Go.Proofs.YtnbighmbgmjbkaaGreat.E
open Go Go.RowKit
set_option linter.unusedVariables false
set_option maxRecDepth 100000
namespace slices_medianOrdered_int
def sin : Sig := ⟨[.box [.val I false]], [.one (.val (.sl I) false), .one (.val I false), .one (.val I false), .one (.val I false), .one (.ref (.ptr 0))]⟩
def sout : Sig := ⟨[.box [.val I false]], [.one (.val I false)]⟩
noncomputable def G {β : Type} (S : Sl) (a0 : Int) (a1 : (List Int)) (a2 : Int) (a3 : Int) (a4 : Int) (K : Int → Int → Option β) : Option β := slices_order2Ordered_int.G S a0 a1 a2 a3 (fun y1 y2 y3 => slices_order2Ordered_int.G S y1 a1 y3 a4 (fun y4 y5 y6 => slices_order2Ordered_int.G S y4 a1 y2 y5 (fun y7 y8 y9 => K y7 y9)))
noncomputable def o : Orac := ⟨260, sin, sout, fun s K => G sl0 s.1.1.1 s.2.1 s.2.2.1 s.2.2.2.1 s.2.2.2.2.1 (fun x0 x1 => K (((x0, ()), ()), (x1, ())))⟩
noncomputable def C : Ctx := ⟨tyT, [slices_order2Ordered_int.o], [], 36, 1⟩
theorem ctx : CtxOk Tryz.prog C := ⟨tyOk, all1 slices_order2Ordered_int.ok (all0)⟩
theorem eG (β : Type) (s : sin.den) (K : sout.den → Option β) : evalFn C Tryz.f260 sin sout s K = o.F s K := by kernel_rfl
theorem ok : OracOk Tryz.prog o := fn_ok mixed Tryz.func260 (by kernel_rfl) ctx (c := bodyC Tryz.f260) (by kernel_rfl) (all0) (by kernel_rfl) (by kernel_rfl) (by kernel_rfl) (Nat.le_of_ble_eq_true (by kernel_rfl)) eG (by kernel_rfl) (Nat.le_of_ble_eq_true (by kernel_rfl))
end slices_medianOrdered_int
end Go.Proofs.YtnbighmbgmjbkaaGreat.E
end
section
set_option linter.unusedVariables false
set_option linter.unusedSimpArgs false
namespace Go.Proofs.YtnbighmbgmjbkaaGreat.E
open Go Go.RowKit
set_option linter.unusedVariables false
set_option maxRecDepth 100000
namespace slices_medianAdjacentOrdered_int
def sin : Sig := ⟨[.box [.val I false]], [.one (.val (.sl I) false), .one (.val I false), .one (.ref (.ptr 0))]⟩
def sout : Sig := ⟨[.box [.val I false]], [.one (.val I false)]⟩
noncomputable def G {β : Type} (S : Sl) (a0 : Int) (a1 : (List Int)) (a2 : Int) (K : Int → Int → Option β) : Option β := slices_medianOrdered_int.G S a0 a1 (S.w (a2 - 1)) a2 (S.w (a2 + 1)) (fun y1 y2 => K y1 y2)
noncomputable def o : Orac := ⟨259, sin, sout, fun s K => G sl0 s.1.1.1 s.2.1 s.2.2.1 (fun x0 x1 => K (((x0, ()), ()), (x1, ())))⟩
noncomputable def C : Ctx := ⟨tyT, [slices_medianOrdered_int.o], [], 15, 1⟩
theorem ctx : CtxOk Tryz.prog C := ⟨tyOk, all1 slices_medianOrdered_int.ok (all0)⟩
theorem eG (β : Type) (s : sin.den) (K : sout.den → Option β) : evalFn C Tryz.f259 sin sout s K = o.F s K := by kernel_rfl
theorem ok : OracOk Tryz.prog o := fn_ok mixed Tryz.func259 (by kernel_rfl) ctx (c := bodyC Tryz.f259) (by kernel_rfl) (all0) (by kernel_rfl) (by kernel_rfl) (by kernel_rfl) (Nat.le_of_ble_eq_true (by kernel_rfl)) eG (by kernel_rfl) (Nat.le_of_ble_eq_true (by kernel_rfl))
end slices_medianAdjacentOrdered_int
end Go.Proofs.YtnbighmbgmjbkaaGreat.E
end
section
set_option linter.unusedVariables false
set_option linter.unusedSimpArgs false
namespace Go.Proofs.YtnbighmbgmjbkaaGreat.E
open Go Go.RowKit
set_option linter.unusedVariables false
set_option maxRecDepth 100000
namespace slices_choosePivotOrdered_int
def sin : Sig := ⟨[], [.one (.val (.sl I) false), .one (.val I false), .one (.val I false)]⟩
def sout : Sig := ⟨[], [.one (.val I false), .one (.val I false)]⟩
noncomputable def G {β : Type} (S : Sl) (a0 : (List Int)) (a1 : Int) (a2 : Int) (K : Int → Int → Option β) : Option β := bif (S.le 8 (S.w (a2 - a1))) then (bif (S.le 50 (S.w (a2 - a1))) then (slices_medianAdjacentOrdered_int.G S 0 a0 (S.w (a1 + (S.w ((S.w (Int.tdiv (S.w (a2 - a1)) 4)) * 1)))) (fun y1 y2 => slices_medianAdjacentOrdered_int.G S y1 a0 (S.w (a1 + (S.w ((S.w (Int.tdiv (S.w (a2 - a1)) 4)) * 2)))) (fun y3 y4 => slices_medianAdjacentOrdered_int.G S y3 a0 (S.w (a1 + (S.w ((S.w (Int.tdiv (S.w (a2 - a1)) 4)) * 3)))) (fun y5 y6 => slices_medianOrdered_int.G S y5 a0 y2 y4 y6 (fun y7 y8 => bif (S.eq y7 0) then (K y8 1) else (bif (S.eq y7 12) then (K y8 2) else (K y8 0))))))) else (slices_medianOrdered_int.G S 0 a0 (S.w (a1 + (S.w ((S.w (Int.tdiv (S.w (a2 - a1)) 4)) * 1)))) (S.w (a1 + (S.w ((S.w (Int.tdiv (S.w (a2 - a1)) 4)) * 2)))) (S.w (a1 + (S.w ((S.w (Int.tdiv (S.w (a2 - a1)) 4)) * 3)))) (fun y9 y10 => bif (S.eq y9 0) then (K y10 1) else (bif (S.eq y9 12) then (K y10 2) else (K y10 0))))) else (bif (S.eq (0 : Int) 0) then (K (S.w (a1 + (S.w ((S.w (Int.tdiv (S.w (a2 - a1)) 4)) * 2)))) 1) else (bif (S.eq (0 : Int) 12) then (K (S.w (a1 + (S.w ((S.w (Int.tdiv (S.w (a2 - a1)) 4)) * 2)))) 2) else (K (S.w (a1 + (S.w ((S.w (Int.tdiv (S.w (a2 - a1)) 4)) * 2)))) 0)))
noncomputable def o : Orac := ⟨241, sin, sout, fun s K => G sl0 s.2.1 s.2.2.1 s.2.2.2.1 (fun x0 x1 => K ((), (x0, (x1, ()))))⟩
noncomputable def C : Ctx := ⟨tyT, [slices_medianAdjacentOrdered_int.o, slices_medianOrdered_int.o], [], 57, 0⟩
theorem ctx : CtxOk Tryz.prog C := ⟨tyOk, all1 slices_medianAdjacentOrdered_int.ok (all1 slices_medianOrdered_int.ok (all0))⟩
theorem eG (β : Type) (s : sin.den) (K : sout.den → Option β) : evalFn C Tryz.f241 sin sout s K = o.F s K := by kernel_rfl
theorem ok : OracOk Tryz.prog o := fn_ok mixed Tryz.func241 (by kernel_rfl) ctx (c := bodyC Tryz.f241) (by kernel_rfl) (all0) (by kernel_rfl) (by kernel_rfl) (by kernel_rfl) (Nat.le_of_ble_eq_true (by kernel_rfl)) eG (by kernel_rfl) (Nat.le_of_ble_eq_true (by kernel_rfl))
end slices_choosePivotOrdered_int
end Go.Proofs.YtnbighmbgmjbkaaGreat.E
end
section
set_option linter.unusedVariables false
set_option linter.unusedSimpArgs false
namespace Go.Proofs.YtnbighmbgmjbkaaGreat.E
open Go Go.RowKit
set_option linter.unusedVariables false
set_option maxRecDepth 100000
namespace slices_siftDownOrdered_int_
def sin : Sig := ⟨[.buf I false], [.one (.ref (.own 0)), .one (.val I false), .one (.val I false), .one (.val I false)]⟩
def sout : Sig := ⟨[.buf I false], []⟩
def h1 : SS := ⟨[0, 2, 3, 8], ⟨[.buf I false], [.one (.ref (.own 0)), .one (.val I false), .one (.val I false), .one (.val I false)]⟩⟩
def x1 : SS := ⟨[], ⟨[.buf I false], []⟩⟩
def y1 : SS := ⟨[], ⟨[.buf I false], []⟩⟩
noncomputable def b1 {β : Type} (S : Sl) (L : (List Int) → Int → Int → Int → Option β) (kx : (List Int) → Option β) (kr : (List Int) → Option β) (s0 : (List Int)) (s1 : Int) (s2 : Int) (s3 : Int) : Option β := bif (S.le s1 (S.w ((S.w ((2 : Int) * s3)) + 1))) then (kx s0) else (bif (S.lt (S.w ((S.w ((S.w ((2 : Int) * s3)) + 1)) + 1)) s1) then (bif (S.ir (S.w (s2 + (S.w ((S.w ((2 : Int) * s3)) + 1)))) s0.length) then (bif (S.ir (S.w ((S.w (s2 + (S.w ((S.w ((2 : Int) * s3)) + 1)))) + 1)) s0.length) then (cmp_Less_int.G S (List.getD s0 (Int.toNat (S.w (s2 + (S.w ((S.w ((2 : Int) * s3)) + 1))))) 0) (List.getD s0 (Int.toNat (S.w ((S.w (s2 + (S.w ((S.w ((2 : Int) * s3)) + 1)))) + 1))) 0) (fun y1 => bif y1 then (bif (S.ir (S.w (s2 + s3)) s0.length) then (bif (S.ir (S.w (s2 + (S.w ((S.w ((S.w ((2 : Int) * s3)) + 1)) + 1)))) s0.length) then (cmp_Less_int.G S (List.getD s0 (Int.toNat (S.w (s2 + s3))) 0) (List.getD s0 (Int.toNat (S.w (s2 + (S.w ((S.w ((S.w ((2 : Int) * s3)) + 1)) + 1))))) 0) (fun y2 => bif (!y2) then (kr s0) else (bif (S.ir (S.w (s2 + (S.w ((S.w ((S.w ((2 : Int) * s3)) + 1)) + 1)))) s0.length) then (bif (S.ir (S.w (s2 + s3)) s0.length) then (bif (S.ir (S.w (s2 + s3)) s0.length) then (bif (S.ir (S.w (s2 + (S.w ((S.w ((S.w ((2 : Int) * s3)) + 1)) + 1)))) (List.set s0 (Int.toNat (S.w (s2 + s3))) (List.getD s0 (Int.toNat (S.w (s2 + (S.w ((S.w ((S.w ((2 : Int) * s3)) + 1)) + 1))))) 0)).length) then (L (List.set (List.set s0 (Int.toNat (S.w (s2 + s3))) (List.getD s0 (Int.toNat (S.w (s2 + (S.w ((S.w ((S.w ((2 : Int) * s3)) + 1)) + 1))))) 0)) (Int.toNat (S.w (s2 + (S.w ((S.w ((S.w ((2 : Int) * s3)) + 1)) + 1))))) (List.getD s0 (Int.toNat (S.w (s2 + s3))) 0)) s1 s2 (S.w ((S.w ((S.w ((2 : Int) * s3)) + 1)) + 1))) else (none)) else (none)) else (none)) else (none)))) else (none)) else (none)) else (bif (S.ir (S.w (s2 + s3)) s0.length) then (bif (S.ir (S.w (s2 + (S.w ((S.w ((2 : Int) * s3)) + 1)))) s0.length) then (cmp_Less_int.G S (List.getD s0 (Int.toNat (S.w (s2 + s3))) 0) (List.getD s0 (Int.toNat (S.w (s2 + (S.w ((S.w ((2 : Int) * s3)) + 1))))) 0) (fun y3 => bif (!y3) then (kr s0) else (bif (S.ir (S.w (s2 + (S.w ((S.w ((2 : Int) * s3)) + 1)))) s0.length) then (bif (S.ir (S.w (s2 + s3)) s0.length) then (bif (S.ir (S.w (s2 + s3)) s0.length) then (bif (S.ir (S.w (s2 + (S.w ((S.w ((2 : Int) * s3)) + 1)))) (List.set s0 (Int.toNat (S.w (s2 + s3))) (List.getD s0 (Int.toNat (S.w (s2 + (S.w ((S.w ((2 : Int) * s3)) + 1))))) 0)).length) then (L (List.set (List.set s0 (Int.toNat (S.w (s2 + s3))) (List.getD s0 (Int.toNat (S.w (s2 + (S.w ((S.w ((2 : Int) * s3)) + 1))))) 0)) (Int.toNat (S.w (s2 + (S.w ((S.w ((2 : Int) * s3)) + 1))))) (List.getD s0 (Int.toNat (S.w (s2 + s3))) 0)) s1 s2 (S.w ((S.w ((2 : Int) * s3)) + 1))) else (none)) else (none)) else (none)) else (none)))) else (none)) else (none)))) else (none)) else (none)) else (bif (S.ir (S.w (s2 + s3)) s0.length) then (bif (S.ir (S.w (s2 + (S.w ((S.w ((2 : Int) * s3)) + 1)))) s0.length) then (cmp_Less_int.G S (List.getD s0 (Int.toNat (S.w (s2 + s3))) 0) (List.getD s0 (Int.toNat (S.w (s2 + (S.w ((S.w ((2 : Int) * s3)) + 1))))) 0) (fun y4 => bif (!y4) then (kr s0) else (bif (S.ir (S.w (s2 + (S.w ((S.w ((2 : Int) * s3)) + 1)))) s0.length) then (bif (S.ir (S.w (s2 + s3)) s0.length) then (bif (S.ir (S.w (s2 + s3)) s0.length) then (bif (S.ir (S.w (s2 + (S.w ((S.w ((2 : Int) * s3)) + 1)))) (List.set s0 (Int.toNat (S.w (s2 + s3))) (List.getD s0 (Int.toNat (S.w (s2 + (S.w ((S.w ((2 : Int) * s3)) + 1))))) 0)).length) then (L (List.set (List.set s0 (Int.toNat (S.w (s2 + s3))) (List.getD s0 (Int.toNat (S.w (s2 + (S.w ((S.w ((2 : Int) * s3)) + 1))))) 0)) (Int.toNat (S.w (s2 + (S.w ((S.w ((2 : Int) * s3)) + 1))))) (List.getD s0 (Int.toNat (S.w (s2 + s3))) 0)) s1 s2 (S.w ((S.w ((2 : Int) * s3)) + 1))) else (none)) else (none)) else (none)) else (none)))) else (none)) else (none)))
noncomputable def r1 {β : Type} (S : Sl) (n : Nat) (kx : x1.sig.den → Option β) (kr : y1.sig.den → Option β) (s : h1.sig.den) : Option β := rounds (fun L kx kr s => b1 S (fun x0 x1 x2 x3 => L ((x0, ()), (x1, (x2, (x3, ()))))) (fun x0 => kx ((x0, ()), ())) (fun x0 => kr ((x0, ()), ())) s.1.1 s.2.1 s.2.2.1 s.2.2.2.1) kx kr n s
noncomputable def l1 {β : Type} (S : Sl) (n : Nat) (kx : (List Int) → Option β) (kr : (List Int) → Option β) (s0 : (List Int)) (s1 : Int) (s2 : Int) (s3 : Int) : Option β := r1 S n (fun s => kx s.1.1) (fun s => kr s.1.1) ((s0, ()), (s1, (s2, (s3, ()))))
theorem t1 {β : Type} (S : Sl) (n : Nat) (kx : (List Int) → Option β) (kr : (List Int) → Option β) (s0 : (List Int)) (s1 : Int) (s2 : Int) (s3 : Int) : l1 S (n + 1) kx kr s0 s1 s2 s3 = b1 S (l1 S n kx kr) kx kr s0 s1 s2 s3 := by kernel_rfl
noncomputable def G {β : Type} (S : Sl) (a0 : (List Int)) (a1 : Int) (a2 : Int) (a3 : Int) (K : (List Int) → Option β) : Option β := l1 S S.n (fun y1 => K y1) (fun y2 => K y2) a0 a2 a3 a1
noncomputable def o : Orac := ⟨256, sin, sout, fun s K => G sl0 s.1.1 s.2.1 s.2.2.1 s.2.2.2.1 (fun x0 => K ((x0, ()), ()))⟩
noncomputable def C : Ctx := ⟨tyT, [cmp_Less_int.o], [⟨1, 0, h1, x1, y1, fun s kx kr => r1 sl0 sl0.n kx kr s⟩], 76, 1⟩
theorem ctx : CtxOk Tryz.prog C := ⟨tyOk, all1 cmp_Less_int.ok (all0)⟩
theorem e1 (β : Type) (L : h1.sig.den → Option β) (kx : x1.sig.den → Option β) (kr : y1.sig.den → Option β) (s : h1.sig.den) : evalBody C (nthC (loopsOf (bodyC Tryz.f256)) 0) 0 h1 x1 y1 L kx kr s = b1 sl0 (fun x0 x1 x2 x3 => L ((x0, ()), (x1, (x2, (x3, ()))))) (fun x0 => kx ((x0, ()), ())) (fun x0 => kr ((x0, ()), ())) s.1.1 s.2.1 s.2.2.1 s.2.2.2.1 := by kernel_rfl
theorem g1 : LS Tryz.prog C ⟨1, 0, h1, x1, y1, fun s kx kr => r1 sl0 sl0.n kx kr s⟩ (loopsOf (bodyC Tryz.f256)) := LS.at (i := 0) (by kernel_rfl) (loop_good mixed ctx (ctx_nat ctx) (N := sl0.n) (fun _ _ _ _ => rfl) e1 (all1 (LS.none (by kernel_rfl)) (all0)))
theorem eG (β : Type) (s : sin.den) (K : sout.den → Option β) : evalFn C Tryz.f256 sin sout s K = o.F s K := by kernel_rfl
theorem ok : OracOk Tryz.prog o := fn_ok mixed Tryz.func256 (by kernel_rfl) ctx (c := bodyC Tryz.f256) (by kernel_rfl) (all1 g1 (all0)) (by kernel_rfl) (by kernel_rfl) (by kernel_rfl) (Nat.le_of_ble_eq_true (by kernel_rfl)) eG (by kernel_rfl) (Nat.le_of_ble_eq_true (by kernel_rfl))
end slices_siftDownOrdered_int_
end Go.Proofs.YtnbighmbgmjbkaaGreat.E
end
section
set_option linter.unusedVariables false
set_option linter.unusedSimpArgs false
namespace Go.Proofs.YtnbighmbgmjbkaaGreat.E
open Go Go.RowKit
set_option linter.unusedVariables false
set_option maxRecDepth 100000
namespace slices_heapSortOrdered_int_
def sin : Sig := ⟨[.buf I false], [.one (.ref (.own 0)), .one (.val I false), .one (.val I false)]⟩
def sout : Sig := ⟨[.buf I false], []⟩
def h8 : SS := ⟨[0, 6, 7, 10], ⟨[.buf I false], [.one (.ref (.own 0)), .one (.val I false), .one (.val I false), .one (.val I false)]⟩⟩
def x8 : SS := ⟨[], ⟨[.buf I false], []⟩⟩
def y8 : SS := ⟨[], ⟨[], []⟩⟩
noncomputable def b8 {β : Type} (S : Sl) (L : (List Int) → Int → Int → Int → Option β) (kx : (List Int) → Option β) (kr : Option β) (s0 : (List Int)) (s1 : Int) (s2 : Int) (s3 : Int) : Option β := bif (S.le 0 s3) then (bif (S.ir (S.w (s1 + s3)) s0.length) then (bif (S.ir s1 s0.length) then (bif (S.ir s1 s0.length) then (bif (S.ir (S.w (s1 + s3)) (List.set s0 (Int.toNat s1) (List.getD s0 (Int.toNat (S.w (s1 + s3))) 0)).length) then (slices_siftDownOrdered_int_.G S (List.set (List.set s0 (Int.toNat s1) (List.getD s0 (Int.toNat (S.w (s1 + s3))) 0)) (Int.toNat (S.w (s1 + s3))) (List.getD s0 (Int.toNat s1) 0)) s2 s3 s1 (fun y1 => L y1 s1 s2 (S.w (s3 - 1)))) else (none)) else (none)) else (none)) else (none)) else (kx s0)
noncomputable def r8 {β : Type} (S : Sl) (n : Nat) (kx : x8.sig.den → Option β) (kr : y8.sig.den → Option β) (s : h8.sig.den) : Option β := rounds (fun L kx kr s => b8 S (fun x0 x1 x2 x3 => L ((x0, ()), (x1, (x2, (x3, ()))))) (fun x0 => kx ((x0, ()), ())) (kr ((), ())) s.1.1 s.2.1 s.2.2.1 s.2.2.2.1) kx kr n s
noncomputable def l8 {β : Type} (S : Sl) (n : Nat) (kx : (List Int) → Option β) (kr : Option β) (s0 : (List Int)) (s1 : Int) (s2 : Int) (s3 : Int) : Option β := r8 S n (fun s => kx s.1.1) (fun s => kr) ((s0, ()), (s1, (s2, (s3, ()))))
theorem t8 {β : Type} (S : Sl) (n : Nat) (kx : (List Int) → Option β) (kr : Option β) (s0 : (List Int)) (s1 : Int) (s2 : Int) (s3 : Int) : l8 S (n + 1) kx kr s0 s1 s2 s3 = b8 S (l8 S n kx kr) kx kr s0 s1 s2 s3 := by kernel_rfl
def h4 : SS := ⟨[0, 6, 7, 8, 9], ⟨[.buf I false], [.one (.ref (.own 0)), .one (.val I false), .one (.val I false), .one (.val I false), .one (.val I false)]⟩⟩
def x4 : SS := ⟨[0, 6, 7, 8], ⟨[.buf I false], [.one (.ref (.own 0)), .one (.val I false), .one (.val I false), .one (.val I false)]⟩⟩
def y4 : SS := ⟨[], ⟨[], []⟩⟩
noncomputable def b4 {β : Type} (S : Sl) (L : (List Int) → Int → Int → Int → Int → Option β) (kx : (List Int) → Int → Int → Int → Option β) (kr : Option β) (s0 : (List Int)) (s1 : Int) (s2 : Int) (s3 : Int) (s4 : Int) : Option β := bif (S.le 0 s4) then (slices_siftDownOrdered_int_.G S s0 s4 s3 s1 (fun y1 => L y1 s1 s2 s3 (S.w (s4 - 1)))) else (kx s0 s1 s2 s3)
noncomputable def r4 {β : Type} (S : Sl) (n : Nat) (kx : x4.sig.den → Option β) (kr : y4.sig.den → Option β) (s : h4.sig.den) : Option β := rounds (fun L kx kr s => b4 S (fun x0 x1 x2 x3 x4 => L ((x0, ()), (x1, (x2, (x3, (x4, ())))))) (fun x0 x1 x2 x3 => kx ((x0, ()), (x1, (x2, (x3, ()))))) (kr ((), ())) s.1.1 s.2.1 s.2.2.1 s.2.2.2.1 s.2.2.2.2.1) kx kr n s
noncomputable def l4 {β : Type} (S : Sl) (n : Nat) (kx : (List Int) → Int → Int → Int → Option β) (kr : Option β) (s0 : (List Int)) (s1 : Int) (s2 : Int) (s3 : Int) (s4 : Int) : Option β := r4 S n (fun s => kx s.1.1 s.2.1 s.2.2.1 s.2.2.2.1) (fun s => kr) ((s0, ()), (s1, (s2, (s3, (s4, ())))))
theorem t4 {β : Type} (S : Sl) (n : Nat) (kx : (List Int) → Int → Int → Int → Option β) (kr : Option β) (s0 : (List Int)) (s1 : Int) (s2 : Int) (s3 : Int) (s4 : Int) : l4 S (n + 1) kx kr s0 s1 s2 s3 s4 = b4 S (l4 S n kx kr) kx kr s0 s1 s2 s3 s4 := by kernel_rfl
noncomputable def G {β : Type} (S : Sl) (a0 : (List Int)) (a1 : Int) (a2 : Int) (K : (List Int) → Option β) : Option β := l4 S S.n (fun y1 y2 y3 y4 => l8 S S.n (fun y5 => K y5) none y1 y2 y3 (S.w (y4 - 1))) none a0 a1 0 (S.w (a2 - a1)) (S.w (Int.tdiv (S.w ((S.w (a2 - a1)) - 1)) 2))
noncomputable def o : Orac := ⟨239, sin, sout, fun s K => G sl0 s.1.1 s.2.1 s.2.2.1 (fun x0 => K ((x0, ()), ()))⟩
noncomputable def C : Ctx := ⟨tyT, [slices_siftDownOrdered_int_.o], [⟨4, 0, h4, x4, y4, fun s kx kr => r4 sl0 sl0.n kx kr s⟩, ⟨8, 2, h8, x8, y8, fun s kx kr => r8 sl0 sl0.n kx kr s⟩], 56, 1⟩
theorem ctx : CtxOk Tryz.prog C := ⟨tyOk, all1 slices_siftDownOrdered_int_.ok (all0)⟩
theorem e8 (β : Type) (L : h8.sig.den → Option β) (kx : x8.sig.den → Option β) (kr : y8.sig.den → Option β) (s : h8.sig.den) : evalBody C (nthC (loopsOf (bodyC Tryz.f239)) 1) 2 h8 x8 y8 L kx kr s = b8 sl0 (fun x0 x1 x2 x3 => L ((x0, ()), (x1, (x2, (x3, ()))))) (fun x0 => kx ((x0, ()), ())) (kr ((), ())) s.1.1 s.2.1 s.2.2.1 s.2.2.2.1 := by kernel_rfl
theorem g8 : LS Tryz.prog C ⟨8, 2, h8, x8, y8, fun s kx kr => r8 sl0 sl0.n kx kr s⟩ (loopsOf (bodyC Tryz.f239)) := LS.at (i := 1) (by kernel_rfl) (loop_good mixed ctx (ctx_nat ctx) (N := sl0.n) (fun _ _ _ _ => rfl) e8 (all1 (LS.none (by kernel_rfl)) (all1 (LS.none (by kernel_rfl)) (all0))))
theorem e4 (β : Type) (L : h4.sig.den → Option β) (kx : x4.sig.den → Option β) (kr : y4.sig.den → Option β) (s : h4.sig.den) : evalBody C (nthC (loopsOf (bodyC Tryz.f239)) 0) 0 h4 x4 y4 L kx kr s = b4 sl0 (fun x0 x1 x2 x3 x4 => L ((x0, ()), (x1, (x2, (x3, (x4, ())))))) (fun x0 x1 x2 x3 => kx ((x0, ()), (x1, (x2, (x3, ()))))) (kr ((), ())) s.1.1 s.2.1 s.2.2.1 s.2.2.2.1 s.2.2.2.2.1 := by kernel_rfl
theorem g4 : LS Tryz.prog C ⟨4, 0, h4, x4, y4, fun s kx kr => r4 sl0 sl0.n kx kr s⟩ (loopsOf (bodyC Tryz.f239)) := LS.at (i := 0) (by kernel_rfl) (loop_good mixed ctx (ctx_nat ctx) (N := sl0.n) (fun _ _ _ _ => rfl) e4 (all1 (LS.none (by kernel_rfl)) (all1 (LS.none (by kernel_rfl)) (all0))))
theorem eG (β : Type) (s : sin.den) (K : sout.den → Option β) : evalFn C Tryz.f239 sin sout s K = o.F s K := by kernel_rfl
theorem ok : OracOk Tryz.prog o := fn_ok mixed Tryz.func239 (by kernel_rfl) ctx (c := bodyC Tryz.f239) (by kernel_rfl) (all1 g4 (all1 g8 (all0))) (by kernel_rfl) (by kernel_rfl) (by kernel_rfl) (Nat.le_of_ble_eq_true (by kernel_rfl)) eG (by kernel_rfl) (Nat.le_of_ble_eq_true (by kernel_rfl))
end slices_heapSortOrdered_int_
end Go.Proofs.YtnbighmbgmjbkaaGreat.E
end
section
set_option linter.unusedVariables false
set_option linter.unusedSimpArgs false
namespace Go.Proofs.YtnbighmbgmjbkaaGreat.E
open Go Go.RowKit
set_option linter.unusedVariables false
set_option maxRecDepth 100000
namespace slices_insertionSortOrdered_int_
def sin : Sig := ⟨[.buf I false], [.one (.ref (.own 0)), .one (.val I false), .one (.val I false)]⟩
def sout : Sig := ⟨[.buf I false], []⟩
def h4 : SS := ⟨[0, 1, 2, 6, 7], ⟨[.buf I false], [.one (.ref (.own 0)), .one (.val I false), .one (.val I false), .one (.val I false), .one (.val I false)]⟩⟩
def x4 : SS := ⟨[0, 1, 2, 6], ⟨[.buf I false], [.one (.ref (.own 0)), .one (.val I false), .one (.val I false), .one (.val I false)]⟩⟩
def y4 : SS := ⟨[], ⟨[], []⟩⟩
noncomputable def b4 {β : Type} (S : Sl) (L : (List Int) → Int → Int → Int → Int → Option β) (kx : (List Int) → Int → Int → Int → Option β) (kr : Option β) (s0 : (List Int)) (s1 : Int) (s2 : Int) (s3 : Int) (s4 : Int) : Option β := bif (S.lt s1 s4) then (bif (S.ir s4 s0.length) then (bif (S.ir (S.w (s4 - 1)) s0.length) then (cmp_Less_int.G S (List.getD s0 (Int.toNat s4) 0) (List.getD s0 (Int.toNat (S.w (s4 - 1))) 0) (fun y1 => bif y1 then (bif (S.ir (S.w (s4 - 1)) s0.length) then (bif (S.ir s4 s0.length) then (bif (S.ir s4 s0.length) then (bif (S.ir (S.w (s4 - 1)) (List.set s0 (Int.toNat s4) (List.getD s0 (Int.toNat (S.w (s4 - 1))) 0)).length) then (L (List.set (List.set s0 (Int.toNat s4) (List.getD s0 (Int.toNat (S.w (s4 - 1))) 0)) (Int.toNat (S.w (s4 - 1))) (List.getD s0 (Int.toNat s4) 0)) s1 s2 s3 (S.w (s4 - 1))) else (none)) else (none)) else (none)) else (none)) else (kx s0 s1 s2 s3))) else (none)) else (none)) else (kx s0 s1 s2 s3)
noncomputable def r4 {β : Type} (S : Sl) (n : Nat) (kx : x4.sig.den → Option β) (kr : y4.sig.den → Option β) (s : h4.sig.den) : Option β := rounds (fun L kx kr s => b4 S (fun x0 x1 x2 x3 x4 => L ((x0, ()), (x1, (x2, (x3, (x4, ())))))) (fun x0 x1 x2 x3 => kx ((x0, ()), (x1, (x2, (x3, ()))))) (kr ((), ())) s.1.1 s.2.1 s.2.2.1 s.2.2.2.1 s.2.2.2.2.1) kx kr n s
noncomputable def l4 {β : Type} (S : Sl) (n : Nat) (kx : (List Int) → Int → Int → Int → Option β) (kr : Option β) (s0 : (List Int)) (s1 : Int) (s2 : Int) (s3 : Int) (s4 : Int) : Option β := r4 S n (fun s => kx s.1.1 s.2.1 s.2.2.1 s.2.2.2.1) (fun s => kr) ((s0, ()), (s1, (s2, (s3, (s4, ())))))
theorem t4 {β : Type} (S : Sl) (n : Nat) (kx : (List Int) → Int → Int → Int → Option β) (kr : Option β) (s0 : (List Int)) (s1 : Int) (s2 : Int) (s3 : Int) (s4 : Int) : l4 S (n + 1) kx kr s0 s1 s2 s3 s4 = b4 S (l4 S n kx kr) kx kr s0 s1 s2 s3 s4 := by kernel_rfl
def h1 : SS := ⟨[0, 1, 2, 6], ⟨[.buf I false], [.one (.ref (.own 0)), .one (.val I false), .one (.val I false), .one (.val I false)]⟩⟩
def x1 : SS := ⟨[], ⟨[.buf I false], []⟩⟩
def y1 : SS := ⟨[], ⟨[], []⟩⟩
noncomputable def b1 {β : Type} (S : Sl) (L : (List Int) → Int → Int → Int → Option β) (kx : (List Int) → Option β) (kr : Option β) (s0 : (List Int)) (s1 : Int) (s2 : Int) (s3 : Int) : Option β := bif (S.lt s3 s2) then (l4 S S.n (fun y1 y2 y3 y4 => L y1 y2 y3 (S.w (y4 + 1))) none s0 s1 s2 s3 s3) else (kx s0)
noncomputable def r1 {β : Type} (S : Sl) (n : Nat) (kx : x1.sig.den → Option β) (kr : y1.sig.den → Option β) (s : h1.sig.den) : Option β := rounds (fun L kx kr s => b1 S (fun x0 x1 x2 x3 => L ((x0, ()), (x1, (x2, (x3, ()))))) (fun x0 => kx ((x0, ()), ())) (kr ((), ())) s.1.1 s.2.1 s.2.2.1 s.2.2.2.1) kx kr n s
noncomputable def l1 {β : Type} (S : Sl) (n : Nat) (kx : (List Int) → Option β) (kr : Option β) (s0 : (List Int)) (s1 : Int) (s2 : Int) (s3 : Int) : Option β := r1 S n (fun s => kx s.1.1) (fun s => kr) ((s0, ()), (s1, (s2, (s3, ()))))
theorem t1 {β : Type} (S : Sl) (n : Nat) (kx : (List Int) → Option β) (kr : Option β) (s0 : (List Int)) (s1 : Int) (s2 : Int) (s3 : Int) : l1 S (n + 1) kx kr s0 s1 s2 s3 = b1 S (l1 S n kx kr) kx kr s0 s1 s2 s3 := by kernel_rfl
noncomputable def G {β : Type} (S : Sl) (a0 : (List Int)) (a1 : Int) (a2 : Int) (K : (List Int) → Option β) : Option β := l1 S S.n (fun y1 => K y1) none a0 a1 a2 (S.w (a1 + 1))
noncomputable def o : Orac := ⟨238, sin, sout, fun s K => G sl0 s.1.1 s.2.1 s.2.2.1 (fun x0 => K ((x0, ()), ()))⟩
noncomputable def C : Ctx := ⟨tyT, [cmp_Less_int.o], [⟨1, 0, h1, x1, y1, fun s kx kr => r1 sl0 sl0.n kx kr s⟩, ⟨4, 2, h4, x4, y4, fun s kx kr => r4 sl0 sl0.n kx kr s⟩], 49, 1⟩
theorem ctx : CtxOk Tryz.prog C := ⟨tyOk, all1 cmp_Less_int.ok (all0)⟩
theorem e4 (β : Type) (L : h4.sig.den → Option β) (kx : x4.sig.den → Option β) (kr : y4.sig.den → Option β) (s : h4.sig.den) : evalBody C (nthC (loopsOf (bodyC Tryz.f238)) 1) 2 h4 x4 y4 L kx kr s = b4 sl0 (fun x0 x1 x2 x3 x4 => L ((x0, ()), (x1, (x2, (x3, (x4, ())))))) (fun x0 x1 x2 x3 => kx ((x0, ()), (x1, (x2, (x3, ()))))) (kr ((), ())) s.1.1 s.2.1 s.2.2.1 s.2.2.2.1 s.2.2.2.2.1 := by kernel_rfl
theorem g4 : LS Tryz.prog C ⟨4, 2, h4, x4, y4, fun s kx kr => r4 sl0 sl0.n kx kr s⟩ (loopsOf (bodyC Tryz.f238)) := LS.at (i := 1) (by kernel_rfl) (loop_good mixed ctx (ctx_nat ctx) (N := sl0.n) (fun _ _ _ _ => rfl) e4 (all1 (LS.none (by kernel_rfl)) (all1 (LS.none (by kernel_rfl)) (all0))))
theorem e1 (β : Type) (L : h1.sig.den → Option β) (kx : x1.sig.den → Option β) (kr : y1.sig.den → Option β) (s : h1.sig.den) : evalBody C (nthC (loopsOf (bodyC Tryz.f238)) 0) 0 h1 x1 y1 L kx kr s = b1 sl0 (fun x0 x1 x2 x3 => L ((x0, ()), (x1, (x2, (x3, ()))))) (fun x0 => kx ((x0, ()), ())) (kr ((), ())) s.1.1 s.2.1 s.2.2.1 s.2.2.2.1 := by kernel_rfl
theorem g1 : LS Tryz.prog C ⟨1, 0, h1, x1, y1, fun s kx kr => r1 sl0 sl0.n kx kr s⟩ (loopsOf (bodyC Tryz.f238)) := LS.at (i := 0) (by kernel_rfl) (loop_good mixed ctx (ctx_nat ctx) (N := sl0.n) (fun _ _ _ _ => rfl) e1 (all1 (LS.none (by kernel_rfl)) (all1 ((g4).sub (nthC_mem (by kernel_rfl))) (all0))))
theorem eG (β : Type) (s : sin.den) (K : sout.den → Option β) : evalFn C Tryz.f238 sin sout s K = o.F s K := by kernel_rfl
theorem ok : OracOk Tryz.prog o := fn_ok mixed Tryz.func238 (by kernel_rfl) ctx (c := bodyC Tryz.f238) (by kernel_rfl) (all1 g1 (all1 g4 (all0))) (by kernel_rfl) (by kernel_rfl) (by kernel_rfl) (Nat.le_of_ble_eq_true (by kernel_rfl)) eG (by kernel_rfl) (Nat.le_of_ble_eq_true (by kernel_rfl))
end slices_insertionSortOrdered_int_
end Go.Proofs.YtnbighmbgmjbkaaGreat.E
end
section
set_option linter.unusedVariables false
set_option linter.unusedSimpArgs false
namespace Go.Proofs.YtnbighmbgmjbkaaGreat.E
open Go Go.RowKit
set_option linter.unusedVariables false
set_option maxRecDepth 100000
namespace slices_partialInsertionSortOrdered_int_
def sin : Sig := ⟨[.buf I false], [.one (.ref (.own 0)), .one (.val I false), .one (.val I false)]⟩
def sout : Sig := ⟨[.buf I false], [.one (.val .bool false)]⟩
def h20 : SS := ⟨[0, 1, 2, 7, 8, 10], ⟨[.buf I false], [.one (.ref (.own 0)), .one (.val I false), .one (.val I false), .one (.val I false), .one (.val I false), .one (.val I false)]⟩⟩
def x20 : SS := ⟨[0, 1, 2, 7, 8], ⟨[.buf I false], [.one (.ref (.own 0)), .one (.val I false), .one (.val I false), .one (.val I false), .one (.val I false)]⟩⟩
def y20 : SS := ⟨[], ⟨[], []⟩⟩
noncomputable def b20 {β : Type} (S : Sl) (L : (List Int) → Int → Int → Int → Int → Int → Option β) (kx : (List Int) → Int → Int → Int → Int → Option β) (kr : Option β) (s0 : (List Int)) (s1 : Int) (s2 : Int) (s3 : Int) (s4 : Int) (s5 : Int) : Option β := bif (S.lt s5 s2) then (bif (S.ir s5 s0.length) then (bif (S.ir (S.w (s5 - 1)) s0.length) then (cmp_Less_int.G S (List.getD s0 (Int.toNat s5) 0) (List.getD s0 (Int.toNat (S.w (s5 - 1))) 0) (fun y1 => bif (!y1) then (kx s0 s1 s2 s3 s4) else (bif (S.ir (S.w (s5 - 1)) s0.length) then (bif (S.ir s5 s0.length) then (bif (S.ir s5 s0.length) then (bif (S.ir (S.w (s5 - 1)) (List.set s0 (Int.toNat s5) (List.getD s0 (Int.toNat (S.w (s5 - 1))) 0)).length) then (L (List.set (List.set s0 (Int.toNat s5) (List.getD s0 (Int.toNat (S.w (s5 - 1))) 0)) (Int.toNat (S.w (s5 - 1))) (List.getD s0 (Int.toNat s5) 0)) s1 s2 s3 s4 (S.w (s5 + 1))) else (none)) else (none)) else (none)) else (none)))) else (none)) else (none)) else (kx s0 s1 s2 s3 s4)
noncomputable def r20 {β : Type} (S : Sl) (n : Nat) (kx : x20.sig.den → Option β) (kr : y20.sig.den → Option β) (s : h20.sig.den) : Option β := rounds (fun L kx kr s => b20 S (fun x0 x1 x2 x3 x4 x5 => L ((x0, ()), (x1, (x2, (x3, (x4, (x5, ()))))))) (fun x0 x1 x2 x3 x4 => kx ((x0, ()), (x1, (x2, (x3, (x4, ())))))) (kr ((), ())) s.1.1 s.2.1 s.2.2.1 s.2.2.2.1 s.2.2.2.2.1 s.2.2.2.2.2.1) kx kr n s
noncomputable def l20 {β : Type} (S : Sl) (n : Nat) (kx : (List Int) → Int → Int → Int → Int → Option β) (kr : Option β) (s0 : (List Int)) (s1 : Int) (s2 : Int) (s3 : Int) (s4 : Int) (s5 : Int) : Option β := r20 S n (fun s => kx s.1.1 s.2.1 s.2.2.1 s.2.2.2.1 s.2.2.2.2.1) (fun s => kr) ((s0, ()), (s1, (s2, (s3, (s4, (s5, ()))))))
theorem t20 {β : Type} (S : Sl) (n : Nat) (kx : (List Int) → Int → Int → Int → Int → Option β) (kr : Option β) (s0 : (List Int)) (s1 : Int) (s2 : Int) (s3 : Int) (s4 : Int) (s5 : Int) : l20 S (n + 1) kx kr s0 s1 s2 s3 s4 s5 = b20 S (l20 S n kx kr) kx kr s0 s1 s2 s3 s4 s5 := by kernel_rfl
def h14 : SS := ⟨[0, 1, 2, 7, 8, 9], ⟨[.buf I false], [.one (.ref (.own 0)), .one (.val I false), .one (.val I false), .one (.val I false), .one (.val I false), .one (.val I false)]⟩⟩
def x14 : SS := ⟨[0, 1, 2, 7, 8], ⟨[.buf I false], [.one (.ref (.own 0)), .one (.val I false), .one (.val I false), .one (.val I false), .one (.val I false)]⟩⟩
def y14 : SS := ⟨[], ⟨[], []⟩⟩
noncomputable def b14 {β : Type} (S : Sl) (L : (List Int) → Int → Int → Int → Int → Int → Option β) (kx : (List Int) → Int → Int → Int → Int → Option β) (kr : Option β) (s0 : (List Int)) (s1 : Int) (s2 : Int) (s3 : Int) (s4 : Int) (s5 : Int) : Option β := bif (S.le 1 s5) then (bif (S.ir s5 s0.length) then (bif (S.ir (S.w (s5 - 1)) s0.length) then (cmp_Less_int.G S (List.getD s0 (Int.toNat s5) 0) (List.getD s0 (Int.toNat (S.w (s5 - 1))) 0) (fun y1 => bif (!y1) then (kx s0 s1 s2 s3 s4) else (bif (S.ir (S.w (s5 - 1)) s0.length) then (bif (S.ir s5 s0.length) then (bif (S.ir s5 s0.length) then (bif (S.ir (S.w (s5 - 1)) (List.set s0 (Int.toNat s5) (List.getD s0 (Int.toNat (S.w (s5 - 1))) 0)).length) then (L (List.set (List.set s0 (Int.toNat s5) (List.getD s0 (Int.toNat (S.w (s5 - 1))) 0)) (Int.toNat (S.w (s5 - 1))) (List.getD s0 (Int.toNat s5) 0)) s1 s2 s3 s4 (S.w (s5 - 1))) else (none)) else (none)) else (none)) else (none)))) else (none)) else (none)) else (kx s0 s1 s2 s3 s4)
noncomputable def r14 {β : Type} (S : Sl) (n : Nat) (kx : x14.sig.den → Option β) (kr : y14.sig.den → Option β) (s : h14.sig.den) : Option β := rounds (fun L kx kr s => b14 S (fun x0 x1 x2 x3 x4 x5 => L ((x0, ()), (x1, (x2, (x3, (x4, (x5, ()))))))) (fun x0 x1 x2 x3 x4 => kx ((x0, ()), (x1, (x2, (x3, (x4, ())))))) (kr ((), ())) s.1.1 s.2.1 s.2.2.1 s.2.2.2.1 s.2.2.2.2.1 s.2.2.2.2.2.1) kx kr n s
noncomputable def l14 {β : Type} (S : Sl) (n : Nat) (kx : (List Int) → Int → Int → Int → Int → Option β) (kr : Option β) (s0 : (List Int)) (s1 : Int) (s2 : Int) (s3 : Int) (s4 : Int) (s5 : Int) : Option β := r14 S n (fun s => kx s.1.1 s.2.1 s.2.2.1 s.2.2.2.1 s.2.2.2.2.1) (fun s => kr) ((s0, ()), (s1, (s2, (s3, (s4, (s5, ()))))))
theorem t14 {β : Type} (S : Sl) (n : Nat) (kx : (List Int) → Int → Int → Int → Int → Option β) (kr : Option β) (s0 : (List Int)) (s1 : Int) (s2 : Int) (s3 : Int) (s4 : Int) (s5 : Int) : l14 S (n + 1) kx kr s0 s1 s2 s3 s4 s5 = b14 S (l14 S n kx kr) kx kr s0 s1 s2 s3 s4 s5 := by kernel_rfl
def h5 : SS := ⟨[0, 1, 2, 7, 8], ⟨[.buf I false], [.one (.ref (.own 0)), .one (.val I false), .one (.val I false), .one (.val I false), .one (.val I false)]⟩⟩
def x5 : SS := ⟨[0, 1, 2, 7, 8], ⟨[.buf I false], [.one (.ref (.own 0)), .one (.val I false), .one (.val I false), .one (.val I false), .one (.val I false)]⟩⟩
def y5 : SS := ⟨[], ⟨[], []⟩⟩
noncomputable def b5 {β : Type} (S : Sl) (L : (List Int) → Int → Int → Int → Int → Option β) (kx : (List Int) → Int → Int → Int → Int → Option β) (kr : Option β) (s0 : (List Int)) (s1 : Int) (s2 : Int) (s3 : Int) (s4 : Int) : Option β := bif (S.lt s3 s2) then (bif (S.ir s3 s0.length) then (bif (S.ir (S.w (s3 - 1)) s0.length) then (cmp_Less_int.G S (List.getD s0 (Int.toNat s3) 0) (List.getD s0 (Int.toNat (S.w (s3 - 1))) 0) (fun y1 => bif (!y1) then (L s0 s1 s2 (S.w (s3 + 1)) s4) else (kx s0 s1 s2 s3 s4))) else (none)) else (none)) else (kx s0 s1 s2 s3 s4)
noncomputable def r5 {β : Type} (S : Sl) (n : Nat) (kx : x5.sig.den → Option β) (kr : y5.sig.den → Option β) (s : h5.sig.den) : Option β := rounds (fun L kx kr s => b5 S (fun x0 x1 x2 x3 x4 => L ((x0, ()), (x1, (x2, (x3, (x4, ())))))) (fun x0 x1 x2 x3 x4 => kx ((x0, ()), (x1, (x2, (x3, (x4, ())))))) (kr ((), ())) s.1.1 s.2.1 s.2.2.1 s.2.2.2.1 s.2.2.2.2.1) kx kr n s
noncomputable def l5 {β : Type} (S : Sl) (n : Nat) (kx : (List Int) → Int → Int → Int → Int → Option β) (kr : Option β) (s0 : (List Int)) (s1 : Int) (s2 : Int) (s3 : Int) (s4 : Int) : Option β := r5 S n (fun s => kx s.1.1 s.2.1 s.2.2.1 s.2.2.2.1 s.2.2.2.2.1) (fun s => kr) ((s0, ()), (s1, (s2, (s3, (s4, ())))))
theorem t5 {β : Type} (S : Sl) (n : Nat) (kx : (List Int) → Int → Int → Int → Int → Option β) (kr : Option β) (s0 : (List Int)) (s1 : Int) (s2 : Int) (s3 : Int) (s4 : Int) : l5 S (n + 1) kx kr s0 s1 s2 s3 s4 = b5 S (l5 S n kx kr) kx kr s0 s1 s2 s3 s4 := by kernel_rfl
def h3 : SS := ⟨[0, 1, 2, 7, 8], ⟨[.buf I false], [.one (.ref (.own 0)), .one (.val I false), .one (.val I false), .one (.val I false), .one (.val I false)]⟩⟩
def x3 : SS := ⟨[], ⟨[.buf I false], []⟩⟩
def y3 : SS := ⟨[6], ⟨[.buf I false], [.one (.val .bool false)]⟩⟩
noncomputable def b3 {β : Type} (S : Sl) (L : (List Int) → Int → Int → Int → Int → Option β) (kx : (List Int) → Option β) (kr : (List Int) → Bool → Option β) (s0 : (List Int)) (s1 : Int) (s2 : Int) (s3 : Int) (s4 : Int) : Option β := bif (S.lt s4 5) then (l5 S S.n (fun y1 y2 y3 y4 y5 => bif (S.eq y4 y3) then (kr y1 true) else (bif (S.lt (S.w (y3 - y2)) 50) then (kr y1 false) else (bif (S.ir (S.w (y4 - 1)) y1.length) then (bif (S.ir y4 y1.length) then (bif (S.ir y4 y1.length) then (bif (S.ir (S.w (y4 - 1)) (List.set y1 (Int.toNat y4) (List.getD y1 (Int.toNat (S.w (y4 - 1))) 0)).length) then (bif (S.le 2 (S.w (y4 - y2))) then (l14 S S.n (fun y6 y7 y8 y9 y10 => bif (S.le 2 (S.w (y8 - y9))) then (l20 S S.n (fun y11 y12 y13 y14 y15 => L y11 y12 y13 y14 (S.w (y15 + 1))) none y6 y7 y8 y9 y10 (S.w (y9 + 1))) else (L y6 y7 y8 y9 (S.w (y10 + 1)))) none (List.set (List.set y1 (Int.toNat y4) (List.getD y1 (Int.toNat (S.w (y4 - 1))) 0)) (Int.toNat (S.w (y4 - 1))) (List.getD y1 (Int.toNat y4) 0)) y2 y3 y4 y5 (S.w (y4 - 1))) else (bif (S.le 2 (S.w (y3 - y4))) then (l20 S S.n (fun y16 y17 y18 y19 y20 => L y16 y17 y18 y19 (S.w (y20 + 1))) none (List.set (List.set y1 (Int.toNat y4) (List.getD y1 (Int.toNat (S.w (y4 - 1))) 0)) (Int.toNat (S.w (y4 - 1))) (List.getD y1 (Int.toNat y4) 0)) y2 y3 y4 y5 (S.w (y4 + 1))) else (L (List.set (List.set y1 (Int.toNat y4) (List.getD y1 (Int.toNat (S.w (y4 - 1))) 0)) (Int.toNat (S.w (y4 - 1))) (List.getD y1 (Int.toNat y4) 0)) y2 y3 y4 (S.w (y5 + 1))))) else (none)) else (none)) else (none)) else (none)))) none s0 s1 s2 s3 s4) else (kx s0)
noncomputable def r3 {β : Type} (S : Sl) (n : Nat) (kx : x3.sig.den → Option β) (kr : y3.sig.den → Option β) (s : h3.sig.den) : Option β := rounds (fun L kx kr s => b3 S (fun x0 x1 x2 x3 x4 => L ((x0, ()), (x1, (x2, (x3, (x4, ())))))) (fun x0 => kx ((x0, ()), ())) (fun x0 x1 => kr ((x0, ()), (x1, ()))) s.1.1 s.2.1 s.2.2.1 s.2.2.2.1 s.2.2.2.2.1) kx kr n s
noncomputable def l3 {β : Type} (S : Sl) (n : Nat) (kx : (List Int) → Option β) (kr : (List Int) → Bool → Option β) (s0 : (List Int)) (s1 : Int) (s2 : Int) (s3 : Int) (s4 : Int) : Option β := r3 S n (fun s => kx s.1.1) (fun s => kr s.1.1 s.2.1) ((s0, ()), (s1, (s2, (s3, (s4, ())))))
theorem t3 {β : Type} (S : Sl) (n : Nat) (kx : (List Int) → Option β) (kr : (List Int) → Bool → Option β) (s0 : (List Int)) (s1 : Int) (s2 : Int) (s3 : Int) (s4 : Int) : l3 S (n + 1) kx kr s0 s1 s2 s3 s4 = b3 S (l3 S n kx kr) kx kr s0 s1 s2 s3 s4 := by kernel_rfl
noncomputable def G {β : Type} (S : Sl) (a0 : (List Int)) (a1 : Int) (a2 : Int) (K : (List Int) → Bool → Option β) : Option β := l3 S S.n (fun y1 => K y1 false) (fun y2 y3 => K y2 y3) a0 a1 a2 (S.w (a1 + 1)) 0
noncomputable def o : Orac := ⟨243, sin, sout, fun s K => G sl0 s.1.1 s.2.1 s.2.2.1 (fun x0 x1 => K ((x0, ()), (x1, ())))⟩
noncomputable def C : Ctx := ⟨tyT, [cmp_Less_int.o], [⟨3, 0, h3, x3, y3, fun s kx kr => r3 sl0 sl0.n kx kr s⟩, ⟨5, 2, h5, x5, y5, fun s kx kr => r5 sl0 sl0.n kx kr s⟩, ⟨14, 4, h14, x14, y14, fun s kx kr => r14 sl0 sl0.n kx kr s⟩, ⟨20, 6, h20, x20, y20, fun s kx kr => r20 sl0 sl0.n kx kr s⟩], 133, 1⟩
theorem ctx : CtxOk Tryz.prog C := ⟨tyOk, all1 cmp_Less_int.ok (all0)⟩
theorem e20 (β : Type) (L : h20.sig.den → Option β) (kx : x20.sig.den → Option β) (kr : y20.sig.den → Option β) (s : h20.sig.den) : evalBody C (nthC (loopsOf (bodyC Tryz.f243)) 3) 6 h20 x20 y20 L kx kr s = b20 sl0 (fun x0 x1 x2 x3 x4 x5 => L ((x0, ()), (x1, (x2, (x3, (x4, (x5, ()))))))) (fun x0 x1 x2 x3 x4 => kx ((x0, ()), (x1, (x2, (x3, (x4, ())))))) (kr ((), ())) s.1.1 s.2.1 s.2.2.1 s.2.2.2.1 s.2.2.2.2.1 s.2.2.2.2.2.1 := by kernel_rfl
theorem g20 : LS Tryz.prog C ⟨20, 6, h20, x20, y20, fun s kx kr => r20 sl0 sl0.n kx kr s⟩ (loopsOf (bodyC Tryz.f243)) := LS.at (i := 3) (by kernel_rfl) (loop_good mixed ctx (ctx_nat ctx) (N := sl0.n) (fun _ _ _ _ => rfl) e20 (all1 (LS.none (by kernel_rfl)) (all1 (LS.none (by kernel_rfl)) (all1 (LS.none (by kernel_rfl)) (all1 (LS.none (by kernel_rfl)) (all0))))))
theorem e14 (β : Type) (L : h14.sig.den → Option β) (kx : x14.sig.den → Option β) (kr : y14.sig.den → Option β) (s : h14.sig.den) : evalBody C (nthC (loopsOf (bodyC Tryz.f243)) 2) 4 h14 x14 y14 L kx kr s = b14 sl0 (fun x0 x1 x2 x3 x4 x5 => L ((x0, ()), (x1, (x2, (x3, (x4, (x5, ()))))))) (fun x0 x1 x2 x3 x4 => kx ((x0, ()), (x1, (x2, (x3, (x4, ())))))) (kr ((), ())) s.1.1 s.2.1 s.2.2.1 s.2.2.2.1 s.2.2.2.2.1 s.2.2.2.2.2.1 := by kernel_rfl
theorem g14 : LS Tryz.prog C ⟨14, 4, h14, x14, y14, fun s kx kr => r14 sl0 sl0.n kx kr s⟩ (loopsOf (bodyC Tryz.f243)) := LS.at (i := 2) (by kernel_rfl) (loop_good mixed ctx (ctx_nat ctx) (N := sl0.n) (fun _ _ _ _ => rfl) e14 (all1 (LS.none (by kernel_rfl)) (all1 (LS.none (by kernel_rfl)) (all1 (LS.none (by kernel_rfl)) (all1 (LS.none (by kernel_rfl)) (all0))))))
theorem e5 (β : Type) (L : h5.sig.den → Option β) (kx : x5.sig.den → Option β) (kr : y5.sig.den → Option β) (s : h5.sig.den) : evalBody C (nthC (loopsOf (bodyC Tryz.f243)) 1) 2 h5 x5 y5 L kx kr s = b5 sl0 (fun x0 x1 x2 x3 x4 => L ((x0, ()), (x1, (x2, (x3, (x4, ())))))) (fun x0 x1 x2 x3 x4 => kx ((x0, ()), (x1, (x2, (x3, (x4, ())))))) (kr ((), ())) s.1.1 s.2.1 s.2.2.1 s.2.2.2.1 s.2.2.2.2.1 := by kernel_rfl
theorem g5 : LS Tryz.prog C ⟨5, 2, h5, x5, y5, fun s kx kr => r5 sl0 sl0.n kx kr s⟩ (loopsOf (bodyC Tryz.f243)) := LS.at (i := 1) (by kernel_rfl) (loop_good mixed ctx (ctx_nat ctx) (N := sl0.n) (fun _ _ _ _ => rfl) e5 (all1 (LS.none (by kernel_rfl)) (all1 (LS.none (by kernel_rfl)) (all1 (LS.none (by kernel_rfl)) (all1 (LS.none (by kernel_rfl)) (all0))))))
theorem e3 (β : Type) (L : h3.sig.den → Option β) (kx : x3.sig.den → Option β) (kr : y3.sig.den → Option β) (s : h3.sig.den) : evalBody C (nthC (loopsOf (bodyC Tryz.f243)) 0) 0 h3 x3 y3 L kx kr s = b3 sl0 (fun x0 x1 x2 x3 x4 => L ((x0, ()), (x1, (x2, (x3, (x4, ())))))) (fun x0 => kx ((x0, ()), ())) (fun x0 x1 => kr ((x0, ()), (x1, ()))) s.1.1 s.2.1 s.2.2.1 s.2.2.2.1 s.2.2.2.2.1 := by kernel_rfl
theorem g3 : LS Tryz.prog C ⟨3, 0, h3, x3, y3, fun s kx kr => r3 sl0 sl0.n kx kr s⟩ (loopsOf (bodyC Tryz.f243)) := LS.at (i := 0) (by kernel_rfl) (loop_good mixed ctx (ctx_nat ctx) (N := sl0.n) (fun _ _ _ _ => rfl) e3 (all1 (LS.none (by kernel_rfl)) (all1 ((g5).sub (nthC_mem (by kernel_rfl))) (all1 ((g14).sub (nthC_mem (by kernel_rfl))) (all1 ((g20).sub (nthC_mem (by kernel_rfl))) (all0))))))
theorem eG (β : Type) (s : sin.den) (K : sout.den → Option β) : evalFn C Tryz.f243 sin sout s K = o.F s K := by kernel_rfl
theorem ok : OracOk Tryz.prog o := fn_ok mixed Tryz.func243 (by kernel_rfl) ctx (c := bodyC Tryz.f243) (by kernel_rfl) (all1 g3 (all1 g5 (all1 g14 (all1 g20 (all0))))) (by kernel_rfl) (by kernel_rfl) (by kernel_rfl) (Nat.le_of_ble_eq_true (by kernel_rfl)) eG (by kernel_rfl) (Nat.le_of_ble_eq_true (by kernel_rfl))
end slices_partialInsertionSortOrdered_int_
end Go.Proofs.YtnbighmbgmjbkaaGreat.E
end
section
set_option linter.unusedVariables false
set_option linter.unusedSimpArgs false
namespace Go.Proofs.YtnbighmbgmjbkaaGreat.E
open Go Go.RowKit
set_option linter.unusedVariables false
set_option maxRecDepth 100000
namespace slices_reverseRangeOrdered_int_
def sin : Sig := ⟨[.buf I false], [.one (.ref (.own 0)), .one (.val I false), .one (.val I false)]⟩
def sout : Sig := ⟨[.buf I false], []⟩
def h2 : SS := ⟨[0, 6, 7], ⟨[.buf I false], [.one (.ref (.own 0)), .one (.val I false), .one (.val I false)]⟩⟩
def x2 : SS := ⟨[], ⟨[.buf I false], []⟩⟩
def y2 : SS := ⟨[], ⟨[], []⟩⟩
noncomputable def b2 {β : Type} (S : Sl) (L : (List Int) → Int → Int → Option β) (kx : (List Int) → Option β) (kr : Option β) (s0 : (List Int)) (s1 : Int) (s2 : Int) : Option β := bif (S.lt s1 s2) then (bif (S.ir s2 s0.length) then (bif (S.ir s1 s0.length) then (bif (S.ir s1 s0.length) then (bif (S.ir s2 (List.set s0 (Int.toNat s1) (List.getD s0 (Int.toNat s2) 0)).length) then (L (List.set (List.set s0 (Int.toNat s1) (List.getD s0 (Int.toNat s2) 0)) (Int.toNat s2) (List.getD s0 (Int.toNat s1) 0)) (S.w (s1 + 1)) (S.w (s2 - 1))) else (none)) else (none)) else (none)) else (none)) else (kx s0)
noncomputable def r2 {β : Type} (S : Sl) (n : Nat) (kx : x2.sig.den → Option β) (kr : y2.sig.den → Option β) (s : h2.sig.den) : Option β := rounds (fun L kx kr s => b2 S (fun x0 x1 x2 => L ((x0, ()), (x1, (x2, ())))) (fun x0 => kx ((x0, ()), ())) (kr ((), ())) s.1.1 s.2.1 s.2.2.1) kx kr n s
noncomputable def l2 {β : Type} (S : Sl) (n : Nat) (kx : (List Int) → Option β) (kr : Option β) (s0 : (List Int)) (s1 : Int) (s2 : Int) : Option β := r2 S n (fun s => kx s.1.1) (fun s => kr) ((s0, ()), (s1, (s2, ())))
theorem t2 {β : Type} (S : Sl) (n : Nat) (kx : (List Int) → Option β) (kr : Option β) (s0 : (List Int)) (s1 : Int) (s2 : Int) : l2 S (n + 1) kx kr s0 s1 s2 = b2 S (l2 S n kx kr) kx kr s0 s1 s2 := by kernel_rfl
noncomputable def G {β : Type} (S : Sl) (a0 : (List Int)) (a1 : Int) (a2 : Int) (K : (List Int) → Option β) : Option β := l2 S S.n (fun y1 => K y1) none a0 a1 (S.w (a2 - 1))
noncomputable def o : Orac := ⟨242, sin, sout, fun s K => G sl0 s.1.1 s.2.1 s.2.2.1 (fun x0 => K ((x0, ()), ()))⟩
noncomputable def C : Ctx := ⟨tyT, [], [⟨2, 0, h2, x2, y2, fun s kx kr => r2 sl0 sl0.n kx kr s⟩], 32, 1⟩
theorem ctx : CtxOk Tryz.prog C := ⟨tyOk, all0⟩
theorem e2 (β : Type) (L : h2.sig.den → Option β) (kx : x2.sig.den → Option β) (kr : y2.sig.den → Option β) (s : h2.sig.den) : evalBody C (nthC (loopsOf (bodyC Tryz.f242)) 0) 0 h2 x2 y2 L kx kr s = b2 sl0 (fun x0 x1 x2 => L ((x0, ()), (x1, (x2, ())))) (fun x0 => kx ((x0, ()), ())) (kr ((), ())) s.1.1 s.2.1 s.2.2.1 := by kernel_rfl
theorem g2 : LS Tryz.prog C ⟨2, 0, h2, x2, y2, fun s kx kr => r2 sl0 sl0.n kx kr s⟩ (loopsOf (bodyC Tryz.f242)) := LS.at (i := 0) (by kernel_rfl) (loop_good mixed ctx (ctx_nat ctx) (N := sl0.n) (fun _ _ _ _ => rfl) e2 (all1 (LS.none (by kernel_rfl)) (all0)))
theorem eG (β : Type) (s : sin.den) (K : sout.den → Option β) : evalFn C Tryz.f242 sin sout s K = o.F s K := by kernel_rfl
theorem ok : OracOk Tryz.prog o := fn_ok mixed Tryz.func242 (by kernel_rfl) ctx (c := bodyC Tryz.f242) (by kernel_rfl) (all1 g2 (all0)) (by kernel_rfl) (by kernel_rfl) (by kernel_rfl) (Nat.le_of_ble_eq_true (by kernel_rfl)) eG (by kernel_rfl) (Nat.le_of_ble_eq_true (by kernel_rfl))
end slices_reverseRangeOrdered_int_
end Go.Proofs.YtnbighmbgmjbkaaGreat.E
end
section
set_option linter.unusedVariables false
set_option linter.unusedSimpArgs false
namespace Go.Proofs.YtnbighmbgmjbkaaGreat.E
open Go Go.RowKit
set_option linter.unusedVariables false
set_option maxRecDepth 100000
namespace slices_pdqsortOrdered_int_
def sin : Sig := ⟨[.buf I false], [.one (.ref (.own 0)), .one (.val I false), .one (.val I false), .one (.val I false)]⟩
def sout : Sig := ⟨[.buf I false], []⟩
def h2 : SS := ⟨[0, 1, 2, 3, 8, 9], ⟨[.buf I false], [.one (.ref (.own 0)), .one (.val I false), .one (.val I false), .one (.val I false), .one (.val .bool false), .one (.val .bool false)]⟩⟩
def x2 : SS := ⟨[], ⟨[], []⟩⟩
def y2 : SS := ⟨[], ⟨[.buf I false], []⟩⟩
noncomputable def b2 {β : Type} (S : Sl) (L : (List Int) → Int → Int → Int → Bool → Bool → Option β) (kx : Option β) (kr : (List Int) → Option β) (s0 : (List Int)) (s1 : Int) (s2 : Int) (s3 : Int) (s4 : Bool) (s5 : Bool) : Option β := bif (S.le (S.w (s2 - s1)) 12) then (slices_insertionSortOrdered_int_.G S s0 s1 s2 (fun y1 => kr y1)) else (bif (S.eq s3 0) then (slices_heapSortOrdered_int_.G S s0 s1 s2 (fun y2 => kr y2)) else (bif (!s4) then (slices_breakPatternsOrdered_int.G S s0 s1 s2 (slices_choosePivotOrdered_int.G S s0 s1 s2 (fun y3 y4 => bif (S.eq y4 2) then (slices_reverseRangeOrdered_int_.G S s0 s1 s2 (fun y5 => bif s4 then (bif s5 then (bif (S.eq (1 : Int) 1) then (slices_partialInsertionSortOrdered_int_.G S y5 s1 s2 (fun y6 y7 => bif y7 then (kr y6) else (bif (S.lt 0 s1) then (bif (S.ir (S.w (s1 - 1)) y6.length) then (bif (S.ir (S.w ((S.w (s2 - 1)) - (S.w (y3 - s1)))) y6.length) then (cmp_Less_int.G S (List.getD y6 (Int.toNat (S.w (s1 - 1))) 0) (List.getD y6 (Int.toNat (S.w ((S.w (s2 - 1)) - (S.w (y3 - s1))))) 0) (fun y8 => bif (!y8) then (none) else (none))) else (none)) else (none)) else (none)))) else (bif (S.lt 0 s1) then (bif (S.ir (S.w (s1 - 1)) y5.length) then (bif (S.ir (S.w ((S.w (s2 - 1)) - (S.w (y3 - s1)))) y5.length) then (cmp_Less_int.G S (List.getD y5 (Int.toNat (S.w (s1 - 1))) 0) (List.getD y5 (Int.toNat (S.w ((S.w (s2 - 1)) - (S.w (y3 - s1))))) 0) (fun y9 => bif (!y9) then (none) else (none))) else (none)) else (none)) else (none))) else (bif (S.lt 0 s1) then (bif (S.ir (S.w (s1 - 1)) y5.length) then (bif (S.ir (S.w ((S.w (s2 - 1)) - (S.w (y3 - s1)))) y5.length) then (cmp_Less_int.G S (List.getD y5 (Int.toNat (S.w (s1 - 1))) 0) (List.getD y5 (Int.toNat (S.w ((S.w (s2 - 1)) - (S.w (y3 - s1))))) 0) (fun y10 => bif (!y10) then (none) else (none))) else (none)) else (none)) else (none))) else (bif (S.lt 0 s1) then (bif (S.ir (S.w (s1 - 1)) y5.length) then (bif (S.ir (S.w ((S.w (s2 - 1)) - (S.w (y3 - s1)))) y5.length) then (cmp_Less_int.G S (List.getD y5 (Int.toNat (S.w (s1 - 1))) 0) (List.getD y5 (Int.toNat (S.w ((S.w (s2 - 1)) - (S.w (y3 - s1))))) 0) (fun y11 => bif (!y11) then (none) else (none))) else (none)) else (none)) else (none)))) else (bif s4 then (bif s5 then (bif (S.eq y4 1) then (slices_partialInsertionSortOrdered_int_.G S s0 s1 s2 (fun y12 y13 => bif y13 then (kr y12) else (bif (S.lt 0 s1) then (bif (S.ir (S.w (s1 - 1)) y12.length) then (bif (S.ir y3 y12.length) then (cmp_Less_int.G S (List.getD y12 (Int.toNat (S.w (s1 - 1))) 0) (List.getD y12 (Int.toNat y3) 0) (fun y14 => bif (!y14) then (none) else (none))) else (none)) else (none)) else (none)))) else (bif (S.lt 0 s1) then (bif (S.ir (S.w (s1 - 1)) s0.length) then (bif (S.ir y3 s0.length) then (cmp_Less_int.G S (List.getD s0 (Int.toNat (S.w (s1 - 1))) 0) (List.getD s0 (Int.toNat y3) 0) (fun y15 => bif (!y15) then (none) else (none))) else (none)) else (none)) else (none))) else (bif (S.lt 0 s1) then (bif (S.ir (S.w (s1 - 1)) s0.length) then (bif (S.ir y3 s0.length) then (cmp_Less_int.G S (List.getD s0 (Int.toNat (S.w (s1 - 1))) 0) (List.getD s0 (Int.toNat y3) 0) (fun y16 => bif (!y16) then (none) else (none))) else (none)) else (none)) else (none))) else (bif (S.lt 0 s1) then (bif (S.ir (S.w (s1 - 1)) s0.length) then (bif (S.ir y3 s0.length) then (cmp_Less_int.G S (List.getD s0 (Int.toNat (S.w (s1 - 1))) 0) (List.getD s0 (Int.toNat y3) 0) (fun y17 => bif (!y17) then (none) else (none))) else (none)) else (none)) else (none)))))) else (slices_choosePivotOrdered_int.G S s0 s1 s2 (fun y18 y19 => bif (S.eq y19 2) then (slices_reverseRangeOrdered_int_.G S s0 s1 s2 (fun y20 => bif s4 then (bif s5 then (bif (S.eq (1 : Int) 1) then (slices_partialInsertionSortOrdered_int_.G S y20 s1 s2 (fun y21 y22 => bif y22 then (kr y21) else (bif (S.lt 0 s1) then (bif (S.ir (S.w (s1 - 1)) y21.length) then (bif (S.ir (S.w ((S.w (s2 - 1)) - (S.w (y18 - s1)))) y21.length) then (cmp_Less_int.G S (List.getD y21 (Int.toNat (S.w (s1 - 1))) 0) (List.getD y21 (Int.toNat (S.w ((S.w (s2 - 1)) - (S.w (y18 - s1))))) 0) (fun y23 => bif (!y23) then (none) else (none))) else (none)) else (none)) else (none)))) else (bif (S.lt 0 s1) then (bif (S.ir (S.w (s1 - 1)) y20.length) then (bif (S.ir (S.w ((S.w (s2 - 1)) - (S.w (y18 - s1)))) y20.length) then (cmp_Less_int.G S (List.getD y20 (Int.toNat (S.w (s1 - 1))) 0) (List.getD y20 (Int.toNat (S.w ((S.w (s2 - 1)) - (S.w (y18 - s1))))) 0) (fun y24 => bif (!y24) then (none) else (none))) else (none)) else (none)) else (none))) else (bif (S.lt 0 s1) then (bif (S.ir (S.w (s1 - 1)) y20.length) then (bif (S.ir (S.w ((S.w (s2 - 1)) - (S.w (y18 - s1)))) y20.length) then (cmp_Less_int.G S (List.getD y20 (Int.toNat (S.w (s1 - 1))) 0) (List.getD y20 (Int.toNat (S.w ((S.w (s2 - 1)) - (S.w (y18 - s1))))) 0) (fun y25 => bif (!y25) then (none) else (none))) else (none)) else (none)) else (none))) else (bif (S.lt 0 s1) then (bif (S.ir (S.w (s1 - 1)) y20.length) then (bif (S.ir (S.w ((S.w (s2 - 1)) - (S.w (y18 - s1)))) y20.length) then (cmp_Less_int.G S (List.getD y20 (Int.toNat (S.w (s1 - 1))) 0) (List.getD y20 (Int.toNat (S.w ((S.w (s2 - 1)) - (S.w (y18 - s1))))) 0) (fun y26 => bif (!y26) then (none) else (none))) else (none)) else (none)) else (none)))) else (bif s4 then (bif s5 then (bif (S.eq y19 1) then (slices_partialInsertionSortOrdered_int_.G S s0 s1 s2 (fun y27 y28 => bif y28 then (kr y27) else (bif (S.lt 0 s1) then (bif (S.ir (S.w (s1 - 1)) y27.length) then (bif (S.ir y18 y27.length) then (cmp_Less_int.G S (List.getD y27 (Int.toNat (S.w (s1 - 1))) 0) (List.getD y27 (Int.toNat y18) 0) (fun y29 => bif (!y29) then (none) else (none))) else (none)) else (none)) else (none)))) else (bif (S.lt 0 s1) then (bif (S.ir (S.w (s1 - 1)) s0.length) then (bif (S.ir y18 s0.length) then (cmp_Less_int.G S (List.getD s0 (Int.toNat (S.w (s1 - 1))) 0) (List.getD s0 (Int.toNat y18) 0) (fun y30 => bif (!y30) then (none) else (none))) else (none)) else (none)) else (none))) else (bif (S.lt 0 s1) then (bif (S.ir (S.w (s1 - 1)) s0.length) then (bif (S.ir y18 s0.length) then (cmp_Less_int.G S (List.getD s0 (Int.toNat (S.w (s1 - 1))) 0) (List.getD s0 (Int.toNat y18) 0) (fun y31 => bif (!y31) then (none) else (none))) else (none)) else (none)) else (none))) else (bif (S.lt 0 s1) then (bif (S.ir (S.w (s1 - 1)) s0.length) then (bif (S.ir y18 s0.length) then (cmp_Less_int.G S (List.getD s0 (Int.toNat (S.w (s1 - 1))) 0) (List.getD s0 (Int.toNat y18) 0) (fun y32 => bif (!y32) then (none) else (none))) else (none)) else (none)) else (none)))))))
noncomputable def r2 {β : Type} (S : Sl) (n : Nat) (kx : x2.sig.den → Option β) (kr : y2.sig.den → Option β) (s : h2.sig.den) : Option β := rounds (fun L kx kr s => b2 S (fun x0 x1 x2 x3 x4 x5 => L ((x0, ()), (x1, (x2, (x3, (x4, (x5, ()))))))) (kx ((), ())) (fun x0 => kr ((x0, ()), ())) s.1.1 s.2.1 s.2.2.1 s.2.2.2.1 s.2.2.2.2.1 s.2.2.2.2.2.1) kx kr n s
noncomputable def l2 {β : Type} (S : Sl) (n : Nat) (kx : Option β) (kr : (List Int) → Option β) (s0 : (List Int)) (s1 : Int) (s2 : Int) (s3 : Int) (s4 : Bool) (s5 : Bool) : Option β := r2 S n (fun s => kx) (fun s => kr s.1.1) ((s0, ()), (s1, (s2, (s3, (s4, (s5, ()))))))
theorem t2 {β : Type} (S : Sl) (n : Nat) (kx : Option β) (kr : (List Int) → Option β) (s0 : (List Int)) (s1 : Int) (s2 : Int) (s3 : Int) (s4 : Bool) (s5 : Bool) : l2 S (n + 1) kx kr s0 s1 s2 s3 s4 s5 = b2 S (l2 S n kx kr) kx kr s0 s1 s2 s3 s4 s5 := by kernel_rfl
noncomputable def G {β : Type} (S : Sl) (a0 : (List Int)) (a1 : Int) (a2 : Int) (a3 : Int) (K : (List Int) → Option β) : Option β := l2 S S.n none (fun y1 => K y1) a0 a1 a2 a3 true true
noncomputable def o : Orac := ⟨218, sin, sout, fun s K => G sl0 s.1.1 s.2.1 s.2.2.1 s.2.2.2.1 (fun x0 => K ((x0, ()), ()))⟩
noncomputable def C : Ctx := ⟨tyT, [cmp_Less_int.o, slices_breakPatternsOrdered_int.o, slices_choosePivotOrdered_int.o, slices_heapSortOrdered_int_.o, slices_insertionSortOrdered_int_.o, slices_partialInsertionSortOrdered_int_.o, slices_reverseRangeOrdered_int_.o], [⟨2, 999, h2, x2, y2, fun s kx kr => r2 sl0 sl0.n kx kr s⟩], 134, 1⟩
theorem ctx : CtxOk Tryz.prog C := ⟨tyOk, all1 cmp_Less_int.ok (all1 slices_breakPatternsOrdered_int.ok (all1 slices_choosePivotOrdered_int.ok (all1 slices_heapSortOrdered_int_.ok (all1 slices_insertionSortOrdered_int_.ok (all1 slices_partialInsertionSortOrdered_int_.ok (all1 slices_reverseRangeOrdered_int_.ok (all0)))))))⟩
theorem e2 (β : Type) (L : h2.sig.den → Option β) (kx : x2.sig.den → Option β) (kr : y2.sig.den → Option β) (s : h2.sig.den) : evalBody C (nthC (loopsOf (bodyC Tryz.f218)) 0) 999 h2 x2 y2 L kx kr s = b2 sl0 (fun x0 x1 x2 x3 x4 x5 => L ((x0, ()), (x1, (x2, (x3, (x4, (x5, ()))))))) (kx ((), ())) (fun x0 => kr ((x0, ()), ())) s.1.1 s.2.1 s.2.2.1 s.2.2.2.1 s.2.2.2.2.1 s.2.2.2.2.2.1 := by kernel_rfl
theorem g2 : LS Tryz.prog C ⟨2, 999, h2, x2, y2, fun s kx kr => r2 sl0 sl0.n kx kr s⟩ (loopsOf (bodyC Tryz.f218)) := LS.at (i := 0) (by kernel_rfl) (loop_good mixed ctx (ctx_nat ctx) (N := sl0.n) (fun _ _ _ _ => rfl) e2 (all1 (LS.none (by kernel_rfl)) (all0)))
theorem eG (β : Type) (s : sin.den) (K : sout.den → Option β) : evalFn C Tryz.f218 sin sout s K = o.F s K := by kernel_rfl
theorem ok : OracOk Tryz.prog o := fn_ok mixed Tryz.func218 (by kernel_rfl) ctx (c := bodyC Tryz.f218) (by kernel_rfl) (all1 g2 (all0)) (by kernel_rfl) (by kernel_rfl) (by kernel_rfl) (Nat.le_of_ble_eq_true (by kernel_rfl)) eG (by kernel_rfl) (Nat.le_of_ble_eq_true (by kernel_rfl))
end slices_pdqsortOrdered_int_
end Go.Proofs.YtnbighmbgmjbkaaGreat.E
end
section
set_option linter.unusedVariables false
set_option linter.unusedSimpArgs false
namespace Go.Proofs.YtnbighmbgmjbkaaGreat.E
open Go Go.RowKit
set_option linter.unusedVariables false
set_option maxRecDepth 100000
namespace slices_Sort_Sint_int_
def sin : Sig := ⟨[.buf I false], [.one (.ref (.own 0))]⟩
def sout : Sig := ⟨[.buf I false], []⟩
noncomputable def G {β : Type} (S : Sl) (a0 : (List Int)) (K : (List Int) → Option β) : Option β := math_bits_Len.G S (S.wr .u64 (a0.length : Int)) (fun y1 => slices_pdqsortOrdered_int_.G S a0 0 (a0.length : Int) y1 (fun y2 => K y2))
noncomputable def o : Orac := ⟨191, sin, sout, fun s K => G sl0 s.1.1 (fun x0 => K ((x0, ()), ()))⟩
noncomputable def C : Ctx := ⟨tyT, [math_bits_Len.o, slices_pdqsortOrdered_int_.o], [], 11, 1⟩
theorem ctx : CtxOk Tryz.prog C := ⟨tyOk, all1 math_bits_Len.ok (all1 slices_pdqsortOrdered_int_.ok (all0))⟩
theorem eG (β : Type) (s : sin.den) (K : sout.den → Option β) : evalFn C Tryz.f191 sin sout s K = o.F s K := by kernel_rfl
theorem ok : OracOk Tryz.prog o := fn_ok mixed Tryz.func191 (by kernel_rfl) ctx (c := bodyC Tryz.f191) (by kernel_rfl) (all0) (by kernel_rfl) (by kernel_rfl) (by kernel_rfl) (Nat.le_of_ble_eq_true (by kernel_rfl)) eG (by kernel_rfl) (Nat.le_of_ble_eq_true (by kernel_rfl))
end slices_Sort_Sint_int_
end Go.Proofs.YtnbighmbgmjbkaaGreat.E
end
section
set_option linter.unusedVariables false
set_option linter.unusedSimpArgs false
namespace Go.Proofs.YtnbighmbgmjbkaaGreat.E
open Go Go.RowKit
set_option linter.unusedVariables false
set_option maxRecDepth 100000
namespace impl_Stripe_versions
def sin : Sig := ⟨[], [.agg [.val I false, .val (.sl I) false, .val (.sl I) false, .val (.sl .bool) false]]⟩
def sout : Sig := ⟨[.buf I false], [.one (.ref (.own 0))]⟩
def h3 : SS := ⟨[1, 3, 9, 10, 11], ⟨[.box [.val I false, .val (.sl I) false, .val (.sl I) false, .val (.sl .bool) false], .buf I false, .buf I false], [.one (.ref (.ptr 0)), .one (.ref (.own 1)), .one (.ref (.own 2)), .one (.val I false), .one (.val I false)]⟩⟩
def x3 : SS := ⟨[3], ⟨[.buf I false], [.one (.ref (.own 0))]⟩⟩
def y3 : SS := ⟨[], ⟨[], []⟩⟩
noncomputable def b3 {β : Type} (S : Sl) (L : Int → (List Int) → (List Int) → (List Bool) → (List Int) → (List Int) → Int → Int → Option β) (kx : (List Int) → Option β) (kr : Option β) (s0 : Int) (s1 : (List Int)) (s2 : (List Int)) (s3 : (List Bool)) (s4 : (List Int)) (s5 : (List Int)) (s6 : Int) (s7 : Int) : Option β := bif (S.lt s7 s6) then (bif (S.ir s7 s5.length) then (bif (S.ir (List.getD s5 (Int.toNat s7) 0) s2.length) then (bif (S.fw (s4 ++ [(List.getD s2 (Int.toNat (List.getD s5 (Int.toNat s7) 0)) 0)]).length) then (L s0 s1 s2 s3 (s4 ++ [(List.getD s2 (Int.toNat (List.getD s5 (Int.toNat s7) 0)) 0)]) s5 s6 (S.w (s7 + 1))) else (none)) else (none)) else (none)) else (kx s4)
noncomputable def r3 {β : Type} (S : Sl) (n : Nat) (kx : x3.sig.den → Option β) (kr : y3.sig.den → Option β) (s : h3.sig.den) : Option β := rounds (fun L kx kr s => b3 S (fun x0 x1 x2 x3 x4 x5 x6 x7 => L (((x0, (x1, (x2, (x3, ())))), (x4, (x5, ()))), (x6, (x7, ())))) (fun x0 => kx ((x0, ()), ())) (kr ((), ())) s.1.1.1 s.1.1.2.1 s.1.1.2.2.1 s.1.1.2.2.2.1 s.1.2.1 s.1.2.2.1 s.2.1 s.2.2.1) kx kr n s
noncomputable def l3 {β : Type} (S : Sl) (n : Nat) (kx : (List Int) → Option β) (kr : Option β) (s0 : Int) (s1 : (List Int)) (s2 : (List Int)) (s3 : (List Bool)) (s4 : (List Int)) (s5 : (List Int)) (s6 : Int) (s7 : Int) : Option β := r3 S n (fun s => kx s.1.1) (fun s => kr) (((s0, (s1, (s2, (s3, ())))), (s4, (s5, ()))), (s6, (s7, ())))
theorem t3 {β : Type} (S : Sl) (n : Nat) (kx : (List Int) → Option β) (kr : Option β) (s0 : Int) (s1 : (List Int)) (s2 : (List Int)) (s3 : (List Bool)) (s4 : (List Int)) (s5 : (List Int)) (s6 : Int) (s7 : Int) : l3 S (n + 1) kx kr s0 s1 s2 s3 s4 s5 s6 s7 = b3 S (l3 S n kx kr) kx kr s0 s1 s2 s3 s4 s5 s6 s7 := by kernel_rfl
noncomputable def G {β : Type} (S : Sl) (a0 : Int) (a1 : (List Int)) (a2 : (List Int)) (a3 : (List Bool)) (K : (List Int) → Option β) : Option β := impl_flagged.G S a3 (fun y1 => l3 S S.n (fun y2 => slices_Sort_Sint_int_.G S y2 (fun y3 => slices_Reverse_Sint_int_.G S y3 (fun y4 => slices_Compact_Sint_int.G S y4 (fun y5 => K y5)))) none a0 a1 a2 a3 [] y1 (y1.length : Int) 0)
noncomputable def o : Orac := ⟨126, sin, sout, fun s K => G sl0 s.2.1.1 s.2.1.2.1 s.2.1.2.2.1 s.2.1.2.2.2.1 (fun x0 => K ((x0, ()), ()))⟩
noncomputable def C : Ctx := ⟨tyT, [impl_flagged.o, slices_Compact_Sint_int.o, slices_Reverse_Sint_int_.o, slices_Sort_Sint_int_.o], [⟨3, 0, h3, x3, y3, fun s kx kr => r3 sl0 sl0.n kx kr s⟩], 30, 0⟩
theorem ctx : CtxOk Tryz.prog C := ⟨tyOk, all1 impl_flagged.ok (all1 slices_Compact_Sint_int.ok (all1 slices_Reverse_Sint_int_.ok (all1 slices_Sort_Sint_int_.ok (all0))))⟩
theorem e3 (β : Type) (L : h3.sig.den → Option β) (kx : x3.sig.den → Option β) (kr : y3.sig.den → Option β) (s : h3.sig.den) : evalBody C (nthC (loopsOf (bodyC Tryz.f126)) 0) 0 h3 x3 y3 L kx kr s = b3 sl0 (fun x0 x1 x2 x3 x4 x5 x6 x7 => L (((x0, (x1, (x2, (x3, ())))), (x4, (x5, ()))), (x6, (x7, ())))) (fun x0 => kx ((x0, ()), ())) (kr ((), ())) s.1.1.1 s.1.1.2.1 s.1.1.2.2.1 s.1.1.2.2.2.1 s.1.2.1 s.1.2.2.1 s.2.1 s.2.2.1 := by kernel_rfl
theorem g3 : LS Tryz.prog C ⟨3, 0, h3, x3, y3, fun s kx kr => r3 sl0 sl0.n kx kr s⟩ (loopsOf (bodyC Tryz.f126)) := LS.at (i := 0) (by kernel_rfl) (loop_good mixed ctx (ctx_nat ctx) (N := sl0.n) (fun _ _ _ _ => rfl) e3 (all1 (LS.none (by kernel_rfl)) (all0)))
theorem eG (β : Type) (s : sin.den) (K : sout.den → Option β) : evalFn C Tryz.f126 sin sout s K = o.F s K := by kernel_rfl
theorem ok : OracOk Tryz.prog o := fn_ok mixed Tryz.func126 (by kernel_rfl) ctx (c := bodyC Tryz.f126) (by kernel_rfl) (all1 g3 (all0)) (by kernel_rfl) (by kernel_rfl) (by kernel_rfl) (Nat.le_of_ble_eq_true (by kernel_rfl)) eG (by kernel_rfl) (Nat.le_of_ble_eq_true (by kernel_rfl))
end impl_Stripe_versions
end Go.Proofs.YtnbighmbgmjbkaaGreat.E
end
section
set_option linter.unusedVariables false
set_option linter.unusedSimpArgs false
namespace Go.Proofs.YtnbighmbgmjbkaaGreat.E
open Go Go.RowKit
set_option linter.unusedVariables false
set_option maxRecDepth 100000
namespace impl_Stripe_of_1
def sin : Sig := ⟨[.box [.val I false, .val (.sl I) false, .val (.sl I) false, .val (.sl .bool) false], .box [.val I false]], [.one (.val I false), .one (.ref (.ptr 0)), .one (.ref (.ptr 1))]⟩
def sout : Sig := ⟨[.box [.val I false, .val (.sl I) false, .val (.sl I) false, .val (.sl .bool) false], .box [.val I false]], [.one (.val .bool false)]⟩
noncomputable def G {β : Type} (S : Sl) (a0 : Int) (a1 : (List Int)) (a2 : (List Int)) (a3 : (List Bool)) (a4 : Int) (a5 : Int) (K : Int → (List Int) → (List Int) → (List Bool) → Int → Bool → Option β) : Option β := bif (S.ir a5 a2.length) then (K a0 a1 a2 a3 a4 (!S.eq (List.getD a2 (Int.toNat a5) 0) a4)) else (none)
noncomputable def o : Orac := ⟨185, sin, sout, fun s K => G sl0 s.1.1.1 s.1.1.2.1 s.1.1.2.2.1 s.1.1.2.2.2.1 s.1.2.1.1 s.2.1 (fun x0 x1 x2 x3 x4 x5 => K (((x0, (x1, (x2, (x3, ())))), ((x4, ()), ())), (x5, ())))⟩
noncomputable def C : Ctx := ⟨tyT, [], [], 12, 2⟩
theorem ctx : CtxOk Tryz.prog C := ⟨tyOk, all0⟩
theorem eG (β : Type) (s : sin.den) (K : sout.den → Option β) : evalFn C Tryz.f185 sin sout s K = o.F s K := by kernel_rfl
theorem ok : OracOk Tryz.prog o := fn_ok mixed Tryz.func185 (by kernel_rfl) ctx (c := bodyC Tryz.f185) (by kernel_rfl) (all0) (by kernel_rfl) (by kernel_rfl) (by kernel_rfl) (Nat.le_of_ble_eq_true (by kernel_rfl)) eG (by kernel_rfl) (Nat.le_of_ble_eq_true (by kernel_rfl))
end impl_Stripe_of_1
end Go.Proofs.YtnbighmbgmjbkaaGreat.E
end
section
set_option linter.unusedVariables false
set_option linter.unusedSimpArgs false
namespace Go.Proofs.YtnbighmbgmjbkaaGreat.E
open Go Go.RowKit
set_option linter.unusedVariables false
set_option maxRecDepth 100000
namespace slices_IndexFunc_Sint_int
def sin : Sig := ⟨[.buf I false, .box [.val I false, .val (.sl I) false, .val (.sl I) false, .val (.sl .bool) false], .box [.val I false]], [.one (.ref (.own 0)), .one (.ref (.fn 185 [1, 2]))]⟩
def sout : Sig := ⟨[.buf I false, .box [.val I false, .val (.sl I) false, .val (.sl I) false, .val (.sl .bool) false], .box [.val I false]], [.one (.val I false)]⟩
def h2 : SS := ⟨[0, 1, 7, 8], ⟨[.buf I false, .box [.val I false, .val (.sl I) false, .val (.sl I) false, .val (.sl .bool) false], .box [.val I false]], [.one (.ref (.own 0)), .one (.ref (.fn 185 [1, 2])), .one (.val I false), .one (.val I false)]⟩⟩
def x2 : SS := ⟨[], ⟨[.buf I false, .box [.val I false, .val (.sl I) false, .val (.sl I) false, .val (.sl .bool) false], .box [.val I false]], []⟩⟩
def y2 : SS := ⟨[4], ⟨[.buf I false, .box [.val I false, .val (.sl I) false, .val (.sl I) false, .val (.sl .bool) false], .box [.val I false]], [.one (.val I false)]⟩⟩
noncomputable def b2 {β : Type} (S : Sl) (L : (List Int) → Int → (List Int) → (List Int) → (List Bool) → Int → Int → Int → Option β) (kx : (List Int) → Int → (List Int) → (List Int) → (List Bool) → Int → Option β) (kr : (List Int) → Int → (List Int) → (List Int) → (List Bool) → Int → Int → Option β) (s0 : (List Int)) (s1 : Int) (s2 : (List Int)) (s3 : (List Int)) (s4 : (List Bool)) (s5 : Int) (s6 : Int) (s7 : Int) : Option β := bif (S.lt s7 s6) then (bif (S.ir s7 s0.length) then (impl_Stripe_of_1.G S s1 s2 s3 s4 s5 (List.getD s0 (Int.toNat s7) 0) (fun y1 y2 y3 y4 y5 y6 => bif y6 then (kr s0 y1 y2 y3 y4 y5 s7) else (L s0 y1 y2 y3 y4 y5 s6 (S.w (s7 + 1))))) else (none)) else (kx s0 s1 s2 s3 s4 s5)
noncomputable def r2 {β : Type} (S : Sl) (n : Nat) (kx : x2.sig.den → Option β) (kr : y2.sig.den → Option β) (s : h2.sig.den) : Option β := rounds (fun L kx kr s => b2 S (fun x0 x1 x2 x3 x4 x5 x6 x7 => L ((x0, ((x1, (x2, (x3, (x4, ())))), ((x5, ()), ()))), (x6, (x7, ())))) (fun x0 x1 x2 x3 x4 x5 => kx ((x0, ((x1, (x2, (x3, (x4, ())))), ((x5, ()), ()))), ())) (fun x0 x1 x2 x3 x4 x5 x6 => kr ((x0, ((x1, (x2, (x3, (x4, ())))), ((x5, ()), ()))), (x6, ()))) s.1.1 s.1.2.1.1 s.1.2.1.2.1 s.1.2.1.2.2.1 s.1.2.1.2.2.2.1 s.1.2.2.1.1 s.2.1 s.2.2.1) kx kr n s
noncomputable def l2 {β : Type} (S : Sl) (n : Nat) (kx : (List Int) → Int → (List Int) → (List Int) → (List Bool) → Int → Option β) (kr : (List Int) → Int → (List Int) → (List Int) → (List Bool) → Int → Int → Option β) (s0 : (List Int)) (s1 : Int) (s2 : (List Int)) (s3 : (List Int)) (s4 : (List Bool)) (s5 : Int) (s6 : Int) (s7 : Int) : Option β := r2 S n (fun s => kx s.1.1 s.1.2.1.1 s.1.2.1.2.1 s.1.2.1.2.2.1 s.1.2.1.2.2.2.1 s.1.2.2.1.1) (fun s => kr s.1.1 s.1.2.1.1 s.1.2.1.2.1 s.1.2.1.2.2.1 s.1.2.1.2.2.2.1 s.1.2.2.1.1 s.2.1) ((s0, ((s1, (s2, (s3, (s4, ())))), ((s5, ()), ()))), (s6, (s7, ())))
theorem t2 {β : Type} (S : Sl) (n : Nat) (kx : (List Int) → Int → (List Int) → (List Int) → (List Bool) → Int → Option β) (kr : (List Int) → Int → (List Int) → (List Int) → (List Bool) → Int → Int → Option β) (s0 : (List Int)) (s1 : Int) (s2 : (List Int)) (s3 : (List Int)) (s4 : (List Bool)) (s5 : Int) (s6 : Int) (s7 : Int) : l2 S (n + 1) kx kr s0 s1 s2 s3 s4 s5 s6 s7 = b2 S (l2 S n kx kr) kx kr s0 s1 s2 s3 s4 s5 s6 s7 := by kernel_rfl
noncomputable def G {β : Type} (S : Sl) (a0 : (List Int)) (a1 : Int) (a2 : (List Int)) (a3 : (List Int)) (a4 : (List Bool)) (a5 : Int) (K : (List Int) → Int → (List Int) → (List Int) → (List Bool) → Int → Int → Option β) : Option β := l2 S S.n (fun y1 y2 y3 y4 y5 y6 => K y1 y2 y3 y4 y5 y6 (-1)) (fun y7 y8 y9 y10 y11 y12 y13 => K y7 y8 y9 y10 y11 y12 y13) a0 a1 a2 a3 a4 a5 (a0.length : Int) 0
noncomputable def o : Orac := ⟨201, sin, sout, fun s K => G sl0 s.1.1 s.1.2.1.1 s.1.2.1.2.1 s.1.2.1.2.2.1 s.1.2.1.2.2.2.1 s.1.2.2.1.1 (fun x0 x1 x2 x3 x4 x5 x6 => K ((x0, ((x1, (x2, (x3, (x4, ())))), ((x5, ()), ()))), (x6, ())))⟩
noncomputable def C : Ctx := ⟨tyT, [impl_Stripe_of_1.o], [⟨2, 0, h2, x2, y2, fun s kx kr => r2 sl0 sl0.n kx kr s⟩], 19, 3⟩
theorem ctx : CtxOk Tryz.prog C := ⟨tyOk, all1 impl_Stripe_of_1.ok (all0)⟩
theorem e2 (β : Type) (L : h2.sig.den → Option β) (kx : x2.sig.den → Option β) (kr : y2.sig.den → Option β) (s : h2.sig.den) : evalBody C (nthC (loopsOf (bodyC Tryz.f201)) 0) 0 h2 x2 y2 L kx kr s = b2 sl0 (fun x0 x1 x2 x3 x4 x5 x6 x7 => L ((x0, ((x1, (x2, (x3, (x4, ())))), ((x5, ()), ()))), (x6, (x7, ())))) (fun x0 x1 x2 x3 x4 x5 => kx ((x0, ((x1, (x2, (x3, (x4, ())))), ((x5, ()), ()))), ())) (fun x0 x1 x2 x3 x4 x5 x6 => kr ((x0, ((x1, (x2, (x3, (x4, ())))), ((x5, ()), ()))), (x6, ()))) s.1.1 s.1.2.1.1 s.1.2.1.2.1 s.1.2.1.2.2.1 s.1.2.1.2.2.2.1 s.1.2.2.1.1 s.2.1 s.2.2.1 := by kernel_rfl
theorem g2 : LS Tryz.prog C ⟨2, 0, h2, x2, y2, fun s kx kr => r2 sl0 sl0.n kx kr s⟩ (loopsOf (bodyC Tryz.f201)) := LS.at (i := 0) (by kernel_rfl) (loop_good mixed ctx (ctx_nat ctx) (N := sl0.n) (fun _ _ _ _ => rfl) e2 (all1 (LS.none (by kernel_rfl)) (all0)))
theorem eG (β : Type) (s : sin.den) (K : sout.den → Option β) : evalFn C Tryz.f201 sin sout s K = o.F s K := by kernel_rfl
theorem ok : OracOk Tryz.prog o := fn_ok mixed Tryz.func201 (by kernel_rfl) ctx (c := bodyC Tryz.f201) (by kernel_rfl) (all1 g2 (all0)) (by kernel_rfl) (by kernel_rfl) (by kernel_rfl) (Nat.le_of_ble_eq_true (by kernel_rfl)) eG (by kernel_rfl) (Nat.le_of_ble_eq_true (by kernel_rfl))
end slices_IndexFunc_Sint_int
end Go.Proofs.YtnbighmbgmjbkaaGreat.E
end
section
set_option linter.unusedVariables false
set_option linter.unusedSimpArgs false
namespace Go.Proofs.YtnbighmbgmjbkaaGreat.E
open Go Go.RowKit
set_option linter.unusedVariables false
set_option maxRecDepth 100000
namespace slices_DeleteFunc_Sint_int
def sin : Sig := ⟨[.buf I false, .box [.val I false, .val (.sl I) false, .val (.sl I) false, .val (.sl .bool) false], .box [.val I false]], [.one (.ref (.own 0)), .one (.ref (.fn 185 [1, 2]))]⟩
def sout : Sig := ⟨[.dead, .box [.val I false, .val (.sl I) false, .val (.sl I) false, .val (.sl .bool) false], .box [.val I false], .buf I false], [.one (.ref (.own 3))]⟩
def h5 : SS := ⟨[0, 1, 5, 6], ⟨[.buf I false, .box [.val I false, .val (.sl I) false, .val (.sl I) false, .val (.sl .bool) false], .box [.val I false]], [.one (.ref (.own 0)), .one (.ref (.fn 185 [1, 2])), .one (.val I false), .one (.val I false)]⟩⟩
def x5 : SS := ⟨[0, 5], ⟨[.buf I false, .box [.val I false, .val (.sl I) false, .val (.sl I) false, .val (.sl .bool) false], .box [.val I false]], [.one (.ref (.own 0)), .one (.val I false)]⟩⟩
def y5 : SS := ⟨[], ⟨[], []⟩⟩
noncomputable def b5 {β : Type} (S : Sl) (L : (List Int) → Int → (List Int) → (List Int) → (List Bool) → Int → Int → Int → Option β) (kx : (List Int) → Int → (List Int) → (List Int) → (List Bool) → Int → Int → Option β) (kr : Option β) (s0 : (List Int)) (s1 : Int) (s2 : (List Int)) (s3 : (List Int)) (s4 : (List Bool)) (s5 : Int) (s6 : Int) (s7 : Int) : Option β := bif (S.lt s7 (s0.length : Int)) then (bif (S.ir s7 s0.length) then (impl_Stripe_of_1.G S s1 s2 s3 s4 s5 (List.getD s0 (Int.toNat s7) 0) (fun y1 y2 y3 y4 y5 y6 => bif (!y6) then (bif (S.ir s6 s0.length) then (L (List.set s0 (Int.toNat s6) (List.getD s0 (Int.toNat s7) 0)) y1 y2 y3 y4 y5 (S.w (s6 + 1)) (S.w (s7 + 1))) else (none)) else (L s0 y1 y2 y3 y4 y5 s6 (S.w (s7 + 1))))) else (none)) else (kx s0 s1 s2 s3 s4 s5 s6)
noncomputable def r5 {β : Type} (S : Sl) (n : Nat) (kx : x5.sig.den → Option β) (kr : y5.sig.den → Option β) (s : h5.sig.den) : Option β := rounds (fun L kx kr s => b5 S (fun x0 x1 x2 x3 x4 x5 x6 x7 => L ((x0, ((x1, (x2, (x3, (x4, ())))), ((x5, ()), ()))), (x6, (x7, ())))) (fun x0 x1 x2 x3 x4 x5 x6 => kx ((x0, ((x1, (x2, (x3, (x4, ())))), ((x5, ()), ()))), (x6, ()))) (kr ((), ())) s.1.1 s.1.2.1.1 s.1.2.1.2.1 s.1.2.1.2.2.1 s.1.2.1.2.2.2.1 s.1.2.2.1.1 s.2.1 s.2.2.1) kx kr n s
noncomputable def l5 {β : Type} (S : Sl) (n : Nat) (kx : (List Int) → Int → (List Int) → (List Int) → (List Bool) → Int → Int → Option β) (kr : Option β) (s0 : (List Int)) (s1 : Int) (s2 : (List Int)) (s3 : (List Int)) (s4 : (List Bool)) (s5 : Int) (s6 : Int) (s7 : Int) : Option β := r5 S n (fun s => kx s.1.1 s.1.2.1.1 s.1.2.1.2.1 s.1.2.1.2.2.1 s.1.2.1.2.2.2.1 s.1.2.2.1.1 s.2.1) (fun s => kr) ((s0, ((s1, (s2, (s3, (s4, ())))), ((s5, ()), ()))), (s6, (s7, ())))
theorem t5 {β : Type} (S : Sl) (n : Nat) (kx : (List Int) → Int → (List Int) → (List Int) → (List Bool) → Int → Int → Option β) (kr : Option β) (s0 : (List Int)) (s1 : Int) (s2 : (List Int)) (s3 : (List Int)) (s4 : (List Bool)) (s5 : Int) (s6 : Int) (s7 : Int) : l5 S (n + 1) kx kr s0 s1 s2 s3 s4 s5 s6 s7 = b5 S (l5 S n kx kr) kx kr s0 s1 s2 s3 s4 s5 s6 s7 := by kernel_rfl
noncomputable def G {β : Type} (S : Sl) (a0 : (List Int)) (a1 : Int) (a2 : (List Int)) (a3 : (List Int)) (a4 : (List Bool)) (a5 : Int) (K : Int → (List Int) → (List Int) → (List Bool) → Int → (List Int) → Option β) : Option β := slices_IndexFunc_Sint_int.G S a0 a1 a2 a3 a4 a5 (fun y1 y2 y3 y4 y5 y6 y7 => bif (S.eq y7 (-1)) then (K y2 y3 y4 y5 y6 y1) else (l5 S S.n (fun y8 y9 y10 y11 y12 y13 y14 => bif ((S.le 0 y14) && (S.le y14 (y8.length : Int)) && (S.le (y8.length : Int) (y8.length : Int)) && (S.le (y8.length : Int) (y8.length : Int))) then (bif ((S.le 0 y14) && (S.le y14 ((clr 0 y8 (Int.toNat y14) (Int.toNat (y8.length : Int))).length : Int)) && (S.le ((clr 0 y8 (Int.toNat y14) (Int.toNat (y8.length : Int))).length : Int) ((clr 0 y8 (Int.toNat y14) (Int.toNat (y8.length : Int))).length : Int))) then (K y9 y10 y11 y12 y13 (List.take (Int.toNat y14) (clr 0 y8 (Int.toNat y14) (Int.toNat (y8.length : Int))))) else (none)) else (none)) none y1 y2 y3 y4 y5 y6 y7 (S.w (y7 + 1))))
noncomputable def o : Orac := ⟨184, sin, sout, fun s K => G sl0 s.1.1 s.1.2.1.1 s.1.2.1.2.1 s.1.2.1.2.2.1 s.1.2.1.2.2.2.1 s.1.2.2.1.1 (fun x0 x1 x2 x3 x4 x5 => K (((x0, (x1, (x2, (x3, ())))), ((x4, ()), (x5, ()))), ()))⟩
noncomputable def C : Ctx := ⟨tyT, [impl_Stripe_of_1.o, slices_IndexFunc_Sint_int.o], [⟨5, 0, h5, x5, y5, fun s kx kr => r5 sl0 sl0.n kx kr s⟩], 42, 3⟩
theorem ctx : CtxOk Tryz.prog C := ⟨tyOk, all1 impl_Stripe_of_1.ok (all1 slices_IndexFunc_Sint_int.ok (all0))⟩
theorem e5 (β : Type) (L : h5.sig.den → Option β) (kx : x5.sig.den → Option β) (kr : y5.sig.den → Option β) (s : h5.sig.den) : evalBody C (nthC (loopsOf (bodyC Tryz.f184)) 0) 0 h5 x5 y5 L kx kr s = b5 sl0 (fun x0 x1 x2 x3 x4 x5 x6 x7 => L ((x0, ((x1, (x2, (x3, (x4, ())))), ((x5, ()), ()))), (x6, (x7, ())))) (fun x0 x1 x2 x3 x4 x5 x6 => kx ((x0, ((x1, (x2, (x3, (x4, ())))), ((x5, ()), ()))), (x6, ()))) (kr ((), ())) s.1.1 s.1.2.1.1 s.1.2.1.2.1 s.1.2.1.2.2.1 s.1.2.1.2.2.2.1 s.1.2.2.1.1 s.2.1 s.2.2.1 := by kernel_rfl
theorem g5 : LS Tryz.prog C ⟨5, 0, h5, x5, y5, fun s kx kr => r5 sl0 sl0.n kx kr s⟩ (loopsOf (bodyC Tryz.f184)) := LS.at (i := 0) (by kernel_rfl) (loop_good mixed ctx (ctx_nat ctx) (N := sl0.n) (fun _ _ _ _ => rfl) e5 (all1 (LS.none (by kernel_rfl)) (all0)))
theorem eG (β : Type) (s : sin.den) (K : sout.den → Option β) : evalFn C Tryz.f184 sin sout s K = o.F s K := by kernel_rfl
theorem ok : OracOk Tryz.prog o := fn_ok mixed Tryz.func184 (by kernel_rfl) ctx (c := bodyC Tryz.f184) (by kernel_rfl) (all1 g5 (all0)) (by kernel_rfl) (by kernel_rfl) (by kernel_rfl) (Nat.le_of_ble_eq_true (by kernel_rfl)) eG (by kernel_rfl) (Nat.le_of_ble_eq_true (by kernel_rfl))
end slices_DeleteFunc_Sint_int
end Go.Proofs.YtnbighmbgmjbkaaGreat.E
end
section
set_option linter.unusedVariables false
set_option linter.unusedSimpArgs false
namespace Go.Proofs.YtnbighmbgmjbkaaGreat.E
open Go Go.RowKit
set_option linter.unusedVariables false
set_option maxRecDepth 100000
namespace impl_Stripe_of
def sin : Sig := ⟨[], [.agg [.val I false, .val (.sl I) false, .val (.sl I) false, .val (.sl .bool) false], .one (.val I false)]⟩
def sout : Sig := ⟨[.buf I false], [.one (.ref (.own 0))]⟩
noncomputable def G {β : Type} (S : Sl) (a0 : Int) (a1 : (List Int)) (a2 : (List Int)) (a3 : (List Bool)) (a4 : Int) (K : (List Int) → Option β) : Option β := impl_flagged.G S a3 (fun y1 => slices_DeleteFunc_Sint_int.G S y1 a0 a1 a2 a3 a4 (fun y2 y3 y4 y5 y6 y7 => K y7))
noncomputable def o : Orac := ⟨106, sin, sout, fun s K => G sl0 s.2.1.1 s.2.1.2.1 s.2.1.2.2.1 s.2.1.2.2.2.1 s.2.2.1 (fun x0 => K ((x0, ()), ()))⟩
noncomputable def C : Ctx := ⟨tyT, [impl_flagged.o, slices_DeleteFunc_Sint_int.o], [], 10, 0⟩
theorem ctx : CtxOk Tryz.prog C := ⟨tyOk, all1 impl_flagged.ok (all1 slices_DeleteFunc_Sint_int.ok (all0))⟩
theorem eG (β : Type) (s : sin.den) (K : sout.den → Option β) : evalFn C Tryz.f106 sin sout s K = o.F s K := by kernel_rfl
theorem ok : OracOk Tryz.prog o := fn_ok mixed Tryz.func106 (by kernel_rfl) ctx (c := bodyC Tryz.f106) (by kernel_rfl) (all0) (by kernel_rfl) (by kernel_rfl) (by kernel_rfl) (Nat.le_of_ble_eq_true (by kernel_rfl)) eG (by kernel_rfl) (Nat.le_of_ble_eq_true (by kernel_rfl))
end impl_Stripe_of
end Go.Proofs.YtnbighmbgmjbkaaGreat.E
end
section
set_option linter.unusedVariables false
set_option linter.unusedSimpArgs false
namespace Go.Proofs.YtnbighmbgmjbkaaGreat.E
open Go Go.RowKit
set_option linter.unusedVariables false
set_option maxRecDepth 100000
namespace impl_element_minus
def sin : Sig := ⟨[], [.one (.val I false), .one (.val I false)]⟩
def sout : Sig := ⟨[], [.one (.val I false)]⟩
noncomputable def G {β : Type} (S : Sl) (a0 : Int) (a1 : Int) (K : Int → Option β) : Option β := impl_elementOf.G S (S.w (a0 - a1)) (fun y1 => K y1)
noncomputable def o : Orac := ⟨228, sin, sout, fun s K => G sl0 s.2.1 s.2.2.1 (fun x0 => K ((), (x0, ())))⟩
noncomputable def C : Ctx := ⟨tyT, [impl_elementOf.o], [], 9, 0⟩
theorem ctx : CtxOk Tryz.prog C := ⟨tyOk, all1 impl_elementOf.ok (all0)⟩
theorem eG (β : Type) (s : sin.den) (K : sout.den → Option β) : evalFn C Tryz.f228 sin sout s K = o.F s K := by kernel_rfl
theorem ok : OracOk Tryz.prog o := fn_ok mixed Tryz.func228 (by kernel_rfl) ctx (c := bodyC Tryz.f228) (by kernel_rfl) (all0) (by kernel_rfl) (by kernel_rfl) (by kernel_rfl) (Nat.le_of_ble_eq_true (by kernel_rfl)) eG (by kernel_rfl) (Nat.le_of_ble_eq_true (by kernel_rfl))
end impl_element_minus
end Go.Proofs.YtnbighmbgmjbkaaGreat.E
end
section
set_option linter.unusedVariables false
set_option linter.unusedSimpArgs false
namespace Go.Proofs.YtnbighmbgmjbkaaGreat.E
open Go Go.RowKit
set_option linter.unusedVariables false
set_option maxRecDepth 100000
namespace impl_rowsOf
def sin : Sig := ⟨[], [.one (.val I false), .one (.val (.sl I) false)]⟩
def sout : Sig := ⟨[.buf (.arr 4 I) false], [.one (.ref (.own 0))]⟩
def h3 : SS := ⟨[0, 5, 11, 12, 13], ⟨[.buf (.arr 4 I) false], [.one (.val I false), .one (.ref (.own 0)), .one (.val (.sl I) false), .one (.val I false), .one (.val I false)]⟩⟩
def x3 : SS := ⟨[5], ⟨[.buf (.arr 4 I) false], [.one (.ref (.own 0))]⟩⟩
def y3 : SS := ⟨[], ⟨[], []⟩⟩
noncomputable def b3 {β : Type} (S : Sl) (L : (List (List Int)) → Int → (List Int) → Int → Int → Option β) (kx : (List (List Int)) → Option β) (kr : Option β) (s0 : (List (List Int))) (s1 : Int) (s2 : (List Int)) (s3 : Int) (s4 : Int) : Option β := bif (S.lt s4 s3) then (bif (S.ir s4 s2.length) then (impl_rowOf.G S s1 (List.getD s2 (Int.toNat s4) 0) (fun y1 => bif (S.fw (s0 ++ [y1]).length) then (L (s0 ++ [y1]) s1 s2 s3 (S.w (s4 + 1))) else (none))) else (none)) else (kx s0)
noncomputable def r3 {β : Type} (S : Sl) (n : Nat) (kx : x3.sig.den → Option β) (kr : y3.sig.den → Option β) (s : h3.sig.den) : Option β := rounds (fun L kx kr s => b3 S (fun x0 x1 x2 x3 x4 => L ((x0, ()), (x1, (x2, (x3, (x4, ())))))) (fun x0 => kx ((x0, ()), ())) (kr ((), ())) s.1.1 s.2.1 s.2.2.1 s.2.2.2.1 s.2.2.2.2.1) kx kr n s
noncomputable def l3 {β : Type} (S : Sl) (n : Nat) (kx : (List (List Int)) → Option β) (kr : Option β) (s0 : (List (List Int))) (s1 : Int) (s2 : (List Int)) (s3 : Int) (s4 : Int) : Option β := r3 S n (fun s => kx s.1.1) (fun s => kr) ((s0, ()), (s1, (s2, (s3, (s4, ())))))
theorem t3 {β : Type} (S : Sl) (n : Nat) (kx : (List (List Int)) → Option β) (kr : Option β) (s0 : (List (List Int))) (s1 : Int) (s2 : (List Int)) (s3 : Int) (s4 : Int) : l3 S (n + 1) kx kr s0 s1 s2 s3 s4 = b3 S (l3 S n kx kr) kx kr s0 s1 s2 s3 s4 := by kernel_rfl
noncomputable def G {β : Type} (S : Sl) (a0 : Int) (a1 : (List Int)) (K : (List (List Int)) → Option β) : Option β := bif ((S.le 0 0) && (S.le 0 (a1.length : Int)) && S.fw (Int.toNat (a1.length : Int))) then (l3 S S.n (fun y1 => K y1) none (List.replicate (Int.toNat 0) ((List.replicate 4 0) : (List Int))) a0 a1 (a1.length : Int) 0) else (none)
noncomputable def o : Orac := ⟨179, sin, sout, fun s K => G sl0 s.2.1 s.2.2.1 (fun x0 => K ((x0, ()), ()))⟩
noncomputable def C : Ctx := ⟨tyT, [impl_rowOf.o], [⟨3, 0, h3, x3, y3, fun s kx kr => r3 sl0 sl0.n kx kr s⟩], 25, 0⟩
theorem ctx : CtxOk Tryz.prog C := ⟨tyOk, all1 impl_rowOf.ok (all0)⟩
theorem e3 (β : Type) (L : h3.sig.den → Option β) (kx : x3.sig.den → Option β) (kr : y3.sig.den → Option β) (s : h3.sig.den) : evalBody C (nthC (loopsOf (bodyC Tryz.f179)) 0) 0 h3 x3 y3 L kx kr s = b3 sl0 (fun x0 x1 x2 x3 x4 => L ((x0, ()), (x1, (x2, (x3, (x4, ())))))) (fun x0 => kx ((x0, ()), ())) (kr ((), ())) s.1.1 s.2.1 s.2.2.1 s.2.2.2.1 s.2.2.2.2.1 := by kernel_rfl
theorem g3 : LS Tryz.prog C ⟨3, 0, h3, x3, y3, fun s kx kr => r3 sl0 sl0.n kx kr s⟩ (loopsOf (bodyC Tryz.f179)) := LS.at (i := 0) (by kernel_rfl) (loop_good mixed ctx (ctx_nat ctx) (N := sl0.n) (fun _ _ _ _ => rfl) e3 (all1 (LS.none (by kernel_rfl)) (all0)))
theorem eG (β : Type) (s : sin.den) (K : sout.den → Option β) : evalFn C Tryz.f179 sin sout s K = o.F s K := by kernel_rfl
theorem ok : OracOk Tryz.prog o := fn_ok mixed Tryz.func179 (by kernel_rfl) ctx (c := bodyC Tryz.f179) (by kernel_rfl) (all1 g3 (all0)) (by kernel_rfl) (by kernel_rfl) (by kernel_rfl) (Nat.le_of_ble_eq_true (by kernel_rfl)) eG (by kernel_rfl) (Nat.le_of_ble_eq_true (by kernel_rfl))
end impl_rowsOf
end Go.Proofs.YtnbighmbgmjbkaaGreat.E
end
section
set_option linter.unusedVariables false
set_option linter.unusedSimpArgs false
namespace Go.Proofs.YtnbighmbgmjbkaaGreat.E
open Go Go.RowKit
set_option linter.unusedVariables false
set_option maxRecDepth 100000
namespace impl_element_inverse
def sin : Sig := ⟨[], [.one (.val I false)]⟩
def sout : Sig := ⟨[], [.one (.val I false)]⟩
def h3 : SS := ⟨[3, 4, 5, 6], ⟨[], [.one (.val I false), .one (.val I false), .one (.val I false), .one (.val I false)]⟩⟩
def x3 : SS := ⟨[5], ⟨[], [.one (.val I false)]⟩⟩
def y3 : SS := ⟨[], ⟨[], []⟩⟩
noncomputable def b3 {β : Type} (S : Sl) (L : Int → Int → Int → Int → Option β) (kx : Int → Option β) (kr : Option β) (s0 : Int) (s1 : Int) (s2 : Int) (s3 : Int) : Option β := bif (!S.eq s1 0) then (bif (!(s1 == 0)) then (L s1 (S.w (s0 - (S.w ((S.w (Int.tdiv s0 s1)) * s1)))) s3 (S.w (s2 - (S.w ((S.w (Int.tdiv s0 s1)) * s3))))) else (none)) else (kx s2)
noncomputable def r3 {β : Type} (S : Sl) (n : Nat) (kx : x3.sig.den → Option β) (kr : y3.sig.den → Option β) (s : h3.sig.den) : Option β := rounds (fun L kx kr s => b3 S (fun x0 x1 x2 x3 => L ((), (x0, (x1, (x2, (x3, ())))))) (fun x0 => kx ((), (x0, ()))) (kr ((), ())) s.2.1 s.2.2.1 s.2.2.2.1 s.2.2.2.2.1) kx kr n s
noncomputable def l3 {β : Type} (S : Sl) (n : Nat) (kx : Int → Option β) (kr : Option β) (s0 : Int) (s1 : Int) (s2 : Int) (s3 : Int) : Option β := r3 S n (fun s => kx s.2.1) (fun s => kr) ((), (s0, (s1, (s2, (s3, ())))))
theorem t3 {β : Type} (S : Sl) (n : Nat) (kx : Int → Option β) (kr : Option β) (s0 : Int) (s1 : Int) (s2 : Int) (s3 : Int) : l3 S (n + 1) kx kr s0 s1 s2 s3 = b3 S (l3 S n kx kr) kx kr s0 s1 s2 s3 := by kernel_rfl
noncomputable def G {β : Type} (S : Sl) (a0 : Int) (K : Int → Option β) : Option β := l3 S S.n (fun y1 => impl_elementOf.G S y1 (fun y2 => K y2)) none 31 a0 0 1
noncomputable def o : Orac := ⟨235, sin, sout, fun s K => G sl0 s.2.1 (fun x0 => K ((), (x0, ())))⟩
noncomputable def C : Ctx := ⟨tyT, [impl_elementOf.o], [⟨3, 0, h3, x3, y3, fun s kx kr => r3 sl0 sl0.n kx kr s⟩], 28, 0⟩
theorem ctx : CtxOk Tryz.prog C := ⟨tyOk, all1 impl_elementOf.ok (all0)⟩
theorem e3 (β : Type) (L : h3.sig.den → Option β) (kx : x3.sig.den → Option β) (kr : y3.sig.den → Option β) (s : h3.sig.den) : evalBody C (nthC (loopsOf (bodyC Tryz.f235)) 0) 0 h3 x3 y3 L kx kr s = b3 sl0 (fun x0 x1 x2 x3 => L ((), (x0, (x1, (x2, (x3, ())))))) (fun x0 => kx ((), (x0, ()))) (kr ((), ())) s.2.1 s.2.2.1 s.2.2.2.1 s.2.2.2.2.1 := by kernel_rfl
theorem g3 : LS Tryz.prog C ⟨3, 0, h3, x3, y3, fun s kx kr => r3 sl0 sl0.n kx kr s⟩ (loopsOf (bodyC Tryz.f235)) := LS.at (i := 0) (by kernel_rfl) (loop_good mixed ctx (ctx_nat ctx) (N := sl0.n) (fun _ _ _ _ => rfl) e3 (all1 (LS.none (by kernel_rfl)) (all0)))
theorem eG (β : Type) (s : sin.den) (K : sout.den → Option β) : evalFn C Tryz.f235 sin sout s K = o.F s K := by kernel_rfl
theorem ok : OracOk Tryz.prog o := fn_ok mixed Tryz.func235 (by kernel_rfl) ctx (c := bodyC Tryz.f235) (by kernel_rfl) (all1 g3 (all0)) (by kernel_rfl) (by kernel_rfl) (by kernel_rfl) (Nat.le_of_ble_eq_true (by kernel_rfl)) eG (by kernel_rfl) (Nat.le_of_ble_eq_true (by kernel_rfl))
end impl_element_inverse
end Go.Proofs.YtnbighmbgmjbkaaGreat.E
end
section
set_option linter.unusedVariables false
set_option linter.unusedSimpArgs false
namespace Go.Proofs.YtnbighmbgmjbkaaGreat.E
open Go Go.RowKit
set_option linter.unusedVariables false
set_option maxRecDepth 100000
namespace impl_vector_lead_1
def sin : Sig := ⟨[], [.one (.val I false)]⟩
def sout : Sig := ⟨[], [.one (.val .bool false)]⟩
noncomputable def G {β : Type} (S : Sl) (a0 : Int) (K : Bool → Option β) : Option β := K (!S.eq a0 0)
noncomputable def o : Orac := ⟨253, sin, sout, fun s K => G sl0 s.2.1 (fun x0 => K ((), (x0, ())))⟩
noncomputable def C : Ctx := ⟨tyT, [], [], 5, 0⟩
theorem ctx : CtxOk Tryz.prog C := ⟨tyOk, all0⟩
theorem eG (β : Type) (s : sin.den) (K : sout.den → Option β) : evalFn C Tryz.f253 sin sout s K = o.F s K := by kernel_rfl
theorem ok : OracOk Tryz.prog o := fn_ok mixed Tryz.func253 (by kernel_rfl) ctx (c := bodyC Tryz.f253) (by kernel_rfl) (all0) (by kernel_rfl) (by kernel_rfl) (by kernel_rfl) (Nat.le_of_ble_eq_true (by kernel_rfl)) eG (by kernel_rfl) (Nat.le_of_ble_eq_true (by kernel_rfl))
end impl_vector_lead_1
end Go.Proofs.YtnbighmbgmjbkaaGreat.E
end
section
set_option linter.unusedVariables false
set_option linter.unusedSimpArgs false
namespace Go.Proofs.YtnbighmbgmjbkaaGreat.E
open Go Go.RowKit
set_option linter.unusedVariables false
set_option maxRecDepth 100000
namespace slices_IndexFunc_Simpl_element_impl_element
def sin : Sig := ⟨[], [.one (.val (.sl I) false), .one (.ref (.fn 253 []))]⟩
def sout : Sig := ⟨[], [.one (.val I false)]⟩
def h2 : SS := ⟨[0, 1, 7, 8], ⟨[], [.one (.val (.sl I) false), .one (.ref (.fn 253 [])), .one (.val I false), .one (.val I false)]⟩⟩
def x2 : SS := ⟨[], ⟨[], []⟩⟩
def y2 : SS := ⟨[4], ⟨[], [.one (.val I false)]⟩⟩
noncomputable def b2 {β : Type} (S : Sl) (L : (List Int) → Int → Int → Option β) (kx : Option β) (kr : Int → Option β) (s0 : (List Int)) (s1 : Int) (s2 : Int) : Option β := bif (S.lt s2 s1) then (bif (S.ir s2 s0.length) then (impl_vector_lead_1.G S (List.getD s0 (Int.toNat s2) 0) (fun y1 => bif y1 then (kr s2) else (L s0 s1 (S.w (s2 + 1))))) else (none)) else (kx)
noncomputable def r2 {β : Type} (S : Sl) (n : Nat) (kx : x2.sig.den → Option β) (kr : y2.sig.den → Option β) (s : h2.sig.den) : Option β := rounds (fun L kx kr s => b2 S (fun x0 x1 x2 => L ((), (x0, (x1, (x2, ()))))) (kx ((), ())) (fun x0 => kr ((), (x0, ()))) s.2.1 s.2.2.1 s.2.2.2.1) kx kr n s
noncomputable def l2 {β : Type} (S : Sl) (n : Nat) (kx : Option β) (kr : Int → Option β) (s0 : (List Int)) (s1 : Int) (s2 : Int) : Option β := r2 S n (fun s => kx) (fun s => kr s.2.1) ((), (s0, (s1, (s2, ()))))
theorem t2 {β : Type} (S : Sl) (n : Nat) (kx : Option β) (kr : Int → Option β) (s0 : (List Int)) (s1 : Int) (s2 : Int) : l2 S (n + 1) kx kr s0 s1 s2 = b2 S (l2 S n kx kr) kx kr s0 s1 s2 := by kernel_rfl
noncomputable def G {β : Type} (S : Sl) (a0 : (List Int)) (K : Int → Option β) : Option β := l2 S S.n (K (-1)) (fun y1 => K y1) a0 (a0.length : Int) 0
noncomputable def o : Orac := ⟨252, sin, sout, fun s K => G sl0 s.2.1 (fun x0 => K ((), (x0, ())))⟩
noncomputable def C : Ctx := ⟨tyT, [impl_vector_lead_1.o], [⟨2, 0, h2, x2, y2, fun s kx kr => r2 sl0 sl0.n kx kr s⟩], 19, 0⟩
theorem ctx : CtxOk Tryz.prog C := ⟨tyOk, all1 impl_vector_lead_1.ok (all0)⟩
theorem e2 (β : Type) (L : h2.sig.den → Option β) (kx : x2.sig.den → Option β) (kr : y2.sig.den → Option β) (s : h2.sig.den) : evalBody C (nthC (loopsOf (bodyC Tryz.f252)) 0) 0 h2 x2 y2 L kx kr s = b2 sl0 (fun x0 x1 x2 => L ((), (x0, (x1, (x2, ()))))) (kx ((), ())) (fun x0 => kr ((), (x0, ()))) s.2.1 s.2.2.1 s.2.2.2.1 := by kernel_rfl
theorem g2 : LS Tryz.prog C ⟨2, 0, h2, x2, y2, fun s kx kr => r2 sl0 sl0.n kx kr s⟩ (loopsOf (bodyC Tryz.f252)) := LS.at (i := 0) (by kernel_rfl) (loop_good mixed ctx (ctx_nat ctx) (N := sl0.n) (fun _ _ _ _ => rfl) e2 (all1 (LS.none (by kernel_rfl)) (all0)))
theorem eG (β : Type) (s : sin.den) (K : sout.den → Option β) : evalFn C Tryz.f252 sin sout s K = o.F s K := by kernel_rfl
theorem ok : OracOk Tryz.prog o := fn_ok mixed Tryz.func252 (by kernel_rfl) ctx (c := bodyC Tryz.f252) (by kernel_rfl) (all1 g2 (all0)) (by kernel_rfl) (by kernel_rfl) (by kernel_rfl) (Nat.le_of_ble_eq_true (by kernel_rfl)) eG (by kernel_rfl) (Nat.le_of_ble_eq_true (by kernel_rfl))
end slices_IndexFunc_Simpl_element_impl_element
end Go.Proofs.YtnbighmbgmjbkaaGreat.E
end
section
set_option linter.unusedVariables false
set_option linter.unusedSimpArgs false
namespace Go.Proofs.YtnbighmbgmjbkaaGreat.E
open Go Go.RowKit
set_option linter.unusedVariables false
set_option maxRecDepth 100000
namespace impl_vector_lead
def sin : Sig := ⟨[], [.one (.val (.arr 4 I) false)]⟩
def sout : Sig := ⟨[], [.one (.val I false)]⟩
noncomputable def G {β : Type} (S : Sl) (a0 : (List Int)) (K : Int → Option β) : Option β := slices_IndexFunc_Simpl_element_impl_element.G S a0 (fun y1 => K y1)
noncomputable def o : Orac := ⟨226, sin, sout, fun s K => G sl0 s.2.1 (fun x0 => K ((), (x0, ())))⟩
noncomputable def C : Ctx := ⟨tyT, [slices_IndexFunc_Simpl_element_impl_element.o], [], 5, 0⟩
theorem ctx : CtxOk Tryz.prog C := ⟨tyOk, all1 slices_IndexFunc_Simpl_element_impl_element.ok (all0)⟩
theorem eG (β : Type) (s : sin.den) (K : sout.den → Option β) : evalFn C Tryz.f226 sin sout s K = o.F s K := by kernel_rfl
theorem ok : OracOk Tryz.prog o := fn_ok mixed Tryz.func226 (by kernel_rfl) ctx (c := bodyC Tryz.f226) (by kernel_rfl) (all0) (by kernel_rfl) (by kernel_rfl) (by kernel_rfl) (Nat.le_of_ble_eq_true (by kernel_rfl)) eG (by kernel_rfl) (Nat.le_of_ble_eq_true (by kernel_rfl))
end impl_vector_lead
end Go.Proofs.YtnbighmbgmjbkaaGreat.E
end
section
set_option linter.unusedVariables false
set_option linter.unusedSimpArgs false
namespace Go.Proofs.YtnbighmbgmjbkaaGreat.E
open Go Go.RowKit
set_option linter.unusedVariables false
set_option maxRecDepth 100000
namespace impl_vector_times
def sin : Sig := ⟨[], [.one (.val (.arr 4 I) false), .one (.val I false)]⟩
def sout : Sig := ⟨[], [.agg [.val (.arr 4 I) false]]⟩
def h2 : SS := ⟨[1, 2, 4, 6], ⟨[.box [.val (.arr 4 I) false], .box [.val (.arr 4 I) false]], [.one (.val I false), .one (.ref (.ptr 0)), .one (.ref (.ptr 1)), .one (.val I false)]⟩⟩
def x2 : SS := ⟨[2, 4], ⟨[.box [.val (.arr 4 I) false], .box [.val (.arr 4 I) false]], [.one (.ref (.ptr 0)), .one (.ref (.ptr 1))]⟩⟩
def y2 : SS := ⟨[], ⟨[], []⟩⟩
noncomputable def b2 {β : Type} (S : Sl) (L : (List Int) → (List Int) → Int → Int → Option β) (kx : (List Int) → (List Int) → Option β) (kr : Option β) (s0 : (List Int)) (s1 : (List Int)) (s2 : Int) (s3 : Int) : Option β := bif (S.lt s3 4) then (bif (S.ir s3 4) then (impl_element_times.G S (List.getD s0 (Int.toNat s3) 0) s2 (fun y1 => bif (S.ir s3 4) then (L (List.set s0 (Int.toNat s3) y1) s1 s2 (S.w (s3 + 1))) else (none))) else (none)) else (kx s0 s1)
noncomputable def r2 {β : Type} (S : Sl) (n : Nat) (kx : x2.sig.den → Option β) (kr : y2.sig.den → Option β) (s : h2.sig.den) : Option β := rounds (fun L kx kr s => b2 S (fun x0 x1 x2 x3 => L (((x0, ()), ((x1, ()), ())), (x2, (x3, ())))) (fun x0 x1 => kx (((x0, ()), ((x1, ()), ())), ())) (kr ((), ())) s.1.1.1 s.1.2.1.1 s.2.1 s.2.2.1) kx kr n s
noncomputable def l2 {β : Type} (S : Sl) (n : Nat) (kx : (List Int) → (List Int) → Option β) (kr : Option β) (s0 : (List Int)) (s1 : (List Int)) (s2 : Int) (s3 : Int) : Option β := r2 S n (fun s => kx s.1.1.1 s.1.2.1.1) (fun s => kr) (((s0, ()), ((s1, ()), ())), (s2, (s3, ())))
theorem t2 {β : Type} (S : Sl) (n : Nat) (kx : (List Int) → (List Int) → Option β) (kr : Option β) (s0 : (List Int)) (s1 : (List Int)) (s2 : Int) (s3 : Int) : l2 S (n + 1) kx kr s0 s1 s2 s3 = b2 S (l2 S n kx kr) kx kr s0 s1 s2 s3 := by kernel_rfl
noncomputable def G {β : Type} (S : Sl) (a0 : (List Int)) (a1 : Int) (K : (List Int) → Option β) : Option β := l2 S S.n (fun y1 y2 => K y1) none a0 (List.replicate 4 0) a1 0
noncomputable def o : Orac := ⟨183, sin, sout, fun s K => G sl0 s.2.1 s.2.2.1 (fun x0 => K ((), ((x0, ()), ())))⟩
noncomputable def C : Ctx := ⟨tyT, [impl_element_times.o], [⟨2, 0, h2, x2, y2, fun s kx kr => r2 sl0 sl0.n kx kr s⟩], 18, 0⟩
theorem ctx : CtxOk Tryz.prog C := ⟨tyOk, all1 impl_element_times.ok (all0)⟩
theorem e2 (β : Type) (L : h2.sig.den → Option β) (kx : x2.sig.den → Option β) (kr : y2.sig.den → Option β) (s : h2.sig.den) : evalBody C (nthC (loopsOf (bodyC Tryz.f183)) 0) 0 h2 x2 y2 L kx kr s = b2 sl0 (fun x0 x1 x2 x3 => L (((x0, ()), ((x1, ()), ())), (x2, (x3, ())))) (fun x0 x1 => kx (((x0, ()), ((x1, ()), ())), ())) (kr ((), ())) s.1.1.1 s.1.2.1.1 s.2.1 s.2.2.1 := by kernel_rfl
theorem g2 : LS Tryz.prog C ⟨2, 0, h2, x2, y2, fun s kx kr => r2 sl0 sl0.n kx kr s⟩ (loopsOf (bodyC Tryz.f183)) := LS.at (i := 0) (by kernel_rfl) (loop_good mixed ctx (ctx_nat ctx) (N := sl0.n) (fun _ _ _ _ => rfl) e2 (all1 (LS.none (by kernel_rfl)) (all0)))
theorem eG (β : Type) (s : sin.den) (K : sout.den → Option β) : evalFn C Tryz.f183 sin sout s K = o.F s K := by kernel_rfl
theorem ok : OracOk Tryz.prog o := fn_ok mixed Tryz.func183 (by kernel_rfl) ctx (c := bodyC Tryz.f183) (by kernel_rfl) (all1 g2 (all0)) (by kernel_rfl) (by kernel_rfl) (by kernel_rfl) (Nat.le_of_ble_eq_true (by kernel_rfl)) eG (by kernel_rfl) (Nat.le_of_ble_eq_true (by kernel_rfl))
end impl_vector_times
end Go.Proofs.YtnbighmbgmjbkaaGreat.E
end
section
set_option linter.unusedVariables false
set_option linter.unusedSimpArgs false
namespace Go.Proofs.YtnbighmbgmjbkaaGreat.E
open Go Go.RowKit
set_option linter.unusedVariables false
set_option maxRecDepth 100000
namespace impl_vector_minus
def sin : Sig := ⟨[], [.one (.val (.arr 4 I) false), .one (.val (.arr 4 I) false)]⟩
def sout : Sig := ⟨[], [.agg [.val (.arr 4 I) false]]⟩
noncomputable def G {β : Type} (S : Sl) (a0 : (List Int)) (a1 : (List Int)) (K : (List Int) → Option β) : Option β := impl_elementOf.G S (-1) (fun y1 => impl_vector_times.G S a1 y1 (fun y2 => impl_vector_plus.G S a0 y2 (fun y3 => K y3)))
noncomputable def o : Orac := ⟨227, sin, sout, fun s K => G sl0 s.2.1 s.2.2.1 (fun x0 => K ((), ((x0, ()), ())))⟩
noncomputable def C : Ctx := ⟨tyT, [impl_elementOf.o, impl_vector_plus.o, impl_vector_times.o], [], 10, 0⟩
theorem ctx : CtxOk Tryz.prog C := ⟨tyOk, all1 impl_elementOf.ok (all1 impl_vector_plus.ok (all1 impl_vector_times.ok (all0)))⟩
theorem eG (β : Type) (s : sin.den) (K : sout.den → Option β) : evalFn C Tryz.f227 sin sout s K = o.F s K := by kernel_rfl
theorem ok : OracOk Tryz.prog o := fn_ok mixed Tryz.func227 (by kernel_rfl) ctx (c := bodyC Tryz.f227) (by kernel_rfl) (all0) (by kernel_rfl) (by kernel_rfl) (by kernel_rfl) (Nat.le_of_ble_eq_true (by kernel_rfl)) eG (by kernel_rfl) (Nat.le_of_ble_eq_true (by kernel_rfl))
end impl_vector_minus
end Go.Proofs.YtnbighmbgmjbkaaGreat.E
end
section
set_option linter.unusedVariables false
set_option linter.unusedSimpArgs false
namespace Go.Proofs.YtnbighmbgmjbkaaGreat.E
open Go Go.RowKit
set_option linter.unusedVariables false
set_option maxRecDepth 100000
namespace impl_span_less__
def sin : Sig := ⟨[.box [.ref (.own 1), .ref (.own 2)], .buf (.pair (.arr 4 I) (.pair (.arr 8 I) .unit)) false, .buf I false], [.one (.ref (.ptr 0)), .agg [.val (.arr 4 I) false, .val (.arr 8 I) false]]⟩
def sout : Sig := ⟨[.box [.ref (.own 1), .ref (.own 2)], .buf (.pair (.arr 4 I) (.pair (.arr 8 I) .unit)) false, .buf I false], [.agg [.val (.arr 4 I) false, .val (.arr 8 I) false]]⟩
def h7 : SS := ⟨[3, 4, 6, 7, 12, 13, 14, 32], ⟨[.box [.ref (.own 1), .ref (.own 2)], .buf (.pair (.arr 4 I) (.pair (.arr 8 I) .unit)) false, .buf I false, .box [.val (.arr 4 I) false, .val (.arr 8 I) false], .box [.val (.arr 4 I) false, .val (.arr 8 I) false], .box [.val (.arr 4 I) false, .val (.arr 8 I) false]], [.one (.ref (.ptr 3)), .one (.ref (.ptr 4)), .one (.ref (.ptr 5)), .one (.val I false), .one (.ref (.own 1)), .one (.val I false), .one (.val I false), .one (.val I false)]⟩⟩
def x7 : SS := ⟨[3, 4, 12, 13, 14], ⟨[.box [.ref (.own 1), .ref (.own 2)], .buf (.pair (.arr 4 I) (.pair (.arr 8 I) .unit)) false, .buf I false, .box [.val (.arr 4 I) false, .val (.arr 8 I) false], .box [.val (.arr 4 I) false, .val (.arr 8 I) false]], [.one (.ref (.ptr 3)), .one (.ref (.ptr 4)), .one (.ref (.own 1)), .one (.val I false), .one (.val I false)]⟩⟩
def y7 : SS := ⟨[], ⟨[], []⟩⟩
noncomputable def b7 {β : Type} (S : Sl) (L : (List ((List Int) × ((List Int) × Unit))) → (List Int) → (List Int) → (List Int) → (List Int) → (List Int) → (List Int) → (List Int) → Int → Int → Int → Int → Option β) (kx : (List ((List Int) × ((List Int) × Unit))) → (List Int) → (List Int) → (List Int) → (List Int) → (List Int) → Int → Int → Option β) (kr : Option β) (s0 : (List ((List Int) × ((List Int) × Unit)))) (s1 : (List Int)) (s2 : (List Int)) (s3 : (List Int)) (s4 : (List Int)) (s5 : (List Int)) (s6 : (List Int)) (s7 : (List Int)) (s8 : Int) (s9 : Int) (s10 : Int) (s11 : Int) : Option β := bif (S.lt s11 8) then (bif (S.ir s11 8) then (bif (S.ir s11 8) then (impl_element_times.G S (List.getD s7 (Int.toNat s11) 0) s8 (fun y1 => impl_element_minus.G S (List.getD s3 (Int.toNat s11) 0) y1 (fun y2 => bif (S.ir s11 8) then (L s0 s1 s2 (List.set s3 (Int.toNat s11) y2) s4 s5 s6 s7 s8 s9 s10 (S.w (s11 + 1))) else (none)))) else (none)) else (none)) else (kx s0 s1 s2 s3 s4 s5 s9 s10)
noncomputable def r7 {β : Type} (S : Sl) (n : Nat) (kx : x7.sig.den → Option β) (kr : y7.sig.den → Option β) (s : h7.sig.den) : Option β := rounds (fun L kx kr s => b7 S (fun x0 x1 x2 x3 x4 x5 x6 x7 x8 x9 x10 x11 => L (((), (x0, (x1, ((x2, (x3, ())), ((x4, (x5, ())), ((x6, (x7, ())), ())))))), (x8, (x9, (x10, (x11, ())))))) (fun x0 x1 x2 x3 x4 x5 x6 x7 => kx (((), (x0, (x1, ((x2, (x3, ())), ((x4, (x5, ())), ()))))), (x6, (x7, ())))) (kr ((), ())) s.1.2.1 s.1.2.2.1 s.1.2.2.2.1.1 s.1.2.2.2.1.2.1 s.1.2.2.2.2.1.1 s.1.2.2.2.2.1.2.1 s.1.2.2.2.2.2.1.1 s.1.2.2.2.2.2.1.2.1 s.2.1 s.2.2.1 s.2.2.2.1 s.2.2.2.2.1) kx kr n s
noncomputable def l7 {β : Type} (S : Sl) (n : Nat) (kx : (List ((List Int) × ((List Int) × Unit))) → (List Int) → (List Int) → (List Int) → (List Int) → (List Int) → Int → Int → Option β) (kr : Option β) (s0 : (List ((List Int) × ((List Int) × Unit)))) (s1 : (List Int)) (s2 : (List Int)) (s3 : (List Int)) (s4 : (List Int)) (s5 : (List Int)) (s6 : (List Int)) (s7 : (List Int)) (s8 : Int) (s9 : Int) (s10 : Int) (s11 : Int) : Option β := r7 S n (fun s => kx s.1.2.1 s.1.2.2.1 s.1.2.2.2.1.1 s.1.2.2.2.1.2.1 s.1.2.2.2.2.1.1 s.1.2.2.2.2.1.2.1 s.2.1 s.2.2.1) (fun s => kr) (((), (s0, (s1, ((s2, (s3, ())), ((s4, (s5, ())), ((s6, (s7, ())), ())))))), (s8, (s9, (s10, (s11, ())))))
theorem t7 {β : Type} (S : Sl) (n : Nat) (kx : (List ((List Int) × ((List Int) × Unit))) → (List Int) → (List Int) → (List Int) → (List Int) → (List Int) → Int → Int → Option β) (kr : Option β) (s0 : (List ((List Int) × ((List Int) × Unit)))) (s1 : (List Int)) (s2 : (List Int)) (s3 : (List Int)) (s4 : (List Int)) (s5 : (List Int)) (s6 : (List Int)) (s7 : (List Int)) (s8 : Int) (s9 : Int) (s10 : Int) (s11 : Int) : l7 S (n + 1) kx kr s0 s1 s2 s3 s4 s5 s6 s7 s8 s9 s10 s11 = b7 S (l7 S n kx kr) kx kr s0 s1 s2 s3 s4 s5 s6 s7 s8 s9 s10 s11 := by kernel_rfl
def h2 : SS := ⟨[3, 4, 12, 13, 14], ⟨[.box [.ref (.own 1), .ref (.own 2)], .buf (.pair (.arr 4 I) (.pair (.arr 8 I) .unit)) false, .buf I false, .box [.val (.arr 4 I) false, .val (.arr 8 I) false], .box [.val (.arr 4 I) false, .val (.arr 8 I) false]], [.one (.ref (.ptr 3)), .one (.ref (.ptr 4)), .one (.ref (.own 1)), .one (.val I false), .one (.val I false)]⟩⟩
def x2 : SS := ⟨[3, 4], ⟨[.box [.ref (.own 1), .ref (.own 2)], .buf (.pair (.arr 4 I) (.pair (.arr 8 I) .unit)) false, .buf I false, .box [.val (.arr 4 I) false, .val (.arr 8 I) false], .box [.val (.arr 4 I) false, .val (.arr 8 I) false]], [.one (.ref (.ptr 3)), .one (.ref (.ptr 4))]⟩⟩
def y2 : SS := ⟨[], ⟨[], []⟩⟩
noncomputable def b2 {β : Type} (S : Sl) (L : (List ((List Int) × ((List Int) × Unit))) → (List Int) → (List Int) → (List Int) → (List Int) → (List Int) → Int → Int → Option β) (kx : (List ((List Int) × ((List Int) × Unit))) → (List Int) → (List Int) → (List Int) → (List Int) → (List Int) → Option β) (kr : Option β) (s0 : (List ((List Int) × ((List Int) × Unit)))) (s1 : (List Int)) (s2 : (List Int)) (s3 : (List Int)) (s4 : (List Int)) (s5 : (List Int)) (s6 : Int) (s7 : Int) : Option β := bif (S.lt s7 s6) then (bif (S.ir s7 s0.length) then (impl_vector_lead.G S ((List.getD s0 (Int.toNat s7) ((List.replicate 4 0), ((List.replicate 8 0), ()))).1) (fun y1 => bif (S.ir y1 4) then (impl_vector_times.G S ((List.getD s0 (Int.toNat s7) ((List.replicate 4 0), ((List.replicate 8 0), ()))).1) (List.getD s2 (Int.toNat y1) 0) (fun y2 => impl_vector_minus.G S s2 y2 (fun y3 => l7 S S.n (fun y4 y5 y6 y7 y8 y9 y10 y11 => L y4 y5 y6 y7 y8 y9 y10 (S.w (y11 + 1))) none s0 s1 y3 s3 s4 s5 ((List.getD s0 (Int.toNat s7) ((List.replicate 4 0), ((List.replicate 8 0), ()))).1) ((List.getD s0 (Int.toNat s7) ((List.replicate 4 0), ((List.replicate 8 0), ()))).2.1) (List.getD s2 (Int.toNat y1) 0) s6 s7 0))) else (none))) else (none)) else (kx s0 s1 s2 s3 s4 s5)
noncomputable def r2 {β : Type} (S : Sl) (n : Nat) (kx : x2.sig.den → Option β) (kr : y2.sig.den → Option β) (s : h2.sig.den) : Option β := rounds (fun L kx kr s => b2 S (fun x0 x1 x2 x3 x4 x5 x6 x7 => L (((), (x0, (x1, ((x2, (x3, ())), ((x4, (x5, ())), ()))))), (x6, (x7, ())))) (fun x0 x1 x2 x3 x4 x5 => kx (((), (x0, (x1, ((x2, (x3, ())), ((x4, (x5, ())), ()))))), ())) (kr ((), ())) s.1.2.1 s.1.2.2.1 s.1.2.2.2.1.1 s.1.2.2.2.1.2.1 s.1.2.2.2.2.1.1 s.1.2.2.2.2.1.2.1 s.2.1 s.2.2.1) kx kr n s
noncomputable def l2 {β : Type} (S : Sl) (n : Nat) (kx : (List ((List Int) × ((List Int) × Unit))) → (List Int) → (List Int) → (List Int) → (List Int) → (List Int) → Option β) (kr : Option β) (s0 : (List ((List Int) × ((List Int) × Unit)))) (s1 : (List Int)) (s2 : (List Int)) (s3 : (List Int)) (s4 : (List Int)) (s5 : (List Int)) (s6 : Int) (s7 : Int) : Option β := r2 S n (fun s => kx s.1.2.1 s.1.2.2.1 s.1.2.2.2.1.1 s.1.2.2.2.1.2.1 s.1.2.2.2.2.1.1 s.1.2.2.2.2.1.2.1) (fun s => kr) (((), (s0, (s1, ((s2, (s3, ())), ((s4, (s5, ())), ()))))), (s6, (s7, ())))
theorem t2 {β : Type} (S : Sl) (n : Nat) (kx : (List ((List Int) × ((List Int) × Unit))) → (List Int) → (List Int) → (List Int) → (List Int) → (List Int) → Option β) (kr : Option β) (s0 : (List ((List Int) × ((List Int) × Unit)))) (s1 : (List Int)) (s2 : (List Int)) (s3 : (List Int)) (s4 : (List Int)) (s5 : (List Int)) (s6 : Int) (s7 : Int) : l2 S (n + 1) kx kr s0 s1 s2 s3 s4 s5 s6 s7 = b2 S (l2 S n kx kr) kx kr s0 s1 s2 s3 s4 s5 s6 s7 := by kernel_rfl
noncomputable def G {β : Type} (S : Sl) (a0 : (List ((List Int) × ((List Int) × Unit)))) (a1 : (List Int)) (a2 : (List Int)) (a3 : (List Int)) (K : (List ((List Int) × ((List Int) × Unit))) → (List Int) → (List Int) → (List Int) → Option β) : Option β := l2 S S.n (fun y1 y2 y3 y4 y5 y6 => K y1 y2 y3 y4) none a0 a1 a2 a3 (List.replicate 4 0) (List.replicate 8 0) (a0.length : Int) 0
noncomputable def o : Orac := ⟨234, sin, sout, fun s K => G sl0 s.1.2.1 s.1.2.2.1 s.2.1.1 s.2.1.2.1 (fun x0 x1 x2 x3 => K (((), (x0, (x1, ()))), ((x2, (x3, ())), ())))⟩
noncomputable def C : Ctx := ⟨tyT, [impl_element_minus.o, impl_element_times.o, impl_vector_lead.o, impl_vector_minus.o, impl_vector_times.o], [⟨2, 0, h2, x2, y2, fun s kx kr => r2 sl0 sl0.n kx kr s⟩, ⟨7, 2, h7, x7, y7, fun s kx kr => r7 sl0 sl0.n kx kr s⟩], 52, 3⟩
theorem ctx : CtxOk Tryz.prog C := ⟨tyOk, all1 impl_element_minus.ok (all1 impl_element_times.ok (all1 impl_vector_lead.ok (all1 impl_vector_minus.ok (all1 impl_vector_times.ok (all0)))))⟩
theorem e7 (β : Type) (L : h7.sig.den → Option β) (kx : x7.sig.den → Option β) (kr : y7.sig.den → Option β) (s : h7.sig.den) : evalBody C (nthC (loopsOf (bodyC Tryz.f234)) 1) 2 h7 x7 y7 L kx kr s = b7 sl0 (fun x0 x1 x2 x3 x4 x5 x6 x7 x8 x9 x10 x11 => L (((), (x0, (x1, ((x2, (x3, ())), ((x4, (x5, ())), ((x6, (x7, ())), ())))))), (x8, (x9, (x10, (x11, ())))))) (fun x0 x1 x2 x3 x4 x5 x6 x7 => kx (((), (x0, (x1, ((x2, (x3, ())), ((x4, (x5, ())), ()))))), (x6, (x7, ())))) (kr ((), ())) s.1.2.1 s.1.2.2.1 s.1.2.2.2.1.1 s.1.2.2.2.1.2.1 s.1.2.2.2.2.1.1 s.1.2.2.2.2.1.2.1 s.1.2.2.2.2.2.1.1 s.1.2.2.2.2.2.1.2.1 s.2.1 s.2.2.1 s.2.2.2.1 s.2.2.2.2.1 := by kernel_rfl
theorem g7 : LS Tryz.prog C ⟨7, 2, h7, x7, y7, fun s kx kr => r7 sl0 sl0.n kx kr s⟩ (loopsOf (bodyC Tryz.f234)) := LS.at (i := 1) (by kernel_rfl) (loop_good mixed ctx (ctx_nat ctx) (N := sl0.n) (fun _ _ _ _ => rfl) e7 (all1 (LS.none (by kernel_rfl)) (all1 (LS.none (by kernel_rfl)) (all0))))
theorem e2 (β : Type) (L : h2.sig.den → Option β) (kx : x2.sig.den → Option β) (kr : y2.sig.den → Option β) (s : h2.sig.den) : evalBody C (nthC (loopsOf (bodyC Tryz.f234)) 0) 0 h2 x2 y2 L kx kr s = b2 sl0 (fun x0 x1 x2 x3 x4 x5 x6 x7 => L (((), (x0, (x1, ((x2, (x3, ())), ((x4, (x5, ())), ()))))), (x6, (x7, ())))) (fun x0 x1 x2 x3 x4 x5 => kx (((), (x0, (x1, ((x2, (x3, ())), ((x4, (x5, ())), ()))))), ())) (kr ((), ())) s.1.2.1 s.1.2.2.1 s.1.2.2.2.1.1 s.1.2.2.2.1.2.1 s.1.2.2.2.2.1.1 s.1.2.2.2.2.1.2.1 s.2.1 s.2.2.1 := by kernel_rfl
theorem g2 : LS Tryz.prog C ⟨2, 0, h2, x2, y2, fun s kx kr => r2 sl0 sl0.n kx kr s⟩ (loopsOf (bodyC Tryz.f234)) := LS.at (i := 0) (by kernel_rfl) (loop_good mixed ctx (ctx_nat ctx) (N := sl0.n) (fun _ _ _ _ => rfl) e2 (all1 (LS.none (by kernel_rfl)) (all1 ((g7).sub (nthC_mem (by kernel_rfl))) (all0))))
theorem eG (β : Type) (s : sin.den) (K : sout.den → Option β) : evalFn C Tryz.f234 sin sout s K = o.F s K := by kernel_rfl
theorem ok : OracOk Tryz.prog o := fn_ok mixed Tryz.func234 (by kernel_rfl) ctx (c := bodyC Tryz.f234) (by kernel_rfl) (all1 g2 (all1 g7 (all0))) (by kernel_rfl) (by kernel_rfl) (by kernel_rfl) (Nat.le_of_ble_eq_true (by kernel_rfl)) eG (by kernel_rfl) (Nat.le_of_ble_eq_true (by kernel_rfl))
end impl_span_less__
end Go.Proofs.YtnbighmbgmjbkaaGreat.E
end
section
set_option linter.unusedVariables false
set_option linter.unusedSimpArgs false
namespace Go.Proofs.YtnbighmbgmjbkaaGreat.E
open Go Go.RowKit
set_option linter.unusedVariables false
set_option maxRecDepth 100000
namespace impl_spanOf
def sin : Sig := ⟨[], [.one (.val (.sl (.arr 4 I)) false)]⟩
def sout : Sig := ⟨[.box [.ref (.own 1), .ref (.own 2)], .buf (.pair (.arr 4 I) (.pair (.arr 8 I) .unit)) false, .buf I false], [.one (.ref (.ptr 0))]⟩
def h13 : SS := ⟨[3, 4, 6, 8, 12, 13, 14, 42], ⟨[.box [.ref (.own 2), .ref (.own 3)], .box [.val (.arr 4 I) false, .val (.arr 8 I) false], .buf (.pair (.arr 4 I) (.pair (.arr 8 I) .unit)) false, .buf I false], [.one (.ref (.ptr 0)), .one (.val I false), .one (.ref (.ptr 1)), .one (.val I false), .one (.val (.sl (.arr 4 I)) false), .one (.val I false), .one (.val I false), .one (.val I false)]⟩⟩
def x13 : SS := ⟨[3, 4, 6, 12, 13, 14], ⟨[.box [.ref (.own 2), .ref (.own 3)], .box [.val (.arr 4 I) false, .val (.arr 8 I) false], .buf (.pair (.arr 4 I) (.pair (.arr 8 I) .unit)) false, .buf I false], [.one (.ref (.ptr 0)), .one (.val I false), .one (.ref (.ptr 1)), .one (.val (.sl (.arr 4 I)) false), .one (.val I false), .one (.val I false)]⟩⟩
def y13 : SS := ⟨[], ⟨[], []⟩⟩
noncomputable def b13 {β : Type} (S : Sl) (L : (List Int) → (List Int) → (List ((List Int) × ((List Int) × Unit))) → (List Int) → Int → Int → (List (List Int)) → Int → Int → Int → Option β) (kx : (List Int) → (List Int) → (List ((List Int) × ((List Int) × Unit))) → (List Int) → Int → (List (List Int)) → Int → Int → Option β) (kr : Option β) (s0 : (List Int)) (s1 : (List Int)) (s2 : (List ((List Int) × ((List Int) × Unit)))) (s3 : (List Int)) (s4 : Int) (s5 : Int) (s6 : (List (List Int))) (s7 : Int) (s8 : Int) (s9 : Int) : Option β := bif (S.lt s9 8) then (bif (S.ir s9 8) then (impl_element_times.G S (List.getD s1 (Int.toNat s9) 0) s5 (fun y1 => bif (S.ir s9 8) then (L s0 (List.set s1 (Int.toNat s9) y1) s2 s3 s4 s5 s6 s7 s8 (S.w (s9 + 1))) else (none))) else (none)) else (kx s0 s1 s2 s3 s4 s6 s7 s8)
noncomputable def r13 {β : Type} (S : Sl) (n : Nat) (kx : x13.sig.den → Option β) (kr : y13.sig.den → Option β) (s : h13.sig.den) : Option β := rounds (fun L kx kr s => b13 S (fun x0 x1 x2 x3 x4 x5 x6 x7 x8 x9 => L (((), ((x0, (x1, ())), (x2, (x3, ())))), (x4, (x5, (x6, (x7, (x8, (x9, ())))))))) (fun x0 x1 x2 x3 x4 x5 x6 x7 => kx (((), ((x0, (x1, ())), (x2, (x3, ())))), (x4, (x5, (x6, (x7, ())))))) (kr ((), ())) s.1.2.1.1 s.1.2.1.2.1 s.1.2.2.1 s.1.2.2.2.1 s.2.1 s.2.2.1 s.2.2.2.1 s.2.2.2.2.1 s.2.2.2.2.2.1 s.2.2.2.2.2.2.1) kx kr n s
noncomputable def l13 {β : Type} (S : Sl) (n : Nat) (kx : (List Int) → (List Int) → (List ((List Int) × ((List Int) × Unit))) → (List Int) → Int → (List (List Int)) → Int → Int → Option β) (kr : Option β) (s0 : (List Int)) (s1 : (List Int)) (s2 : (List ((List Int) × ((List Int) × Unit)))) (s3 : (List Int)) (s4 : Int) (s5 : Int) (s6 : (List (List Int))) (s7 : Int) (s8 : Int) (s9 : Int) : Option β := r13 S n (fun s => kx s.1.2.1.1 s.1.2.1.2.1 s.1.2.2.1 s.1.2.2.2.1 s.2.1 s.2.2.1 s.2.2.2.1 s.2.2.2.2.1) (fun s => kr) (((), ((s0, (s1, ())), (s2, (s3, ())))), (s4, (s5, (s6, (s7, (s8, (s9, ())))))))
theorem t13 {β : Type} (S : Sl) (n : Nat) (kx : (List Int) → (List Int) → (List ((List Int) × ((List Int) × Unit))) → (List Int) → Int → (List (List Int)) → Int → Int → Option β) (kr : Option β) (s0 : (List Int)) (s1 : (List Int)) (s2 : (List ((List Int) × ((List Int) × Unit)))) (s3 : (List Int)) (s4 : Int) (s5 : Int) (s6 : (List (List Int))) (s7 : Int) (s8 : Int) (s9 : Int) : l13 S (n + 1) kx kr s0 s1 s2 s3 s4 s5 s6 s7 s8 s9 = b13 S (l13 S n kx kr) kx kr s0 s1 s2 s3 s4 s5 s6 s7 s8 s9 := by kernel_rfl
def h3 : SS := ⟨[3, 12, 13, 14], ⟨[.box [.ref (.own 1), .ref (.own 2)], .buf (.pair (.arr 4 I) (.pair (.arr 8 I) .unit)) false, .buf I false], [.one (.ref (.ptr 0)), .one (.val (.sl (.arr 4 I)) false), .one (.val I false), .one (.val I false)]⟩⟩
def x3 : SS := ⟨[3], ⟨[.box [.ref (.own 1), .ref (.own 2)], .buf (.pair (.arr 4 I) (.pair (.arr 8 I) .unit)) false, .buf I false], [.one (.ref (.ptr 0))]⟩⟩
def y3 : SS := ⟨[], ⟨[], []⟩⟩
noncomputable def b3 {β : Type} (S : Sl) (L : (List ((List Int) × ((List Int) × Unit))) → (List Int) → (List (List Int)) → Int → Int → Option β) (kx : (List ((List Int) × ((List Int) × Unit))) → (List Int) → Option β) (kr : Option β) (s0 : (List ((List Int) × ((List Int) × Unit)))) (s1 : (List Int)) (s2 : (List (List Int))) (s3 : Int) (s4 : Int) : Option β := bif (S.lt s4 s3) then (bif (S.ir s4 s2.length) then (bif (S.ir s4 8) then (impl_span_less__.G S s0 s1 (List.getD s2 (Int.toNat s4) (List.replicate 4 0)) (List.set (List.replicate 8 0) (Int.toNat s4) 1) (fun y1 y2 y3 y4 => impl_vector_lead.G S y3 (fun y5 => bif (S.lt y5 0) then (L y1 y2 s2 s3 (S.w (s4 + 1))) else (bif (S.ir y5 4) then (impl_element_inverse.G S (List.getD y3 (Int.toNat y5) 0) (fun y6 => impl_vector_times.G S y3 y6 (fun y7 => l13 S S.n (fun y8 y9 y10 y11 y12 y13 y14 y15 => bif (S.fw (y10 ++ [(y8, (y9, ()))]).length) then (bif (S.fw (y11 ++ [y12]).length) then (L (y10 ++ [(y8, (y9, ()))]) (y11 ++ [y12]) y13 y14 (S.w (y15 + 1))) else (none)) else (none)) none y7 y4 y1 y2 s4 y6 s2 s3 s4 0))) else (none))))) else (none)) else (none)) else (kx s0 s1)
noncomputable def r3 {β : Type} (S : Sl) (n : Nat) (kx : x3.sig.den → Option β) (kr : y3.sig.den → Option β) (s : h3.sig.den) : Option β := rounds (fun L kx kr s => b3 S (fun x0 x1 x2 x3 x4 => L (((), (x0, (x1, ()))), (x2, (x3, (x4, ()))))) (fun x0 x1 => kx (((), (x0, (x1, ()))), ())) (kr ((), ())) s.1.2.1 s.1.2.2.1 s.2.1 s.2.2.1 s.2.2.2.1) kx kr n s
noncomputable def l3 {β : Type} (S : Sl) (n : Nat) (kx : (List ((List Int) × ((List Int) × Unit))) → (List Int) → Option β) (kr : Option β) (s0 : (List ((List Int) × ((List Int) × Unit)))) (s1 : (List Int)) (s2 : (List (List Int))) (s3 : Int) (s4 : Int) : Option β := r3 S n (fun s => kx s.1.2.1 s.1.2.2.1) (fun s => kr) (((), (s0, (s1, ()))), (s2, (s3, (s4, ()))))
theorem t3 {β : Type} (S : Sl) (n : Nat) (kx : (List ((List Int) × ((List Int) × Unit))) → (List Int) → Option β) (kr : Option β) (s0 : (List ((List Int) × ((List Int) × Unit)))) (s1 : (List Int)) (s2 : (List (List Int))) (s3 : Int) (s4 : Int) : l3 S (n + 1) kx kr s0 s1 s2 s3 s4 = b3 S (l3 S n kx kr) kx kr s0 s1 s2 s3 s4 := by kernel_rfl
noncomputable def G {β : Type} (S : Sl) (a0 : (List (List Int))) (K : (List ((List Int) × ((List Int) × Unit))) → (List Int) → Option β) : Option β := l3 S S.n (fun y1 y2 => K y1 y2) none [] [] a0 (a0.length : Int) 0
noncomputable def o : Orac := ⟨213, sin, sout, fun s K => G sl0 s.2.1 (fun x0 x1 => K (((), (x0, (x1, ()))), ()))⟩
noncomputable def C : Ctx := ⟨tyT, [impl_element_inverse.o, impl_element_times.o, impl_span_less__.o, impl_vector_lead.o, impl_vector_times.o], [⟨3, 0, h3, x3, y3, fun s kx kr => r3 sl0 sl0.n kx kr s⟩, ⟨13, 2, h13, x13, y13, fun s kx kr => r13 sl0 sl0.n kx kr s⟩], 77, 0⟩
theorem ctx : CtxOk Tryz.prog C := ⟨tyOk, all1 impl_element_inverse.ok (all1 impl_element_times.ok (all1 impl_span_less__.ok (all1 impl_vector_lead.ok (all1 impl_vector_times.ok (all0)))))⟩
theorem e13 (β : Type) (L : h13.sig.den → Option β) (kx : x13.sig.den → Option β) (kr : y13.sig.den → Option β) (s : h13.sig.den) : evalBody C (nthC (loopsOf (bodyC Tryz.f213)) 1) 2 h13 x13 y13 L kx kr s = b13 sl0 (fun x0 x1 x2 x3 x4 x5 x6 x7 x8 x9 => L (((), ((x0, (x1, ())), (x2, (x3, ())))), (x4, (x5, (x6, (x7, (x8, (x9, ())))))))) (fun x0 x1 x2 x3 x4 x5 x6 x7 => kx (((), ((x0, (x1, ())), (x2, (x3, ())))), (x4, (x5, (x6, (x7, ())))))) (kr ((), ())) s.1.2.1.1 s.1.2.1.2.1 s.1.2.2.1 s.1.2.2.2.1 s.2.1 s.2.2.1 s.2.2.2.1 s.2.2.2.2.1 s.2.2.2.2.2.1 s.2.2.2.2.2.2.1 := by kernel_rfl
theorem g13 : LS Tryz.prog C ⟨13, 2, h13, x13, y13, fun s kx kr => r13 sl0 sl0.n kx kr s⟩ (loopsOf (bodyC Tryz.f213)) := LS.at (i := 1) (by kernel_rfl) (loop_good mixed ctx (ctx_nat ctx) (N := sl0.n) (fun _ _ _ _ => rfl) e13 (all1 (LS.none (by kernel_rfl)) (all1 (LS.none (by kernel_rfl)) (all0))))
theorem e3 (β : Type) (L : h3.sig.den → Option β) (kx : x3.sig.den → Option β) (kr : y3.sig.den → Option β) (s : h3.sig.den) : evalBody C (nthC (loopsOf (bodyC Tryz.f213)) 0) 0 h3 x3 y3 L kx kr s = b3 sl0 (fun x0 x1 x2 x3 x4 => L (((), (x0, (x1, ()))), (x2, (x3, (x4, ()))))) (fun x0 x1 => kx (((), (x0, (x1, ()))), ())) (kr ((), ())) s.1.2.1 s.1.2.2.1 s.2.1 s.2.2.1 s.2.2.2.1 := by kernel_rfl
theorem g3 : LS Tryz.prog C ⟨3, 0, h3, x3, y3, fun s kx kr => r3 sl0 sl0.n kx kr s⟩ (loopsOf (bodyC Tryz.f213)) := LS.at (i := 0) (by kernel_rfl) (loop_good mixed ctx (ctx_nat ctx) (N := sl0.n) (fun _ _ _ _ => rfl) e3 (all1 (LS.none (by kernel_rfl)) (all1 ((g13).sub (nthC_mem (by kernel_rfl))) (all0))))
theorem eG (β : Type) (s : sin.den) (K : sout.den → Option β) : evalFn C Tryz.f213 sin sout s K = o.F s K := by kernel_rfl
theorem ok : OracOk Tryz.prog o := fn_ok mixed Tryz.func213 (by kernel_rfl) ctx (c := bodyC Tryz.f213) (by kernel_rfl) (all1 g3 (all1 g13 (all0))) (by kernel_rfl) (by kernel_rfl) (by kernel_rfl) (Nat.le_of_ble_eq_true (by kernel_rfl)) eG (by kernel_rfl) (Nat.le_of_ble_eq_true (by kernel_rfl))
end impl_spanOf
end Go.Proofs.YtnbighmbgmjbkaaGreat.E
end
section
set_option linter.unusedVariables false
set_option linter.unusedSimpArgs false
namespace Go.Proofs.YtnbighmbgmjbkaaGreat.E
open Go Go.RowKit
set_option linter.unusedVariables false
set_option maxRecDepth 100000
namespace impl_solve
def sin : Sig := ⟨[], [.one (.val I false), .one (.val (.sl I) false), .one (.val (.sl I) false)]⟩
def sout : Sig := ⟨[], [.agg [.val (.arr 4 I) false]]⟩
def h29 : SS := ⟨[6, 7, 128, 129, 130], ⟨[.box [.val (.arr 4 I) false], .box [.val (.arr 4 I) false], .buf (.pair (.arr 4 I) (.pair I .unit)) false], [.one (.ref (.ptr 0)), .one (.ref (.ptr 1)), .one (.ref (.own 2)), .one (.val I false), .one (.val I false)]⟩⟩
def x29 : SS := ⟨[6, 7], ⟨[.box [.val (.arr 4 I) false], .box [.val (.arr 4 I) false]], [.one (.ref (.ptr 0)), .one (.ref (.ptr 1))]⟩⟩
def y29 : SS := ⟨[], ⟨[], []⟩⟩
noncomputable def b29 {β : Type} (S : Sl) (L : (List Int) → (List Int) → (List ((List Int) × (Int × Unit))) → Int → Int → Option β) (kx : (List Int) → (List Int) → Option β) (kr : Option β) (s0 : (List Int)) (s1 : (List Int)) (s2 : (List ((List Int) × (Int × Unit)))) (s3 : Int) (s4 : Int) : Option β := bif (S.lt s4 s3) then (bif (S.ir s4 s2.length) then (impl_vector_lead.G S ((List.getD s2 (Int.toNat s4) ((List.replicate 4 0), (0, ()))).1) (fun y1 => bif (S.ir y1 4) then (L s0 (List.set s1 (Int.toNat y1) ((List.getD s2 (Int.toNat s4) ((List.replicate 4 0), (0, ()))).2.1)) s2 s3 (S.w (s4 + 1))) else (none))) else (none)) else (kx s0 s1)
noncomputable def r29 {β : Type} (S : Sl) (n : Nat) (kx : x29.sig.den → Option β) (kr : y29.sig.den → Option β) (s : h29.sig.den) : Option β := rounds (fun L kx kr s => b29 S (fun x0 x1 x2 x3 x4 => L (((x0, ()), ((x1, ()), (x2, ()))), (x3, (x4, ())))) (fun x0 x1 => kx (((x0, ()), ((x1, ()), ())), ())) (kr ((), ())) s.1.1.1 s.1.2.1.1 s.1.2.2.1 s.2.1 s.2.2.1) kx kr n s
noncomputable def l29 {β : Type} (S : Sl) (n : Nat) (kx : (List Int) → (List Int) → Option β) (kr : Option β) (s0 : (List Int)) (s1 : (List Int)) (s2 : (List ((List Int) × (Int × Unit)))) (s3 : Int) (s4 : Int) : Option β := r29 S n (fun s => kx s.1.1.1 s.1.2.1.1) (fun s => kr) (((s0, ()), ((s1, ()), (s2, ()))), (s3, (s4, ())))
theorem t29 {β : Type} (S : Sl) (n : Nat) (kx : (List Int) → (List Int) → Option β) (kr : Option β) (s0 : (List Int)) (s1 : (List Int)) (s2 : (List ((List Int) × (Int × Unit)))) (s3 : Int) (s4 : Int) : l29 S (n + 1) kx kr s0 s1 s2 s3 s4 = b29 S (l29 S n kx kr) kx kr s0 s1 s2 s3 s4 := by kernel_rfl
def h20 : SS := ⟨[6, 7, 9, 15, 16, 63, 64, 74, 75], ⟨[.box [.val (.arr 4 I) false], .box [.val (.arr 4 I) false], .buf (.pair (.arr 4 I) (.pair I .unit)) false], [.one (.ref (.ptr 0)), .one (.ref (.ptr 1)), .one (.ref (.own 2)), .one (.val I false), .one (.val I false), .one (.val I false), .one (.val I false), .one (.val I false), .one (.val I false)]⟩⟩
def x20 : SS := ⟨[6, 7, 9, 63, 64], ⟨[.box [.val (.arr 4 I) false], .box [.val (.arr 4 I) false], .buf (.pair (.arr 4 I) (.pair I .unit)) false], [.one (.ref (.ptr 0)), .one (.ref (.ptr 1)), .one (.ref (.own 2)), .one (.val I false), .one (.val I false)]⟩⟩
def y20 : SS := ⟨[], ⟨[], []⟩⟩
noncomputable def b20 {β : Type} (S : Sl) (L : (List Int) → (List Int) → (List ((List Int) × (Int × Unit))) → Int → Int → Int → Int → Int → Int → Option β) (kx : (List Int) → (List Int) → (List ((List Int) × (Int × Unit))) → Int → Int → Option β) (kr : Option β) (s0 : (List Int)) (s1 : (List Int)) (s2 : (List ((List Int) × (Int × Unit)))) (s3 : Int) (s4 : Int) (s5 : Int) (s6 : Int) (s7 : Int) (s8 : Int) : Option β := bif (S.lt s8 s7) then (bif (S.ir s8 s2.length) then (bif (S.ir s4 4) then (bif (!S.eq s8 s3) then (bif (!S.eq (List.getD ((List.getD s2 (Int.toNat s8) ((List.replicate 4 0), (0, ()))).1) (Int.toNat s4) 0) 0) then (bif (S.ir s8 s2.length) then (bif (S.ir s3 s2.length) then (impl_vector_times.G S ((List.getD s2 (Int.toNat s3) ((List.replicate 4 0), (0, ()))).1) (List.getD ((List.getD s2 (Int.toNat s8) ((List.replicate 4 0), (0, ()))).1) (Int.toNat s4) 0) (fun y1 => impl_vector_minus.G S ((List.getD s2 (Int.toNat s8) ((List.replicate 4 0), (0, ()))).1) y1 (fun y2 => bif (S.ir s8 s2.length) then (bif (S.ir s8 (List.set s2 (Int.toNat s8) (y2, (List.getD s2 (Int.toNat s8) ((List.replicate 4 0), (0, ()))).2)).length) then (bif (S.ir s3 (List.set s2 (Int.toNat s8) (y2, (List.getD s2 (Int.toNat s8) ((List.replicate 4 0), (0, ()))).2)).length) then (impl_element_times.G S ((List.getD (List.set s2 (Int.toNat s8) (y2, (List.getD s2 (Int.toNat s8) ((List.replicate 4 0), (0, ()))).2)) (Int.toNat s3) ((List.replicate 4 0), (0, ()))).2.1) (List.getD ((List.getD s2 (Int.toNat s8) ((List.replicate 4 0), (0, ()))).1) (Int.toNat s4) 0) (fun y3 => impl_element_minus.G S ((List.getD (List.set s2 (Int.toNat s8) (y2, (List.getD s2 (Int.toNat s8) ((List.replicate 4 0), (0, ()))).2)) (Int.toNat s8) ((List.replicate 4 0), (0, ()))).2.1) y3 (fun y4 => bif (S.ir s8 (List.set s2 (Int.toNat s8) (y2, (List.getD s2 (Int.toNat s8) ((List.replicate 4 0), (0, ()))).2)).length) then (L s0 s1 (List.set (List.set s2 (Int.toNat s8) (y2, (List.getD s2 (Int.toNat s8) ((List.replicate 4 0), (0, ()))).2)) (Int.toNat s8) ((List.getD (List.set s2 (Int.toNat s8) (y2, (List.getD s2 (Int.toNat s8) ((List.replicate 4 0), (0, ()))).2)) (Int.toNat s8) ((List.replicate 4 0), (0, ()))).1, (y4, (List.getD (List.set s2 (Int.toNat s8) (y2, (List.getD s2 (Int.toNat s8) ((List.replicate 4 0), (0, ()))).2)) (Int.toNat s8) ((List.replicate 4 0), (0, ()))).2.2))) s3 s4 s5 s6 s7 (S.w (s8 + 1))) else (none)))) else (none)) else (none)) else (none)))) else (none)) else (none)) else (L s0 s1 s2 s3 s4 s5 s6 s7 (S.w (s8 + 1)))) else (L s0 s1 s2 s3 s4 s5 s6 s7 (S.w (s8 + 1)))) else (none)) else (none)) else (kx s0 s1 s2 s5 s6)
noncomputable def r20 {β : Type} (S : Sl) (n : Nat) (kx : x20.sig.den → Option β) (kr : y20.sig.den → Option β) (s : h20.sig.den) : Option β := rounds (fun L kx kr s => b20 S (fun x0 x1 x2 x3 x4 x5 x6 x7 x8 => L (((x0, ()), ((x1, ()), (x2, ()))), (x3, (x4, (x5, (x6, (x7, (x8, ())))))))) (fun x0 x1 x2 x3 x4 => kx (((x0, ()), ((x1, ()), (x2, ()))), (x3, (x4, ())))) (kr ((), ())) s.1.1.1 s.1.2.1.1 s.1.2.2.1 s.2.1 s.2.2.1 s.2.2.2.1 s.2.2.2.2.1 s.2.2.2.2.2.1 s.2.2.2.2.2.2.1) kx kr n s
noncomputable def l20 {β : Type} (S : Sl) (n : Nat) (kx : (List Int) → (List Int) → (List ((List Int) × (Int × Unit))) → Int → Int → Option β) (kr : Option β) (s0 : (List Int)) (s1 : (List Int)) (s2 : (List ((List Int) × (Int × Unit)))) (s3 : Int) (s4 : Int) (s5 : Int) (s6 : Int) (s7 : Int) (s8 : Int) : Option β := r20 S n (fun s => kx s.1.1.1 s.1.2.1.1 s.1.2.2.1 s.2.1 s.2.2.1) (fun s => kr) (((s0, ()), ((s1, ()), (s2, ()))), (s3, (s4, (s5, (s6, (s7, (s8, ())))))))
theorem t20 {β : Type} (S : Sl) (n : Nat) (kx : (List Int) → (List Int) → (List ((List Int) × (Int × Unit))) → Int → Int → Option β) (kr : Option β) (s0 : (List Int)) (s1 : (List Int)) (s2 : (List ((List Int) × (Int × Unit)))) (s3 : Int) (s4 : Int) (s5 : Int) (s6 : Int) (s7 : Int) (s8 : Int) : l20 S (n + 1) kx kr s0 s1 s2 s3 s4 s5 s6 s7 s8 = b20 S (l20 S n kx kr) kx kr s0 s1 s2 s3 s4 s5 s6 s7 s8 := by kernel_rfl
def h16 : SS := ⟨[6, 7, 9, 63, 64], ⟨[.box [.val (.arr 4 I) false], .box [.val (.arr 4 I) false], .buf (.pair (.arr 4 I) (.pair I .unit)) false], [.one (.ref (.ptr 0)), .one (.ref (.ptr 1)), .one (.ref (.own 2)), .one (.val I false), .one (.val I false)]⟩⟩
def x16 : SS := ⟨[6, 7, 9], ⟨[.box [.val (.arr 4 I) false], .box [.val (.arr 4 I) false], .buf (.pair (.arr 4 I) (.pair I .unit)) false], [.one (.ref (.ptr 0)), .one (.ref (.ptr 1)), .one (.ref (.own 2))]⟩⟩
def y16 : SS := ⟨[], ⟨[], []⟩⟩
noncomputable def b16 {β : Type} (S : Sl) (L : (List Int) → (List Int) → (List ((List Int) × (Int × Unit))) → Int → Int → Option β) (kx : (List Int) → (List Int) → (List ((List Int) × (Int × Unit))) → Option β) (kr : Option β) (s0 : (List Int)) (s1 : (List Int)) (s2 : (List ((List Int) × (Int × Unit)))) (s3 : Int) (s4 : Int) : Option β := bif (S.lt s4 s3) then (bif (S.ir s4 s2.length) then (impl_vector_lead.G S ((List.getD s2 (Int.toNat s4) ((List.replicate 4 0), (0, ()))).1) (fun y1 => l20 S S.n (fun y2 y3 y4 y5 y6 => L y2 y3 y4 y5 (S.w (y6 + 1))) none s0 s1 s2 s4 y1 s3 s4 (s2.length : Int) 0)) else (none)) else (kx s0 s1 s2)
noncomputable def r16 {β : Type} (S : Sl) (n : Nat) (kx : x16.sig.den → Option β) (kr : y16.sig.den → Option β) (s : h16.sig.den) : Option β := rounds (fun L kx kr s => b16 S (fun x0 x1 x2 x3 x4 => L (((x0, ()), ((x1, ()), (x2, ()))), (x3, (x4, ())))) (fun x0 x1 x2 => kx (((x0, ()), ((x1, ()), (x2, ()))), ())) (kr ((), ())) s.1.1.1 s.1.2.1.1 s.1.2.2.1 s.2.1 s.2.2.1) kx kr n s
noncomputable def l16 {β : Type} (S : Sl) (n : Nat) (kx : (List Int) → (List Int) → (List ((List Int) × (Int × Unit))) → Option β) (kr : Option β) (s0 : (List Int)) (s1 : (List Int)) (s2 : (List ((List Int) × (Int × Unit)))) (s3 : Int) (s4 : Int) : Option β := r16 S n (fun s => kx s.1.1.1 s.1.2.1.1 s.1.2.2.1) (fun s => kr) (((s0, ()), ((s1, ()), (s2, ()))), (s3, (s4, ())))
theorem t16 {β : Type} (S : Sl) (n : Nat) (kx : (List Int) → (List Int) → (List ((List Int) × (Int × Unit))) → Option β) (kr : Option β) (s0 : (List Int)) (s1 : (List Int)) (s2 : (List ((List Int) × (Int × Unit)))) (s3 : Int) (s4 : Int) : l16 S (n + 1) kx kr s0 s1 s2 s3 s4 = b16 S (l16 S n kx kr) kx kr s0 s1 s2 s3 s4 := by kernel_rfl
def h9 : SS := ⟨[1, 2, 6, 7, 9, 11, 12, 29, 30, 31, 35, 36, 37], ⟨[.box [.val (.arr 4 I) false], .box [.val (.arr 4 I) false], .buf (.pair (.arr 4 I) (.pair I .unit)) false, .box [.val (.arr 4 I) false, .val (.arr 8 I) false], .buf (.pair (.arr 4 I) (.pair (.arr 8 I) .unit)) false], [.one (.val (.sl I) false), .one (.val (.sl I) false), .one (.ref (.ptr 0)), .one (.ref (.ptr 1)), .one (.ref (.own 2)), .one (.ref (.ptr 3)), .one (.val I false), .one (.ref (.own 4)), .one (.val I false), .one (.val I false), .one (.val (.sl I) false), .one (.val I false), .one (.val I false)]⟩⟩
def x9 : SS := ⟨[1, 2, 6, 7, 9, 11, 12, 29, 30, 31], ⟨[.box [.val (.arr 4 I) false], .box [.val (.arr 4 I) false], .buf (.pair (.arr 4 I) (.pair I .unit)) false, .box [.val (.arr 4 I) false, .val (.arr 8 I) false], .buf (.pair (.arr 4 I) (.pair (.arr 8 I) .unit)) false], [.one (.val (.sl I) false), .one (.val (.sl I) false), .one (.ref (.ptr 0)), .one (.ref (.ptr 1)), .one (.ref (.own 2)), .one (.ref (.ptr 3)), .one (.val I false), .one (.ref (.own 4)), .one (.val I false), .one (.val I false)]⟩⟩
def y9 : SS := ⟨[], ⟨[], []⟩⟩
noncomputable def b9 {β : Type} (S : Sl) (L : (List Int) → (List Int) → (List ((List Int) × (Int × Unit))) → (List Int) → (List Int) → (List ((List Int) × ((List Int) × Unit))) → (List Int) → (List Int) → Int → Int → Int → (List Int) → Int → Int → Option β) (kx : (List Int) → (List Int) → (List ((List Int) × (Int × Unit))) → (List Int) → (List Int) → (List ((List Int) × ((List Int) × Unit))) → (List Int) → (List Int) → Int → Int → Int → Option β) (kr : Option β) (s0 : (List Int)) (s1 : (List Int)) (s2 : (List ((List Int) × (Int × Unit)))) (s3 : (List Int)) (s4 : (List Int)) (s5 : (List ((List Int) × ((List Int) × Unit)))) (s6 : (List Int)) (s7 : (List Int)) (s8 : Int) (s9 : Int) (s10 : Int) (s11 : (List Int)) (s12 : Int) (s13 : Int) : Option β := bif (S.lt s13 s12) then (bif (S.ir s13 s11.length) then (bif (S.ir s13 8) then (bif (S.ir (List.getD s11 (Int.toNat s13) 0) s6.length) then (impl_element_times.G S (List.getD s4 (Int.toNat s13) 0) (List.getD s6 (Int.toNat (List.getD s11 (Int.toNat s13) 0)) 0) (fun y1 => impl_element_plus.G S s8 y1 (fun y2 => L s0 s1 s2 s3 s4 s5 s6 s7 y2 s9 s10 s11 s12 (S.w (s13 + 1))))) else (none)) else (none)) else (none)) else (kx s0 s1 s2 s3 s4 s5 s6 s7 s8 s9 s10)
noncomputable def r9 {β : Type} (S : Sl) (n : Nat) (kx : x9.sig.den → Option β) (kr : y9.sig.den → Option β) (s : h9.sig.den) : Option β := rounds (fun L kx kr s => b9 S (fun x0 x1 x2 x3 x4 x5 x6 x7 x8 x9 x10 x11 x12 x13 => L (((x0, ()), ((x1, ()), (x2, ((x3, (x4, ())), (x5, ()))))), (x6, (x7, (x8, (x9, (x10, (x11, (x12, (x13, ())))))))))) (fun x0 x1 x2 x3 x4 x5 x6 x7 x8 x9 x10 => kx (((x0, ()), ((x1, ()), (x2, ((x3, (x4, ())), (x5, ()))))), (x6, (x7, (x8, (x9, (x10, ()))))))) (kr ((), ())) s.1.1.1 s.1.2.1.1 s.1.2.2.1 s.1.2.2.2.1.1 s.1.2.2.2.1.2.1 s.1.2.2.2.2.1 s.2.1 s.2.2.1 s.2.2.2.1 s.2.2.2.2.1 s.2.2.2.2.2.1 s.2.2.2.2.2.2.1 s.2.2.2.2.2.2.2.1 s.2.2.2.2.2.2.2.2.1) kx kr n s
noncomputable def l9 {β : Type} (S : Sl) (n : Nat) (kx : (List Int) → (List Int) → (List ((List Int) × (Int × Unit))) → (List Int) → (List Int) → (List ((List Int) × ((List Int) × Unit))) → (List Int) → (List Int) → Int → Int → Int → Option β) (kr : Option β) (s0 : (List Int)) (s1 : (List Int)) (s2 : (List ((List Int) × (Int × Unit)))) (s3 : (List Int)) (s4 : (List Int)) (s5 : (List ((List Int) × ((List Int) × Unit)))) (s6 : (List Int)) (s7 : (List Int)) (s8 : Int) (s9 : Int) (s10 : Int) (s11 : (List Int)) (s12 : Int) (s13 : Int) : Option β := r9 S n (fun s => kx s.1.1.1 s.1.2.1.1 s.1.2.2.1 s.1.2.2.2.1.1 s.1.2.2.2.1.2.1 s.1.2.2.2.2.1 s.2.1 s.2.2.1 s.2.2.2.1 s.2.2.2.2.1 s.2.2.2.2.2.1) (fun s => kr) (((s0, ()), ((s1, ()), (s2, ((s3, (s4, ())), (s5, ()))))), (s6, (s7, (s8, (s9, (s10, (s11, (s12, (s13, ())))))))))
theorem t9 {β : Type} (S : Sl) (n : Nat) (kx : (List Int) → (List Int) → (List ((List Int) × (Int × Unit))) → (List Int) → (List Int) → (List ((List Int) × ((List Int) × Unit))) → (List Int) → (List Int) → Int → Int → Int → Option β) (kr : Option β) (s0 : (List Int)) (s1 : (List Int)) (s2 : (List ((List Int) × (Int × Unit)))) (s3 : (List Int)) (s4 : (List Int)) (s5 : (List ((List Int) × ((List Int) × Unit)))) (s6 : (List Int)) (s7 : (List Int)) (s8 : Int) (s9 : Int) (s10 : Int) (s11 : (List Int)) (s12 : Int) (s13 : Int) : l9 S (n + 1) kx kr s0 s1 s2 s3 s4 s5 s6 s7 s8 s9 s10 s11 s12 s13 = b9 S (l9 S n kx kr) kx kr s0 s1 s2 s3 s4 s5 s6 s7 s8 s9 s10 s11 s12 s13 := by kernel_rfl
def h5 : SS := ⟨[1, 2, 6, 7, 9, 29, 30, 31], ⟨[.box [.val (.arr 4 I) false], .box [.val (.arr 4 I) false], .buf (.pair (.arr 4 I) (.pair I .unit)) false, .buf (.pair (.arr 4 I) (.pair (.arr 8 I) .unit)) false], [.one (.val (.sl I) false), .one (.val (.sl I) false), .one (.ref (.ptr 0)), .one (.ref (.ptr 1)), .one (.ref (.own 2)), .one (.ref (.own 3)), .one (.val I false), .one (.val I false)]⟩⟩
def x5 : SS := ⟨[6, 7, 9], ⟨[.box [.val (.arr 4 I) false], .box [.val (.arr 4 I) false], .buf (.pair (.arr 4 I) (.pair I .unit)) false], [.one (.ref (.ptr 0)), .one (.ref (.ptr 1)), .one (.ref (.own 2))]⟩⟩
def y5 : SS := ⟨[], ⟨[], []⟩⟩
noncomputable def b5 {β : Type} (S : Sl) (L : (List Int) → (List Int) → (List ((List Int) × (Int × Unit))) → (List ((List Int) × ((List Int) × Unit))) → (List Int) → (List Int) → Int → Int → Option β) (kx : (List Int) → (List Int) → (List ((List Int) × (Int × Unit))) → Option β) (kr : Option β) (s0 : (List Int)) (s1 : (List Int)) (s2 : (List ((List Int) × (Int × Unit)))) (s3 : (List ((List Int) × ((List Int) × Unit)))) (s4 : (List Int)) (s5 : (List Int)) (s6 : Int) (s7 : Int) : Option β := bif (S.lt s7 s6) then (bif (S.ir s7 s3.length) then (l9 S S.n (fun y1 y2 y3 y4 y5 y6 y7 y8 y9 y10 y11 => bif (S.fw (y3 ++ [(y4, (y9, ()))]).length) then (L y1 y2 (y3 ++ [(y4, (y9, ()))]) y6 y7 y8 y10 (S.w (y11 + 1))) else (none)) none s0 s1 s2 ((List.getD s3 (Int.toNat s7) ((List.replicate 4 0), ((List.replicate 8 0), ()))).1) ((List.getD s3 (Int.toNat s7) ((List.replicate 4 0), ((List.replicate 8 0), ()))).2.1) s3 s4 s5 0 s6 s7 s5 (s5.length : Int) 0) else (none)) else (kx s0 s1 s2)
noncomputable def r5 {β : Type} (S : Sl) (n : Nat) (kx : x5.sig.den → Option β) (kr : y5.sig.den → Option β) (s : h5.sig.den) : Option β := rounds (fun L kx kr s => b5 S (fun x0 x1 x2 x3 x4 x5 x6 x7 => L (((x0, ()), ((x1, ()), (x2, (x3, ())))), (x4, (x5, (x6, (x7, ())))))) (fun x0 x1 x2 => kx (((x0, ()), ((x1, ()), (x2, ()))), ())) (kr ((), ())) s.1.1.1 s.1.2.1.1 s.1.2.2.1 s.1.2.2.2.1 s.2.1 s.2.2.1 s.2.2.2.1 s.2.2.2.2.1) kx kr n s
noncomputable def l5 {β : Type} (S : Sl) (n : Nat) (kx : (List Int) → (List Int) → (List ((List Int) × (Int × Unit))) → Option β) (kr : Option β) (s0 : (List Int)) (s1 : (List Int)) (s2 : (List ((List Int) × (Int × Unit)))) (s3 : (List ((List Int) × ((List Int) × Unit)))) (s4 : (List Int)) (s5 : (List Int)) (s6 : Int) (s7 : Int) : Option β := r5 S n (fun s => kx s.1.1.1 s.1.2.1.1 s.1.2.2.1) (fun s => kr) (((s0, ()), ((s1, ()), (s2, (s3, ())))), (s4, (s5, (s6, (s7, ())))))
theorem t5 {β : Type} (S : Sl) (n : Nat) (kx : (List Int) → (List Int) → (List ((List Int) × (Int × Unit))) → Option β) (kr : Option β) (s0 : (List Int)) (s1 : (List Int)) (s2 : (List ((List Int) × (Int × Unit)))) (s3 : (List ((List Int) × ((List Int) × Unit)))) (s4 : (List Int)) (s5 : (List Int)) (s6 : Int) (s7 : Int) : l5 S (n + 1) kx kr s0 s1 s2 s3 s4 s5 s6 s7 = b5 S (l5 S n kx kr) kx kr s0 s1 s2 s3 s4 s5 s6 s7 := by kernel_rfl
noncomputable def G {β : Type} (S : Sl) (a0 : Int) (a1 : (List Int)) (a2 : (List Int)) (K : (List Int) → Option β) : Option β := impl_rowsOf.G S a0 a2 (fun y1 => impl_spanOf.G S y1 (fun y2 y3 => l5 S S.n (fun y4 y5 y6 => l16 S S.n (fun y7 y8 y9 => l29 S S.n (fun y10 y11 => K y11) none y7 y8 y9 (y9.length : Int) 0) none y4 y5 y6 (y6.length : Int) 0) none (List.replicate 4 0) (List.replicate 4 0) [] y2 a1 a2 (y2.length : Int) 0))
noncomputable def o : Orac := ⟨202, sin, sout, fun s K => G sl0 s.2.1 s.2.2.1 s.2.2.2.1 (fun x0 => K ((), ((x0, ()), ())))⟩
noncomputable def C : Ctx := ⟨tyT, [impl_element_minus.o, impl_element_plus.o, impl_element_times.o, impl_rowsOf.o, impl_spanOf.o, impl_vector_lead.o, impl_vector_minus.o, impl_vector_times.o], [⟨5, 0, h5, x5, y5, fun s kx kr => r5 sl0 sl0.n kx kr s⟩, ⟨9, 2, h9, x9, y9, fun s kx kr => r9 sl0 sl0.n kx kr s⟩, ⟨16, 4, h16, x16, y16, fun s kx kr => r16 sl0 sl0.n kx kr s⟩, ⟨20, 6, h20, x20, y20, fun s kx kr => r20 sl0 sl0.n kx kr s⟩, ⟨29, 8, h29, x29, y29, fun s kx kr => r29 sl0 sl0.n kx kr s⟩], 142, 0⟩
theorem ctx : CtxOk Tryz.prog C := ⟨tyOk, all1 impl_element_minus.ok (all1 impl_element_plus.ok (all1 impl_element_times.ok (all1 impl_rowsOf.ok (all1 impl_spanOf.ok (all1 impl_vector_lead.ok (all1 impl_vector_minus.ok (all1 impl_vector_times.ok (all0))))))))⟩
theorem e29 (β : Type) (L : h29.sig.den → Option β) (kx : x29.sig.den → Option β) (kr : y29.sig.den → Option β) (s : h29.sig.den) : evalBody C (nthC (loopsOf (bodyC Tryz.f202)) 4) 8 h29 x29 y29 L kx kr s = b29 sl0 (fun x0 x1 x2 x3 x4 => L (((x0, ()), ((x1, ()), (x2, ()))), (x3, (x4, ())))) (fun x0 x1 => kx (((x0, ()), ((x1, ()), ())), ())) (kr ((), ())) s.1.1.1 s.1.2.1.1 s.1.2.2.1 s.2.1 s.2.2.1 := by kernel_rfl
theorem g29 : LS Tryz.prog C ⟨29, 8, h29, x29, y29, fun s kx kr => r29 sl0 sl0.n kx kr s⟩ (loopsOf (bodyC Tryz.f202)) := LS.at (i := 4) (by kernel_rfl) (loop_good mixed ctx (ctx_nat ctx) (N := sl0.n) (fun _ _ _ _ => rfl) e29 (all1 (LS.none (by kernel_rfl)) (all1 (LS.none (by kernel_rfl)) (all1 (LS.none (by kernel_rfl)) (all1 (LS.none (by kernel_rfl)) (all1 (LS.none (by kernel_rfl)) (all0)))))))
theorem e20 (β : Type) (L : h20.sig.den → Option β) (kx : x20.sig.den → Option β) (kr : y20.sig.den → Option β) (s : h20.sig.den) : evalBody C (nthC (loopsOf (bodyC Tryz.f202)) 3) 6 h20 x20 y20 L kx kr s = b20 sl0 (fun x0 x1 x2 x3 x4 x5 x6 x7 x8 => L (((x0, ()), ((x1, ()), (x2, ()))), (x3, (x4, (x5, (x6, (x7, (x8, ())))))))) (fun x0 x1 x2 x3 x4 => kx (((x0, ()), ((x1, ()), (x2, ()))), (x3, (x4, ())))) (kr ((), ())) s.1.1.1 s.1.2.1.1 s.1.2.2.1 s.2.1 s.2.2.1 s.2.2.2.1 s.2.2.2.2.1 s.2.2.2.2.2.1 s.2.2.2.2.2.2.1 := by kernel_rfl
theorem g20 : LS Tryz.prog C ⟨20, 6, h20, x20, y20, fun s kx kr => r20 sl0 sl0.n kx kr s⟩ (loopsOf (bodyC Tryz.f202)) := LS.at (i := 3) (by kernel_rfl) (loop_good mixed ctx (ctx_nat ctx) (N := sl0.n) (fun _ _ _ _ => rfl) e20 (all1 (LS.none (by kernel_rfl)) (all1 (LS.none (by kernel_rfl)) (all1 (LS.none (by kernel_rfl)) (all1 (LS.none (by kernel_rfl)) (all1 (LS.none (by kernel_rfl)) (all0)))))))
theorem e16 (β : Type) (L : h16.sig.den → Option β) (kx : x16.sig.den → Option β) (kr : y16.sig.den → Option β) (s : h16.sig.den) : evalBody C (nthC (loopsOf (bodyC Tryz.f202)) 2) 4 h16 x16 y16 L kx kr s = b16 sl0 (fun x0 x1 x2 x3 x4 => L (((x0, ()), ((x1, ()), (x2, ()))), (x3, (x4, ())))) (fun x0 x1 x2 => kx (((x0, ()), ((x1, ()), (x2, ()))), ())) (kr ((), ())) s.1.1.1 s.1.2.1.1 s.1.2.2.1 s.2.1 s.2.2.1 := by kernel_rfl
theorem g16 : LS Tryz.prog C ⟨16, 4, h16, x16, y16, fun s kx kr => r16 sl0 sl0.n kx kr s⟩ (loopsOf (bodyC Tryz.f202)) := LS.at (i := 2) (by kernel_rfl) (loop_good mixed ctx (ctx_nat ctx) (N := sl0.n) (fun _ _ _ _ => rfl) e16 (all1 (LS.none (by kernel_rfl)) (all1 (LS.none (by kernel_rfl)) (all1 (LS.none (by kernel_rfl)) (all1 ((g20).sub (nthC_mem (by kernel_rfl))) (all1 (LS.none (by kernel_rfl)) (all0)))))))
theorem e9 (β : Type) (L : h9.sig.den → Option β) (kx : x9.sig.den → Option β) (kr : y9.sig.den → Option β) (s : h9.sig.den) : evalBody C (nthC (loopsOf (bodyC Tryz.f202)) 1) 2 h9 x9 y9 L kx kr s = b9 sl0 (fun x0 x1 x2 x3 x4 x5 x6 x7 x8 x9 x10 x11 x12 x13 => L (((x0, ()), ((x1, ()), (x2, ((x3, (x4, ())), (x5, ()))))), (x6, (x7, (x8, (x9, (x10, (x11, (x12, (x13, ())))))))))) (fun x0 x1 x2 x3 x4 x5 x6 x7 x8 x9 x10 => kx (((x0, ()), ((x1, ()), (x2, ((x3, (x4, ())), (x5, ()))))), (x6, (x7, (x8, (x9, (x10, ()))))))) (kr ((), ())) s.1.1.1 s.1.2.1.1 s.1.2.2.1 s.1.2.2.2.1.1 s.1.2.2.2.1.2.1 s.1.2.2.2.2.1 s.2.1 s.2.2.1 s.2.2.2.1 s.2.2.2.2.1 s.2.2.2.2.2.1 s.2.2.2.2.2.2.1 s.2.2.2.2.2.2.2.1 s.2.2.2.2.2.2.2.2.1 := by kernel_rfl
theorem g9 : LS Tryz.prog C ⟨9, 2, h9, x9, y9, fun s kx kr => r9 sl0 sl0.n kx kr s⟩ (loopsOf (bodyC Tryz.f202)) := LS.at (i := 1) (by kernel_rfl) (loop_good mixed ctx (ctx_nat ctx) (N := sl0.n) (fun _ _ _ _ => rfl) e9 (all1 (LS.none (by kernel_rfl)) (all1 (LS.none (by kernel_rfl)) (all1 (LS.none (by kernel_rfl)) (all1 (LS.none (by kernel_rfl)) (all1 (LS.none (by kernel_rfl)) (all0)))))))
theorem e5 (β : Type) (L : h5.sig.den → Option β) (kx : x5.sig.den → Option β) (kr : y5.sig.den → Option β) (s : h5.sig.den) : evalBody C (nthC (loopsOf (bodyC Tryz.f202)) 0) 0 h5 x5 y5 L kx kr s = b5 sl0 (fun x0 x1 x2 x3 x4 x5 x6 x7 => L (((x0, ()), ((x1, ()), (x2, (x3, ())))), (x4, (x5, (x6, (x7, ())))))) (fun x0 x1 x2 => kx (((x0, ()), ((x1, ()), (x2, ()))), ())) (kr ((), ())) s.1.1.1 s.1.2.1.1 s.1.2.2.1 s.1.2.2.2.1 s.2.1 s.2.2.1 s.2.2.2.1 s.2.2.2.2.1 := by kernel_rfl
theorem g5 : LS Tryz.prog C ⟨5, 0, h5, x5, y5, fun s kx kr => r5 sl0 sl0.n kx kr s⟩ (loopsOf (bodyC Tryz.f202)) := LS.at (i := 0) (by kernel_rfl) (loop_good mixed ctx (ctx_nat ctx) (N := sl0.n) (fun _ _ _ _ => rfl) e5 (all1 (LS.none (by kernel_rfl)) (all1 ((g9).sub (nthC_mem (by kernel_rfl))) (all1 (LS.none (by kernel_rfl)) (all1 (LS.none (by kernel_rfl)) (all1 (LS.none (by kernel_rfl)) (all0)))))))
theorem eG (β : Type) (s : sin.den) (K : sout.den → Option β) : evalFn C Tryz.f202 sin sout s K = o.F s K := by kernel_rfl
theorem ok : OracOk Tryz.prog o := fn_ok mixed Tryz.func202 (by kernel_rfl) ctx (c := bodyC Tryz.f202) (by kernel_rfl) (all1 g5 (all1 g9 (all1 g16 (all1 g20 (all1 g29 (all0)))))) (by kernel_rfl) (by kernel_rfl) (by kernel_rfl) (Nat.le_of_ble_eq_true (by kernel_rfl)) eG (by kernel_rfl) (Nat.le_of_ble_eq_true (by kernel_rfl))
end impl_solve
end Go.Proofs.YtnbighmbgmjbkaaGreat.E
end
section
set_option linter.unusedVariables false
set_option linter.unusedSimpArgs false
namespace Go.Proofs.YtnbighmbgmjbkaaGreat.E
open Go Go.RowKit
set_option linter.unusedVariables false
set_option maxRecDepth 100000
namespace impl_fits
def sin : Sig := ⟨[], [.one (.val I false), .one (.val (.sl I) false), .one (.val (.sl I) false)]⟩
def sout : Sig := ⟨[], [.one (.val .bool false)]⟩
def h3 : SS := ⟨[0, 1, 7, 14, 15, 16], ⟨[.box [.val (.arr 4 I) false]], [.one (.val I false), .one (.val (.sl I) false), .one (.ref (.ptr 0)), .one (.val (.sl I) false), .one (.val I false), .one (.val I false)]⟩⟩
def x3 : SS := ⟨[], ⟨[], []⟩⟩
def y3 : SS := ⟨[6], ⟨[], [.one (.val .bool false)]⟩⟩
noncomputable def b3 {β : Type} (S : Sl) (L : (List Int) → Int → (List Int) → (List Int) → Int → Int → Option β) (kx : Option β) (kr : Bool → Option β) (s0 : (List Int)) (s1 : Int) (s2 : (List Int)) (s3 : (List Int)) (s4 : Int) (s5 : Int) : Option β := bif (S.lt s5 s4) then (bif (S.ir s5 s3.length) then (impl_rowOf.G S s1 (List.getD s3 (Int.toNat s5) 0) (fun y1 => impl_vector_dot.G S y1 s0 (fun y2 => bif (S.ir (List.getD s3 (Int.toNat s5) 0) s2.length) then (bif (!S.eq y2 (List.getD s2 (Int.toNat (List.getD s3 (Int.toNat s5) 0)) 0)) then (kr false) else (L s0 s1 s2 s3 s4 (S.w (s5 + 1)))) else (none)))) else (none)) else (kx)
noncomputable def r3 {β : Type} (S : Sl) (n : Nat) (kx : x3.sig.den → Option β) (kr : y3.sig.den → Option β) (s : h3.sig.den) : Option β := rounds (fun L kx kr s => b3 S (fun x0 x1 x2 x3 x4 x5 => L (((x0, ()), ()), (x1, (x2, (x3, (x4, (x5, ()))))))) (kx ((), ())) (fun x0 => kr ((), (x0, ()))) s.1.1.1 s.2.1 s.2.2.1 s.2.2.2.1 s.2.2.2.2.1 s.2.2.2.2.2.1) kx kr n s
noncomputable def l3 {β : Type} (S : Sl) (n : Nat) (kx : Option β) (kr : Bool → Option β) (s0 : (List Int)) (s1 : Int) (s2 : (List Int)) (s3 : (List Int)) (s4 : Int) (s5 : Int) : Option β := r3 S n (fun s => kx) (fun s => kr s.2.1) (((s0, ()), ()), (s1, (s2, (s3, (s4, (s5, ()))))))
theorem t3 {β : Type} (S : Sl) (n : Nat) (kx : Option β) (kr : Bool → Option β) (s0 : (List Int)) (s1 : Int) (s2 : (List Int)) (s3 : (List Int)) (s4 : Int) (s5 : Int) : l3 S (n + 1) kx kr s0 s1 s2 s3 s4 s5 = b3 S (l3 S n kx kr) kx kr s0 s1 s2 s3 s4 s5 := by kernel_rfl
noncomputable def G {β : Type} (S : Sl) (a0 : Int) (a1 : (List Int)) (a2 : (List Int)) (K : Bool → Option β) : Option β := impl_solve.G S a0 a1 a2 (fun y1 => l3 S S.n (K true) (fun y2 => K y2) y1 a0 a1 a2 (a2.length : Int) 0)
noncomputable def o : Orac := ⟨146, sin, sout, fun s K => G sl0 s.2.1 s.2.2.1 s.2.2.2.1 (fun x0 => K ((), (x0, ())))⟩
noncomputable def C : Ctx := ⟨tyT, [impl_rowOf.o, impl_solve.o, impl_vector_dot.o], [⟨3, 0, h3, x3, y3, fun s kx kr => r3 sl0 sl0.n kx kr s⟩], 31, 0⟩
theorem ctx : CtxOk Tryz.prog C := ⟨tyOk, all1 impl_rowOf.ok (all1 impl_solve.ok (all1 impl_vector_dot.ok (all0)))⟩
theorem e3 (β : Type) (L : h3.sig.den → Option β) (kx : x3.sig.den → Option β) (kr : y3.sig.den → Option β) (s : h3.sig.den) : evalBody C (nthC (loopsOf (bodyC Tryz.f146)) 0) 0 h3 x3 y3 L kx kr s = b3 sl0 (fun x0 x1 x2 x3 x4 x5 => L (((x0, ()), ()), (x1, (x2, (x3, (x4, (x5, ()))))))) (kx ((), ())) (fun x0 => kr ((), (x0, ()))) s.1.1.1 s.2.1 s.2.2.1 s.2.2.2.1 s.2.2.2.2.1 s.2.2.2.2.2.1 := by kernel_rfl
theorem g3 : LS Tryz.prog C ⟨3, 0, h3, x3, y3, fun s kx kr => r3 sl0 sl0.n kx kr s⟩ (loopsOf (bodyC Tryz.f146)) := LS.at (i := 0) (by kernel_rfl) (loop_good mixed ctx (ctx_nat ctx) (N := sl0.n) (fun _ _ _ _ => rfl) e3 (all1 (LS.none (by kernel_rfl)) (all0)))
theorem eG (β : Type) (s : sin.den) (K : sout.den → Option β) : evalFn C Tryz.f146 sin sout s K = o.F s K := by kernel_rfl
theorem ok : OracOk Tryz.prog o := fn_ok mixed Tryz.func146 (by kernel_rfl) ctx (c := bodyC Tryz.f146) (by kernel_rfl) (all1 g3 (all0)) (by kernel_rfl) (by kernel_rfl) (by kernel_rfl) (Nat.le_of_ble_eq_true (by kernel_rfl)) eG (by kernel_rfl) (Nat.le_of_ble_eq_true (by kernel_rfl))
end impl_fits
end Go.Proofs.YtnbighmbgmjbkaaGreat.E
end
section
set_option linter.unusedVariables false
set_option linter.unusedSimpArgs false
namespace Go.Proofs.YtnbighmbgmjbkaaGreat.E
open Go Go.RowKit
set_option linter.unusedVariables false
set_option maxRecDepth 100000
namespace impl_StripeOk_1
def sin : Sig := ⟨[.box [.val I false, .val (.sl I) false, .val (.sl I) false, .val (.sl .bool) false]], [.one (.val I false), .one (.ref (.ptr 0))]⟩
def sout : Sig := ⟨[.box [.val I false, .val (.sl I) false, .val (.sl I) false, .val (.sl .bool) false]], [.one (.val .bool false)]⟩
noncomputable def G {β : Type} (S : Sl) (a0 : Int) (a1 : (List Int)) (a2 : (List Int)) (a3 : (List Bool)) (a4 : Int) (K : Int → (List Int) → (List Int) → (List Bool) → Bool → Option β) : Option β := impl_Stripe_of.G S a0 a1 a2 a3 a4 (fun y1 => impl_fits.G S a0 a1 y1 (fun y2 => K a0 a1 a2 a3 (!y2)))
noncomputable def o : Orac := ⟨145, sin, sout, fun s K => G sl0 s.1.1.1 s.1.1.2.1 s.1.1.2.2.1 s.1.1.2.2.2.1 s.2.1 (fun x0 x1 x2 x3 x4 => K (((x0, (x1, (x2, (x3, ())))), ()), (x4, ())))⟩
noncomputable def C : Ctx := ⟨tyT, [impl_Stripe_of.o, impl_fits.o], [], 13, 1⟩
theorem ctx : CtxOk Tryz.prog C := ⟨tyOk, all1 impl_Stripe_of.ok (all1 impl_fits.ok (all0))⟩
theorem eG (β : Type) (s : sin.den) (K : sout.den → Option β) : evalFn C Tryz.f145 sin sout s K = o.F s K := by kernel_rfl
theorem ok : OracOk Tryz.prog o := fn_ok mixed Tryz.func145 (by kernel_rfl) ctx (c := bodyC Tryz.f145) (by kernel_rfl) (all0) (by kernel_rfl) (by kernel_rfl) (by kernel_rfl) (Nat.le_of_ble_eq_true (by kernel_rfl)) eG (by kernel_rfl) (Nat.le_of_ble_eq_true (by kernel_rfl))
end impl_StripeOk_1
end Go.Proofs.YtnbighmbgmjbkaaGreat.E
end
section
set_option linter.unusedVariables false
set_option linter.unusedSimpArgs false
namespace Go.Proofs.YtnbighmbgmjbkaaGreat.E
open Go Go.RowKit
set_option linter.unusedVariables false
set_option maxRecDepth 100000
namespace slices_IndexFunc_Sint_int_
def sin : Sig := ⟨[.buf I false, .box [.val I false, .val (.sl I) false, .val (.sl I) false, .val (.sl .bool) false]], [.one (.ref (.own 0)), .one (.ref (.fn 145 [1]))]⟩
def sout : Sig := ⟨[.buf I false, .box [.val I false, .val (.sl I) false, .val (.sl I) false, .val (.sl .bool) false]], [.one (.val I false)]⟩
def h2 : SS := ⟨[0, 1, 7, 8], ⟨[.buf I false, .box [.val I false, .val (.sl I) false, .val (.sl I) false, .val (.sl .bool) false]], [.one (.ref (.own 0)), .one (.ref (.fn 145 [1])), .one (.val I false), .one (.val I false)]⟩⟩
def x2 : SS := ⟨[], ⟨[.buf I false, .box [.val I false, .val (.sl I) false, .val (.sl I) false, .val (.sl .bool) false]], []⟩⟩
def y2 : SS := ⟨[4], ⟨[.buf I false, .box [.val I false, .val (.sl I) false, .val (.sl I) false, .val (.sl .bool) false]], [.one (.val I false)]⟩⟩
noncomputable def b2 {β : Type} (S : Sl) (L : (List Int) → Int → (List Int) → (List Int) → (List Bool) → Int → Int → Option β) (kx : (List Int) → Int → (List Int) → (List Int) → (List Bool) → Option β) (kr : (List Int) → Int → (List Int) → (List Int) → (List Bool) → Int → Option β) (s0 : (List Int)) (s1 : Int) (s2 : (List Int)) (s3 : (List Int)) (s4 : (List Bool)) (s5 : Int) (s6 : Int) : Option β := bif (S.lt s6 s5) then (bif (S.ir s6 s0.length) then (impl_StripeOk_1.G S s1 s2 s3 s4 (List.getD s0 (Int.toNat s6) 0) (fun y1 y2 y3 y4 y5 => bif y5 then (kr s0 y1 y2 y3 y4 s6) else (L s0 y1 y2 y3 y4 s5 (S.w (s6 + 1))))) else (none)) else (kx s0 s1 s2 s3 s4)
noncomputable def r2 {β : Type} (S : Sl) (n : Nat) (kx : x2.sig.den → Option β) (kr : y2.sig.den → Option β) (s : h2.sig.den) : Option β := rounds (fun L kx kr s => b2 S (fun x0 x1 x2 x3 x4 x5 x6 => L ((x0, ((x1, (x2, (x3, (x4, ())))), ())), (x5, (x6, ())))) (fun x0 x1 x2 x3 x4 => kx ((x0, ((x1, (x2, (x3, (x4, ())))), ())), ())) (fun x0 x1 x2 x3 x4 x5 => kr ((x0, ((x1, (x2, (x3, (x4, ())))), ())), (x5, ()))) s.1.1 s.1.2.1.1 s.1.2.1.2.1 s.1.2.1.2.2.1 s.1.2.1.2.2.2.1 s.2.1 s.2.2.1) kx kr n s
noncomputable def l2 {β : Type} (S : Sl) (n : Nat) (kx : (List Int) → Int → (List Int) → (List Int) → (List Bool) → Option β) (kr : (List Int) → Int → (List Int) → (List Int) → (List Bool) → Int → Option β) (s0 : (List Int)) (s1 : Int) (s2 : (List Int)) (s3 : (List Int)) (s4 : (List Bool)) (s5 : Int) (s6 : Int) : Option β := r2 S n (fun s => kx s.1.1 s.1.2.1.1 s.1.2.1.2.1 s.1.2.1.2.2.1 s.1.2.1.2.2.2.1) (fun s => kr s.1.1 s.1.2.1.1 s.1.2.1.2.1 s.1.2.1.2.2.1 s.1.2.1.2.2.2.1 s.2.1) ((s0, ((s1, (s2, (s3, (s4, ())))), ())), (s5, (s6, ())))
theorem t2 {β : Type} (S : Sl) (n : Nat) (kx : (List Int) → Int → (List Int) → (List Int) → (List Bool) → Option β) (kr : (List Int) → Int → (List Int) → (List Int) → (List Bool) → Int → Option β) (s0 : (List Int)) (s1 : Int) (s2 : (List Int)) (s3 : (List Int)) (s4 : (List Bool)) (s5 : Int) (s6 : Int) : l2 S (n + 1) kx kr s0 s1 s2 s3 s4 s5 s6 = b2 S (l2 S n kx kr) kx kr s0 s1 s2 s3 s4 s5 s6 := by kernel_rfl
noncomputable def G {β : Type} (S : Sl) (a0 : (List Int)) (a1 : Int) (a2 : (List Int)) (a3 : (List Int)) (a4 : (List Bool)) (K : (List Int) → Int → (List Int) → (List Int) → (List Bool) → Int → Option β) : Option β := l2 S S.n (fun y1 y2 y3 y4 y5 => K y1 y2 y3 y4 y5 (-1)) (fun y6 y7 y8 y9 y10 y11 => K y6 y7 y8 y9 y10 y11) a0 a1 a2 a3 a4 (a0.length : Int) 0
noncomputable def o : Orac := ⟨201, sin, sout, fun s K => G sl0 s.1.1 s.1.2.1.1 s.1.2.1.2.1 s.1.2.1.2.2.1 s.1.2.1.2.2.2.1 (fun x0 x1 x2 x3 x4 x5 => K ((x0, ((x1, (x2, (x3, (x4, ())))), ())), (x5, ())))⟩
noncomputable def C : Ctx := ⟨tyT, [impl_StripeOk_1.o], [⟨2, 0, h2, x2, y2, fun s kx kr => r2 sl0 sl0.n kx kr s⟩], 19, 2⟩
theorem ctx : CtxOk Tryz.prog C := ⟨tyOk, all1 impl_StripeOk_1.ok (all0)⟩
theorem e2 (β : Type) (L : h2.sig.den → Option β) (kx : x2.sig.den → Option β) (kr : y2.sig.den → Option β) (s : h2.sig.den) : evalBody C (nthC (loopsOf (bodyC Tryz.f201)) 0) 0 h2 x2 y2 L kx kr s = b2 sl0 (fun x0 x1 x2 x3 x4 x5 x6 => L ((x0, ((x1, (x2, (x3, (x4, ())))), ())), (x5, (x6, ())))) (fun x0 x1 x2 x3 x4 => kx ((x0, ((x1, (x2, (x3, (x4, ())))), ())), ())) (fun x0 x1 x2 x3 x4 x5 => kr ((x0, ((x1, (x2, (x3, (x4, ())))), ())), (x5, ()))) s.1.1 s.1.2.1.1 s.1.2.1.2.1 s.1.2.1.2.2.1 s.1.2.1.2.2.2.1 s.2.1 s.2.2.1 := by kernel_rfl
theorem g2 : LS Tryz.prog C ⟨2, 0, h2, x2, y2, fun s kx kr => r2 sl0 sl0.n kx kr s⟩ (loopsOf (bodyC Tryz.f201)) := LS.at (i := 0) (by kernel_rfl) (loop_good mixed ctx (ctx_nat ctx) (N := sl0.n) (fun _ _ _ _ => rfl) e2 (all1 (LS.none (by kernel_rfl)) (all0)))
theorem eG (β : Type) (s : sin.den) (K : sout.den → Option β) : evalFn C Tryz.f201 sin sout s K = o.F s K := by kernel_rfl
theorem ok : OracOk Tryz.prog o := fn_ok mixed Tryz.func201 (by kernel_rfl) ctx (c := bodyC Tryz.f201) (by kernel_rfl) (all1 g2 (all0)) (by kernel_rfl) (by kernel_rfl) (by kernel_rfl) (Nat.le_of_ble_eq_true (by kernel_rfl)) eG (by kernel_rfl) (Nat.le_of_ble_eq_true (by kernel_rfl))
end slices_IndexFunc_Sint_int_
end Go.Proofs.YtnbighmbgmjbkaaGreat.E
end
section
set_option linter.unusedVariables false
set_option linter.unusedSimpArgs false
namespace Go.Proofs.YtnbighmbgmjbkaaGreat.E
open Go Go.RowKit
set_option linter.unusedVariables false
set_option maxRecDepth 100000
namespace slices_ContainsFunc_Sint_int
def sin : Sig := ⟨[.buf I false, .box [.val I false, .val (.sl I) false, .val (.sl I) false, .val (.sl .bool) false]], [.one (.ref (.own 0)), .one (.ref (.fn 145 [1]))]⟩
def sout : Sig := ⟨[.buf I false, .box [.val I false, .val (.sl I) false, .val (.sl I) false, .val (.sl .bool) false]], [.one (.val .bool false)]⟩
noncomputable def G {β : Type} (S : Sl) (a0 : (List Int)) (a1 : Int) (a2 : (List Int)) (a3 : (List Int)) (a4 : (List Bool)) (K : (List Int) → Int → (List Int) → (List Int) → (List Bool) → Bool → Option β) : Option β := slices_IndexFunc_Sint_int_.G S a0 a1 a2 a3 a4 (fun y1 y2 y3 y4 y5 y6 => K y1 y2 y3 y4 y5 (S.le 0 y6))
noncomputable def o : Orac := ⟨144, sin, sout, fun s K => G sl0 s.1.1 s.1.2.1.1 s.1.2.1.2.1 s.1.2.1.2.2.1 s.1.2.1.2.2.2.1 (fun x0 x1 x2 x3 x4 x5 => K ((x0, ((x1, (x2, (x3, (x4, ())))), ())), (x5, ())))⟩
noncomputable def C : Ctx := ⟨tyT, [slices_IndexFunc_Sint_int_.o], [], 9, 2⟩
theorem ctx : CtxOk Tryz.prog C := ⟨tyOk, all1 slices_IndexFunc_Sint_int_.ok (all0)⟩
theorem eG (β : Type) (s : sin.den) (K : sout.den → Option β) : evalFn C Tryz.f144 sin sout s K = o.F s K := by kernel_rfl
theorem ok : OracOk Tryz.prog o := fn_ok mixed Tryz.func144 (by kernel_rfl) ctx (c := bodyC Tryz.f144) (by kernel_rfl) (all0) (by kernel_rfl) (by kernel_rfl) (by kernel_rfl) (Nat.le_of_ble_eq_true (by kernel_rfl)) eG (by kernel_rfl) (Nat.le_of_ble_eq_true (by kernel_rfl))
end slices_ContainsFunc_Sint_int
end Go.Proofs.YtnbighmbgmjbkaaGreat.E
end
section
set_option linter.unusedVariables false
set_option linter.unusedSimpArgs false
namespace Go.Proofs.YtnbighmbgmjbkaaGreat.E
open Go Go.RowKit
set_option linter.unusedVariables false
set_option maxRecDepth 100000
namespace impl_StripeOk
def sin : Sig := ⟨[], [.agg [.val I false, .val (.sl I) false, .val (.sl I) false, .val (.sl .bool) false]]⟩
def sout : Sig := ⟨[], [.one (.val .bool false)]⟩
def h4 : SS := ⟨[1, 15, 16, 17], ⟨[.box [.val I false, .val (.sl I) false, .val (.sl I) false, .val (.sl .bool) false]], [.one (.ref (.ptr 0)), .one (.val (.sl .bool) false), .one (.val I false), .one (.val I false)]⟩⟩
def x4 : SS := ⟨[1], ⟨[.box [.val I false, .val (.sl I) false, .val (.sl I) false, .val (.sl .bool) false]], [.one (.ref (.ptr 0))]⟩⟩
def y4 : SS := ⟨[2], ⟨[], [.one (.val .bool false)]⟩⟩
noncomputable def b4 {β : Type} (S : Sl) (L : Int → (List Int) → (List Int) → (List Bool) → (List Bool) → Int → Int → Option β) (kx : Int → (List Int) → (List Int) → (List Bool) → Option β) (kr : Bool → Option β) (s0 : Int) (s1 : (List Int)) (s2 : (List Int)) (s3 : (List Bool)) (s4 : (List Bool)) (s5 : Int) (s6 : Int) : Option β := bif (S.lt s6 s5) then (bif (S.ir s6 s4.length) then (bif (List.getD s4 (Int.toNat s6) false) then (bif (S.ir s6 s1.length) then (impl_FieldOk.G S (List.getD s1 (Int.toNat s6) 0) (fun y1 => bif (!y1) then (kr false) else (bif (S.ir s6 s2.length) then (impl_versOk.G S (List.getD s2 (Int.toNat s6) 0) (fun y2 => bif (!y2) then (kr false) else (bif (!(List.getD s4 (Int.toNat s6) false)) then (bif (S.ir s6 s1.length) then (bif (!S.eq (List.getD s1 (Int.toNat s6) 0) 0) then (kr false) else (bif (S.ir s6 s2.length) then (bif (!S.eq (List.getD s2 (Int.toNat s6) 0) 0) then (kr false) else (L s0 s1 s2 s3 s4 s5 (S.w (s6 + 1)))) else (none))) else (none)) else (L s0 s1 s2 s3 s4 s5 (S.w (s6 + 1)))))) else (none)))) else (none)) else (bif (!(List.getD s4 (Int.toNat s6) false)) then (bif (S.ir s6 s1.length) then (bif (!S.eq (List.getD s1 (Int.toNat s6) 0) 0) then (kr false) else (bif (S.ir s6 s2.length) then (bif (!S.eq (List.getD s2 (Int.toNat s6) 0) 0) then (kr false) else (L s0 s1 s2 s3 s4 s5 (S.w (s6 + 1)))) else (none))) else (none)) else (L s0 s1 s2 s3 s4 s5 (S.w (s6 + 1))))) else (none)) else (kx s0 s1 s2 s3)
noncomputable def r4 {β : Type} (S : Sl) (n : Nat) (kx : x4.sig.den → Option β) (kr : y4.sig.den → Option β) (s : h4.sig.den) : Option β := rounds (fun L kx kr s => b4 S (fun x0 x1 x2 x3 x4 x5 x6 => L (((x0, (x1, (x2, (x3, ())))), ()), (x4, (x5, (x6, ()))))) (fun x0 x1 x2 x3 => kx (((x0, (x1, (x2, (x3, ())))), ()), ())) (fun x0 => kr ((), (x0, ()))) s.1.1.1 s.1.1.2.1 s.1.1.2.2.1 s.1.1.2.2.2.1 s.2.1 s.2.2.1 s.2.2.2.1) kx kr n s
noncomputable def l4 {β : Type} (S : Sl) (n : Nat) (kx : Int → (List Int) → (List Int) → (List Bool) → Option β) (kr : Bool → Option β) (s0 : Int) (s1 : (List Int)) (s2 : (List Int)) (s3 : (List Bool)) (s4 : (List Bool)) (s5 : Int) (s6 : Int) : Option β := r4 S n (fun s => kx s.1.1.1 s.1.1.2.1 s.1.1.2.2.1 s.1.1.2.2.2.1) (fun s => kr s.2.1) (((s0, (s1, (s2, (s3, ())))), ()), (s4, (s5, (s6, ()))))
theorem t4 {β : Type} (S : Sl) (n : Nat) (kx : Int → (List Int) → (List Int) → (List Bool) → Option β) (kr : Bool → Option β) (s0 : Int) (s1 : (List Int)) (s2 : (List Int)) (s3 : (List Bool)) (s4 : (List Bool)) (s5 : Int) (s6 : Int) : l4 S (n + 1) kx kr s0 s1 s2 s3 s4 s5 s6 = b4 S (l4 S n kx kr) kx kr s0 s1 s2 s3 s4 s5 s6 := by kernel_rfl
noncomputable def G {β : Type} (S : Sl) (a0 : Int) (a1 : (List Int)) (a2 : (List Int)) (a3 : (List Bool)) (K : Bool → Option β) : Option β := impl_kindOk.G S a0 (fun y1 => bif (!y1) then (K false) else (impl_Stripe_shaped.G S a0 a1 a2 a3 (fun y2 => bif (!y2) then (K false) else (l4 S S.n (fun y3 y4 y5 y6 => impl_Stripe_versions.G S y3 y4 y5 y6 (fun y7 => slices_ContainsFunc_Sint_int.G S y7 y3 y4 y5 y6 (fun y8 y9 y10 y11 y12 y13 => K (!y13)))) (fun y14 => K y14) a0 a1 a2 a3 a3 (a3.length : Int) 0))))
noncomputable def o : Orac := ⟨62, sin, sout, fun s K => G sl0 s.2.1.1 s.2.1.2.1 s.2.1.2.2.1 s.2.1.2.2.2.1 (fun x0 => K ((), (x0, ())))⟩
noncomputable def C : Ctx := ⟨tyT, [impl_FieldOk.o, impl_Stripe_shaped.o, impl_Stripe_versions.o, impl_kindOk.o, impl_versOk.o, slices_ContainsFunc_Sint_int.o], [⟨4, 0, h4, x4, y4, fun s kx kr => r4 sl0 sl0.n kx kr s⟩], 67, 0⟩
theorem ctx : CtxOk Tryz.prog C := ⟨tyOk, all1 impl_FieldOk.ok (all1 impl_Stripe_shaped.ok (all1 impl_Stripe_versions.ok (all1 impl_kindOk.ok (all1 impl_versOk.ok (all1 slices_ContainsFunc_Sint_int.ok (all0))))))⟩
theorem e4 (β : Type) (L : h4.sig.den → Option β) (kx : x4.sig.den → Option β) (kr : y4.sig.den → Option β) (s : h4.sig.den) : evalBody C (nthC (loopsOf (bodyC Tryz.f62)) 0) 0 h4 x4 y4 L kx kr s = b4 sl0 (fun x0 x1 x2 x3 x4 x5 x6 => L (((x0, (x1, (x2, (x3, ())))), ()), (x4, (x5, (x6, ()))))) (fun x0 x1 x2 x3 => kx (((x0, (x1, (x2, (x3, ())))), ()), ())) (fun x0 => kr ((), (x0, ()))) s.1.1.1 s.1.1.2.1 s.1.1.2.2.1 s.1.1.2.2.2.1 s.2.1 s.2.2.1 s.2.2.2.1 := by kernel_rfl
theorem g4 : LS Tryz.prog C ⟨4, 0, h4, x4, y4, fun s kx kr => r4 sl0 sl0.n kx kr s⟩ (loopsOf (bodyC Tryz.f62)) := LS.at (i := 0) (by kernel_rfl) (loop_good mixed ctx (ctx_nat ctx) (N := sl0.n) (fun _ _ _ _ => rfl) e4 (all1 (LS.none (by kernel_rfl)) (all0)))
theorem eG (β : Type) (s : sin.den) (K : sout.den → Option β) : evalFn C Tryz.f62 sin sout s K = o.F s K := by kernel_rfl
theorem ok : OracOk Tryz.prog o := fn_ok mixed Tryz.func62 (by kernel_rfl) ctx (c := bodyC Tryz.f62) (by kernel_rfl) (all1 g4 (all0)) (by kernel_rfl) (by kernel_rfl) (by kernel_rfl) (Nat.le_of_ble_eq_true (by kernel_rfl)) eG (by kernel_rfl) (Nat.le_of_ble_eq_true (by kernel_rfl))
end impl_StripeOk
end Go.Proofs.YtnbighmbgmjbkaaGreat.E
end
section
set_option linter.unusedVariables false
set_option linter.unusedSimpArgs false
namespace Go.Proofs.YtnbighmbgmjbkaaGreat.E
open Go Go.RowKit
set_option linter.unusedVariables false
set_option maxRecDepth 100000
namespace impl_rank
def sin : Sig := ⟨[], [.one (.val (.sl (.arr 4 I)) false)]⟩
def sout : Sig := ⟨[], [.one (.val I false)]⟩
noncomputable def G {β : Type} (S : Sl) (a0 : (List (List Int))) (K : Int → Option β) : Option β := impl_spanOf.G S a0 (fun y1 y2 => K (y2.length : Int))
noncomputable def o : Orac := ⟨178, sin, sout, fun s K => G sl0 s.2.1 (fun x0 => K ((), (x0, ())))⟩
noncomputable def C : Ctx := ⟨tyT, [impl_spanOf.o], [], 9, 0⟩
theorem ctx : CtxOk Tryz.prog C := ⟨tyOk, all1 impl_spanOf.ok (all0)⟩
theorem eG (β : Type) (s : sin.den) (K : sout.den → Option β) : evalFn C Tryz.f178 sin sout s K = o.F s K := by kernel_rfl
theorem ok : OracOk Tryz.prog o := fn_ok mixed Tryz.func178 (by kernel_rfl) ctx (c := bodyC Tryz.f178) (by kernel_rfl) (all0) (by kernel_rfl) (by kernel_rfl) (by kernel_rfl) (Nat.le_of_ble_eq_true (by kernel_rfl)) eG (by kernel_rfl) (Nat.le_of_ble_eq_true (by kernel_rfl))
end impl_rank
end Go.Proofs.YtnbighmbgmjbkaaGreat.E
end
section
set_option linter.unusedVariables false
set_option linter.unusedSimpArgs false
namespace Go.Proofs.YtnbighmbgmjbkaaGreat.E
open Go Go.RowKit
set_option linter.unusedVariables false
set_option maxRecDepth 100000
namespace impl_bears
def sin : Sig := ⟨[], [.one (.val I false), .one (.val (.sl I) false)]⟩
def sout : Sig := ⟨[], [.one (.val .bool false)]⟩
noncomputable def G {β : Type} (S : Sl) (a0 : Int) (a1 : (List Int)) (K : Bool → Option β) : Option β := impl_rowsOf.G S a0 a1 (fun y1 => impl_rank.G S y1 (fun y2 => K (S.eq y2 4)))
noncomputable def o : Orac := ⟨98, sin, sout, fun s K => G sl0 s.2.1 s.2.2.1 (fun x0 => K ((), (x0, ())))⟩
noncomputable def C : Ctx := ⟨tyT, [impl_rank.o, impl_rowsOf.o], [], 10, 0⟩
theorem ctx : CtxOk Tryz.prog C := ⟨tyOk, all1 impl_rank.ok (all1 impl_rowsOf.ok (all0))⟩
theorem eG (β : Type) (s : sin.den) (K : sout.den → Option β) : evalFn C Tryz.f98 sin sout s K = o.F s K := by kernel_rfl
theorem ok : OracOk Tryz.prog o := fn_ok mixed Tryz.func98 (by kernel_rfl) ctx (c := bodyC Tryz.f98) (by kernel_rfl) (all0) (by kernel_rfl) (by kernel_rfl) (by kernel_rfl) (Nat.le_of_ble_eq_true (by kernel_rfl)) eG (by kernel_rfl) (Nat.le_of_ble_eq_true (by kernel_rfl))
end impl_bears
end Go.Proofs.YtnbighmbgmjbkaaGreat.E
end
section
set_option linter.unusedVariables false
set_option linter.unusedSimpArgs false
namespace Go.Proofs.YtnbighmbgmjbkaaGreat.E
open Go Go.RowKit
set_option linter.unusedVariables false
set_option maxRecDepth 100000
namespace impl_vector_list
def sin : Sig := ⟨[], [.one (.val (.arr 4 I) false)]⟩
def sout : Sig := ⟨[.buf I false], [.one (.ref (.own 0))]⟩
def h3 : SS := ⟨[3, 7, 8], ⟨[.buf I false], [.one (.ref (.own 0)), .agg [.val (.arr 4 I) false], .one (.val I false)]⟩⟩
def x3 : SS := ⟨[3], ⟨[.buf I false], [.one (.ref (.own 0))]⟩⟩
def y3 : SS := ⟨[], ⟨[], []⟩⟩
noncomputable def b3 {β : Type} (S : Sl) (L : (List Int) → (List Int) → Int → Option β) (kx : (List Int) → Option β) (kr : Option β) (s0 : (List Int)) (s1 : (List Int)) (s2 : Int) : Option β := bif (S.lt s2 4) then (bif (S.ir s2 4) then (bif (S.fw (s0 ++ [(List.getD s1 (Int.toNat s2) 0)]).length) then (L (s0 ++ [(List.getD s1 (Int.toNat s2) 0)]) s1 (S.w (s2 + 1))) else (none)) else (none)) else (kx s0)
noncomputable def r3 {β : Type} (S : Sl) (n : Nat) (kx : x3.sig.den → Option β) (kr : y3.sig.den → Option β) (s : h3.sig.den) : Option β := rounds (fun L kx kr s => b3 S (fun x0 x1 x2 => L ((x0, ()), ((x1, ()), (x2, ())))) (fun x0 => kx ((x0, ()), ())) (kr ((), ())) s.1.1 s.2.1.1 s.2.2.1) kx kr n s
noncomputable def l3 {β : Type} (S : Sl) (n : Nat) (kx : (List Int) → Option β) (kr : Option β) (s0 : (List Int)) (s1 : (List Int)) (s2 : Int) : Option β := r3 S n (fun s => kx s.1.1) (fun s => kr) ((s0, ()), ((s1, ()), (s2, ())))
theorem t3 {β : Type} (S : Sl) (n : Nat) (kx : (List Int) → Option β) (kr : Option β) (s0 : (List Int)) (s1 : (List Int)) (s2 : Int) : l3 S (n + 1) kx kr s0 s1 s2 = b3 S (l3 S n kx kr) kx kr s0 s1 s2 := by kernel_rfl
noncomputable def G {β : Type} (S : Sl) (a0 : (List Int)) (K : (List Int) → Option β) : Option β := bif ((S.le 0 0) && (S.le 0 4) && S.fw (Int.toNat 4)) then (l3 S S.n (fun y1 => K y1) none (List.replicate (Int.toNat 0) (0 : Int)) a0 0) else (none)
noncomputable def o : Orac := ⟨110, sin, sout, fun s K => G sl0 s.2.1 (fun x0 => K ((x0, ()), ()))⟩
noncomputable def C : Ctx := ⟨tyT, [], [⟨3, 0, h3, x3, y3, fun s kx kr => r3 sl0 sl0.n kx kr s⟩], 17, 0⟩
theorem ctx : CtxOk Tryz.prog C := ⟨tyOk, all0⟩
theorem e3 (β : Type) (L : h3.sig.den → Option β) (kx : x3.sig.den → Option β) (kr : y3.sig.den → Option β) (s : h3.sig.den) : evalBody C (nthC (loopsOf (bodyC Tryz.f110)) 0) 0 h3 x3 y3 L kx kr s = b3 sl0 (fun x0 x1 x2 => L ((x0, ()), ((x1, ()), (x2, ())))) (fun x0 => kx ((x0, ()), ())) (kr ((), ())) s.1.1 s.2.1.1 s.2.2.1 := by kernel_rfl
theorem g3 : LS Tryz.prog C ⟨3, 0, h3, x3, y3, fun s kx kr => r3 sl0 sl0.n kx kr s⟩ (loopsOf (bodyC Tryz.f110)) := LS.at (i := 0) (by kernel_rfl) (loop_good mixed ctx (ctx_nat ctx) (N := sl0.n) (fun _ _ _ _ => rfl) e3 (all1 (LS.none (by kernel_rfl)) (all0)))
theorem eG (β : Type) (s : sin.den) (K : sout.den → Option β) : evalFn C Tryz.f110 sin sout s K = o.F s K := by kernel_rfl
theorem ok : OracOk Tryz.prog o := fn_ok mixed Tryz.func110 (by kernel_rfl) ctx (c := bodyC Tryz.f110) (by kernel_rfl) (all1 g3 (all0)) (by kernel_rfl) (by kernel_rfl) (by kernel_rfl) (Nat.le_of_ble_eq_true (by kernel_rfl)) eG (by kernel_rfl) (Nat.le_of_ble_eq_true (by kernel_rfl))
end impl_vector_list
end Go.Proofs.YtnbighmbgmjbkaaGreat.E
end
section
set_option linter.unusedVariables false
set_option linter.unusedSimpArgs false
namespace Go.Proofs.YtnbighmbgmjbkaaGreat.E
open Go Go.RowKit
set_option linter.unusedVariables false
set_option maxRecDepth 100000
namespace impl_readData
def sin : Sig := ⟨[], [.one (.val I false), .one (.val (.sl I) false), .one (.val (.sl I) false)]⟩
def sout : Sig := ⟨[.buf I false], [.one (.ref (.own 0)), .one (.val .bool false)]⟩
noncomputable def G {β : Type} (S : Sl) (a0 : Int) (a1 : (List Int)) (a2 : (List Int)) (K : (List Int) → Bool → Option β) : Option β := impl_bears.G S a0 a2 (fun y1 => bif (!y1) then (K [] false) else (impl_fits.G S a0 a1 a2 (fun y2 => bif (!y2) then (K [] false) else (impl_solve.G S a0 a1 a2 (fun y3 => impl_vector_list.G S y3 (fun y4 => K y4 true))))))
noncomputable def o : Orac := ⟨176, sin, sout, fun s K => G sl0 s.2.1 s.2.2.1 s.2.2.2.1 (fun x0 x1 => K ((x0, ()), (x1, ())))⟩
noncomputable def C : Ctx := ⟨tyT, [impl_bears.o, impl_fits.o, impl_solve.o, impl_vector_list.o], [], 24, 0⟩
theorem ctx : CtxOk Tryz.prog C := ⟨tyOk, all1 impl_bears.ok (all1 impl_fits.ok (all1 impl_solve.ok (all1 impl_vector_list.ok (all0))))⟩
theorem eG (β : Type) (s : sin.den) (K : sout.den → Option β) : evalFn C Tryz.f176 sin sout s K = o.F s K := by kernel_rfl
theorem ok : OracOk Tryz.prog o := fn_ok mixed Tryz.func176 (by kernel_rfl) ctx (c := bodyC Tryz.f176) (by kernel_rfl) (all0) (by kernel_rfl) (by kernel_rfl) (by kernel_rfl) (Nat.le_of_ble_eq_true (by kernel_rfl)) eG (by kernel_rfl) (Nat.le_of_ble_eq_true (by kernel_rfl))
end impl_readData
end Go.Proofs.YtnbighmbgmjbkaaGreat.E
end
section
set_option linter.unusedVariables false
set_option linter.unusedSimpArgs false
namespace Go.Proofs.YtnbighmbgmjbkaaGreat.E
open Go Go.RowKit
set_option linter.unusedVariables false
set_option maxRecDepth 100000
namespace impl_Stripe_read
def sin : Sig := ⟨[], [.agg [.val I false, .val (.sl I) false, .val (.sl I) false, .val (.sl .bool) false]]⟩
def sout : Sig := ⟨[.buf I false], [.one (.ref (.own 0)), .one (.val I false), .one (.val .bool false)]⟩
def h2 : SS := ⟨[1, 10, 11, 12], ⟨[.box [.val I false, .val (.sl I) false, .val (.sl I) false, .val (.sl .bool) false], .buf I false], [.one (.ref (.ptr 0)), .one (.ref (.own 1)), .one (.val I false), .one (.val I false)]⟩⟩
def x2 : SS := ⟨[], ⟨[], []⟩⟩
def y2 : SS := ⟨[2, 3, 4], ⟨[.buf I false], [.one (.ref (.own 0)), .one (.val I false), .one (.val .bool false)]⟩⟩
noncomputable def b2 {β : Type} (S : Sl) (L : Int → (List Int) → (List Int) → (List Bool) → (List Int) → Int → Int → Option β) (kx : Option β) (kr : (List Int) → Int → Bool → Option β) (s0 : Int) (s1 : (List Int)) (s2 : (List Int)) (s3 : (List Bool)) (s4 : (List Int)) (s5 : Int) (s6 : Int) : Option β := bif (S.lt s6 s5) then (bif (S.ir s6 s4.length) then (impl_Stripe_of.G S s0 s1 s2 s3 (List.getD s4 (Int.toNat s6) 0) (fun y1 => impl_readData.G S s0 s1 y1 (fun y2 y3 => bif y3 then (kr y2 (List.getD s4 (Int.toNat s6) 0) true) else (L s0 s1 s2 s3 s4 s5 (S.w (s6 + 1)))))) else (none)) else (kx)
noncomputable def r2 {β : Type} (S : Sl) (n : Nat) (kx : x2.sig.den → Option β) (kr : y2.sig.den → Option β) (s : h2.sig.den) : Option β := rounds (fun L kx kr s => b2 S (fun x0 x1 x2 x3 x4 x5 x6 => L (((x0, (x1, (x2, (x3, ())))), (x4, ())), (x5, (x6, ())))) (kx ((), ())) (fun x0 x1 x2 => kr ((x0, ()), (x1, (x2, ())))) s.1.1.1 s.1.1.2.1 s.1.1.2.2.1 s.1.1.2.2.2.1 s.1.2.1 s.2.1 s.2.2.1) kx kr n s
noncomputable def l2 {β : Type} (S : Sl) (n : Nat) (kx : Option β) (kr : (List Int) → Int → Bool → Option β) (s0 : Int) (s1 : (List Int)) (s2 : (List Int)) (s3 : (List Bool)) (s4 : (List Int)) (s5 : Int) (s6 : Int) : Option β := r2 S n (fun s => kx) (fun s => kr s.1.1 s.2.1 s.2.2.1) (((s0, (s1, (s2, (s3, ())))), (s4, ())), (s5, (s6, ())))
theorem t2 {β : Type} (S : Sl) (n : Nat) (kx : Option β) (kr : (List Int) → Int → Bool → Option β) (s0 : Int) (s1 : (List Int)) (s2 : (List Int)) (s3 : (List Bool)) (s4 : (List Int)) (s5 : Int) (s6 : Int) : l2 S (n + 1) kx kr s0 s1 s2 s3 s4 s5 s6 = b2 S (l2 S n kx kr) kx kr s0 s1 s2 s3 s4 s5 s6 := by kernel_rfl
noncomputable def G {β : Type} (S : Sl) (a0 : Int) (a1 : (List Int)) (a2 : (List Int)) (a3 : (List Bool)) (K : (List Int) → Int → Bool → Option β) : Option β := impl_Stripe_versions.G S a0 a1 a2 a3 (fun y1 => l2 S S.n (K [] 0 false) (fun y2 y3 y4 => K y2 y3 y4) a0 a1 a2 a3 y1 (y1.length : Int) 0)
noncomputable def o : Orac := ⟨96, sin, sout, fun s K => G sl0 s.2.1.1 s.2.1.2.1 s.2.1.2.2.1 s.2.1.2.2.2.1 (fun x0 x1 x2 => K ((x0, ()), (x1, (x2, ()))))⟩
noncomputable def C : Ctx := ⟨tyT, [impl_Stripe_of.o, impl_Stripe_versions.o, impl_readData.o], [⟨2, 0, h2, x2, y2, fun s kx kr => r2 sl0 sl0.n kx kr s⟩], 31, 0⟩
theorem ctx : CtxOk Tryz.prog C := ⟨tyOk, all1 impl_Stripe_of.ok (all1 impl_Stripe_versions.ok (all1 impl_readData.ok (all0)))⟩
theorem e2 (β : Type) (L : h2.sig.den → Option β) (kx : x2.sig.den → Option β) (kr : y2.sig.den → Option β) (s : h2.sig.den) : evalBody C (nthC (loopsOf (bodyC Tryz.f96)) 0) 0 h2 x2 y2 L kx kr s = b2 sl0 (fun x0 x1 x2 x3 x4 x5 x6 => L (((x0, (x1, (x2, (x3, ())))), (x4, ())), (x5, (x6, ())))) (kx ((), ())) (fun x0 x1 x2 => kr ((x0, ()), (x1, (x2, ())))) s.1.1.1 s.1.1.2.1 s.1.1.2.2.1 s.1.1.2.2.2.1 s.1.2.1 s.2.1 s.2.2.1 := by kernel_rfl
theorem g2 : LS Tryz.prog C ⟨2, 0, h2, x2, y2, fun s kx kr => r2 sl0 sl0.n kx kr s⟩ (loopsOf (bodyC Tryz.f96)) := LS.at (i := 0) (by kernel_rfl) (loop_good mixed ctx (ctx_nat ctx) (N := sl0.n) (fun _ _ _ _ => rfl) e2 (all1 (LS.none (by kernel_rfl)) (all0)))
theorem eG (β : Type) (s : sin.den) (K : sout.den → Option β) : evalFn C Tryz.f96 sin sout s K = o.F s K := by kernel_rfl
theorem ok : OracOk Tryz.prog o := fn_ok mixed Tryz.func96 (by kernel_rfl) ctx (c := bodyC Tryz.f96) (by kernel_rfl) (all1 g2 (all0)) (by kernel_rfl) (by kernel_rfl) (by kernel_rfl) (Nat.le_of_ble_eq_true (by kernel_rfl)) eG (by kernel_rfl) (Nat.le_of_ble_eq_true (by kernel_rfl))
end impl_Stripe_read
end Go.Proofs.YtnbighmbgmjbkaaGreat.E
end
section
set_option linter.unusedVariables false
set_option linter.unusedSimpArgs false
namespace Go.Proofs.YtnbighmbgmjbkaaGreat.E
open Go Go.RowKit
set_option linter.unusedVariables false
set_option maxRecDepth 100000
namespace impl_StripeRead
def sin : Sig := ⟨[], [.agg [.val I false, .val (.sl I) false, .val (.sl I) false, .val (.sl .bool) false]]⟩
def sout : Sig := ⟨[.buf I false], [.one (.ref (.own 0)), .one (.val I false), .one (.val .bool false)]⟩
noncomputable def G {β : Type} (S : Sl) (a0 : Int) (a1 : (List Int)) (a2 : (List Int)) (a3 : (List Bool)) (K : (List Int) → Int → Bool → Option β) : Option β := impl_StripeOk.G S a0 a1 a2 a3 (fun y1 => bif (!y1) then (K [] 0 false) else (impl_Stripe_read.G S a0 a1 a2 a3 (fun y2 y3 y4 => K y2 y3 y4)))
noncomputable def o : Orac := ⟨24, sin, sout, fun s K => G sl0 s.2.1.1 s.2.1.2.1 s.2.1.2.2.1 s.2.1.2.2.2.1 (fun x0 x1 x2 => K ((x0, ()), (x1, (x2, ()))))⟩
noncomputable def C : Ctx := ⟨tyT, [impl_StripeOk.o, impl_Stripe_read.o], [], 13, 0⟩
theorem ctx : CtxOk Tryz.prog C := ⟨tyOk, all1 impl_StripeOk.ok (all1 impl_Stripe_read.ok (all0))⟩
theorem eG (β : Type) (s : sin.den) (K : sout.den → Option β) : evalFn C Tryz.f24 sin sout s K = o.F s K := by kernel_rfl
theorem ok : OracOk Tryz.prog o := fn_ok mixed Tryz.func24 (by kernel_rfl) ctx (c := bodyC Tryz.f24) (by kernel_rfl) (all0) (by kernel_rfl) (by kernel_rfl) (by kernel_rfl) (Nat.le_of_ble_eq_true (by kernel_rfl)) eG (by kernel_rfl) (Nat.le_of_ble_eq_true (by kernel_rfl))
end impl_StripeRead
end Go.Proofs.YtnbighmbgmjbkaaGreat.E
end
section
set_option linter.unusedVariables false
set_option linter.unusedSimpArgs false
namespace Go.Proofs.YtnbighmbgmjbkaaGreat.E
open Go Go.RowKit
set_option linter.unusedVariables false
set_option maxRecDepth 100000
namespace impl_Stripe_top
def sin : Sig := ⟨[], [.agg [.val I false, .val (.sl I) false, .val (.sl I) false, .val (.sl .bool) false]]⟩
def sout : Sig := ⟨[], [.one (.val I false)]⟩
def h2 : SS := ⟨[6, 7, 8], ⟨[.buf I false], [.one (.ref (.own 0)), .one (.val I false), .one (.val I false)]⟩⟩
def x2 : SS := ⟨[], ⟨[], []⟩⟩
def y2 : SS := ⟨[2], ⟨[], [.one (.val I false)]⟩⟩
noncomputable def b2 {β : Type} (S : Sl) (L : (List Int) → Int → Int → Option β) (kx : Option β) (kr : Int → Option β) (s0 : (List Int)) (s1 : Int) (s2 : Int) : Option β := bif (S.lt s2 s1) then (bif (S.ir s2 s0.length) then (kr (List.getD s0 (Int.toNat s2) 0)) else (none)) else (kx)
noncomputable def r2 {β : Type} (S : Sl) (n : Nat) (kx : x2.sig.den → Option β) (kr : y2.sig.den → Option β) (s : h2.sig.den) : Option β := rounds (fun L kx kr s => b2 S (fun x0 x1 x2 => L ((x0, ()), (x1, (x2, ())))) (kx ((), ())) (fun x0 => kr ((), (x0, ()))) s.1.1 s.2.1 s.2.2.1) kx kr n s
noncomputable def l2 {β : Type} (S : Sl) (n : Nat) (kx : Option β) (kr : Int → Option β) (s0 : (List Int)) (s1 : Int) (s2 : Int) : Option β := r2 S n (fun s => kx) (fun s => kr s.2.1) ((s0, ()), (s1, (s2, ())))
theorem t2 {β : Type} (S : Sl) (n : Nat) (kx : Option β) (kr : Int → Option β) (s0 : (List Int)) (s1 : Int) (s2 : Int) : l2 S (n + 1) kx kr s0 s1 s2 = b2 S (l2 S n kx kr) kx kr s0 s1 s2 := by kernel_rfl
noncomputable def G {β : Type} (S : Sl) (a0 : Int) (a1 : (List Int)) (a2 : (List Int)) (a3 : (List Bool)) (K : Int → Option β) : Option β := impl_Stripe_versions.G S a0 a1 a2 a3 (fun y1 => l2 S S.n (K 0) (fun y2 => K y2) y1 (y1.length : Int) 0)
noncomputable def o : Orac := ⟨91, sin, sout, fun s K => G sl0 s.2.1.1 s.2.1.2.1 s.2.1.2.2.1 s.2.1.2.2.2.1 (fun x0 => K ((), (x0, ())))⟩
noncomputable def C : Ctx := ⟨tyT, [impl_Stripe_versions.o], [⟨2, 0, h2, x2, y2, fun s kx kr => r2 sl0 sl0.n kx kr s⟩], 14, 0⟩
theorem ctx : CtxOk Tryz.prog C := ⟨tyOk, all1 impl_Stripe_versions.ok (all0)⟩
theorem e2 (β : Type) (L : h2.sig.den → Option β) (kx : x2.sig.den → Option β) (kr : y2.sig.den → Option β) (s : h2.sig.den) : evalBody C (nthC (loopsOf (bodyC Tryz.f91)) 0) 0 h2 x2 y2 L kx kr s = b2 sl0 (fun x0 x1 x2 => L ((x0, ()), (x1, (x2, ())))) (kx ((), ())) (fun x0 => kr ((), (x0, ()))) s.1.1 s.2.1 s.2.2.1 := by kernel_rfl
theorem g2 : LS Tryz.prog C ⟨2, 0, h2, x2, y2, fun s kx kr => r2 sl0 sl0.n kx kr s⟩ (loopsOf (bodyC Tryz.f91)) := LS.at (i := 0) (by kernel_rfl) (loop_good mixed ctx (ctx_nat ctx) (N := sl0.n) (fun _ _ _ _ => rfl) e2 (all1 (LS.none (by kernel_rfl)) (all0)))
theorem eG (β : Type) (s : sin.den) (K : sout.den → Option β) : evalFn C Tryz.f91 sin sout s K = o.F s K := by kernel_rfl
theorem ok : OracOk Tryz.prog o := fn_ok mixed Tryz.func91 (by kernel_rfl) ctx (c := bodyC Tryz.f91) (by kernel_rfl) (all1 g2 (all0)) (by kernel_rfl) (by kernel_rfl) (by kernel_rfl) (Nat.le_of_ble_eq_true (by kernel_rfl)) eG (by kernel_rfl) (Nat.le_of_ble_eq_true (by kernel_rfl))
end impl_Stripe_top
end Go.Proofs.YtnbighmbgmjbkaaGreat.E
end
section
set_option linter.unusedVariables false
set_option linter.unusedSimpArgs false
namespace Go.Proofs.YtnbighmbgmjbkaaGreat.E
open Go Go.RowKit
set_option linter.unusedVariables false
set_option maxRecDepth 100000
namespace impl_KeepOk
def sin : Sig := ⟨[], [.agg [.val I false, .val (.sl I) false, .val (.sl I) false, .val (.sl .bool) false, .val .bool false, .val I false, .val (.sl I) false, .val I false]]⟩
def sout : Sig := ⟨[], [.one (.val .bool false)]⟩
def h12 : SS := ⟨[1, 9, 96, 97, 98], ⟨[.box [.val I false, .val (.sl I) false, .val (.sl I) false, .val (.sl .bool) false, .val .bool false, .val I false, .val (.sl I) false, .val I false], .buf I false], [.one (.ref (.ptr 0)), .one (.ref (.own 1)), .one (.val (.sl I) false), .one (.val I false), .one (.val I false)]⟩⟩
def x12 : SS := ⟨[], ⟨[], []⟩⟩
def y12 : SS := ⟨[2], ⟨[], [.one (.val .bool false)]⟩⟩
noncomputable def b12 {β : Type} (S : Sl) (L : Int → (List Int) → (List Int) → (List Bool) → Bool → Int → (List Int) → Int → (List Int) → (List Int) → Int → Int → Option β) (kx : Option β) (kr : Bool → Option β) (s0 : Int) (s1 : (List Int)) (s2 : (List Int)) (s3 : (List Bool)) (s4 : Bool) (s5 : Int) (s6 : (List Int)) (s7 : Int) (s8 : (List Int)) (s9 : (List Int)) (s10 : Int) (s11 : Int) : Option β := bif (S.lt s11 s10) then (bif (S.ir s11 s9.length) then (bif (S.eq (List.getD s9 (Int.toNat s11) 0) s7) then (bif (S.ir s11 s3.length) then (bif (!(List.getD s3 (Int.toNat s11) false)) then (kr false) else (bif (S.ir s11 s1.length) then (bif (S.ir s11 s8.length) then (bif (!S.eq (List.getD s1 (Int.toNat s11) 0) (List.getD s8 (Int.toNat s11) 0)) then (kr false) else (L s0 s1 s2 s3 s4 s5 s6 s7 s8 s9 s10 (S.w (s11 + 1)))) else (none)) else (none))) else (none)) else (L s0 s1 s2 s3 s4 s5 s6 s7 s8 s9 s10 (S.w (s11 + 1)))) else (none)) else (kx)
noncomputable def r12 {β : Type} (S : Sl) (n : Nat) (kx : x12.sig.den → Option β) (kr : y12.sig.den → Option β) (s : h12.sig.den) : Option β := rounds (fun L kx kr s => b12 S (fun x0 x1 x2 x3 x4 x5 x6 x7 x8 x9 x10 x11 => L (((x0, (x1, (x2, (x3, (x4, (x5, (x6, (x7, ())))))))), (x8, ())), (x9, (x10, (x11, ()))))) (kx ((), ())) (fun x0 => kr ((), (x0, ()))) s.1.1.1 s.1.1.2.1 s.1.1.2.2.1 s.1.1.2.2.2.1 s.1.1.2.2.2.2.1 s.1.1.2.2.2.2.2.1 s.1.1.2.2.2.2.2.2.1 s.1.1.2.2.2.2.2.2.2.1 s.1.2.1 s.2.1 s.2.2.1 s.2.2.2.1) kx kr n s
noncomputable def l12 {β : Type} (S : Sl) (n : Nat) (kx : Option β) (kr : Bool → Option β) (s0 : Int) (s1 : (List Int)) (s2 : (List Int)) (s3 : (List Bool)) (s4 : Bool) (s5 : Int) (s6 : (List Int)) (s7 : Int) (s8 : (List Int)) (s9 : (List Int)) (s10 : Int) (s11 : Int) : Option β := r12 S n (fun s => kx) (fun s => kr s.2.1) (((s0, (s1, (s2, (s3, (s4, (s5, (s6, (s7, ())))))))), (s8, ())), (s9, (s10, (s11, ()))))
theorem t12 {β : Type} (S : Sl) (n : Nat) (kx : Option β) (kr : Bool → Option β) (s0 : Int) (s1 : (List Int)) (s2 : (List Int)) (s3 : (List Bool)) (s4 : Bool) (s5 : Int) (s6 : (List Int)) (s7 : Int) (s8 : (List Int)) (s9 : (List Int)) (s10 : Int) (s11 : Int) : l12 S (n + 1) kx kr s0 s1 s2 s3 s4 s5 s6 s7 s8 s9 s10 s11 = b12 S (l12 S n kx kr) kx kr s0 s1 s2 s3 s4 s5 s6 s7 s8 s9 s10 s11 := by kernel_rfl
noncomputable def G {β : Type} (S : Sl) (a0 : Int) (a1 : (List Int)) (a2 : (List Int)) (a3 : (List Bool)) (a4 : Bool) (a5 : Int) (a6 : (List Int)) (a7 : Int) (K : Bool → Option β) : Option β := bif (!a4) then (impl_StripeRead.G S a0 a1 a2 a3 (fun y1 y2 y3 => bif y3 then (bif (S.eq a5 0) then (bif (S.eq (a6.length : Int) 0) then (bif (S.eq a7 0) then (impl_Stripe_versions.G S a0 a1 a2 a3 (fun y4 => K (S.eq (y4.length : Int) 1))) else (K false)) else (K false)) else (K false)) else (K false))) else (impl_vectorOf.G S a6 (fun y5 y6 => bif (!y6) then (K false) else (impl_kindOk.G S a5 (fun y7 => bif (!y7) then (K false) else (impl_versOk.G S a7 (fun y8 => bif (!y8) then (K false) else (impl_Stripe_shaped.G S a0 a1 a2 a3 (fun y9 => bif (!y9) then (K false) else (impl_Keep_rest.G S a0 a1 a2 a3 a4 a5 a6 a7 (fun y10 y11 y12 y13 => impl_StripeOk.G S y13 y10 y11 y12 (fun y14 => bif (!y14) then (K false) else (impl_Stripe_versions.G S y13 y10 y11 y12 (fun y15 => bif (S.lt 1 (y15.length : Int)) then (K false) else (impl_Stripe_top.G S y13 y10 y11 y12 (fun y16 => bif (S.le a7 y16) then (K false) else (impl_encode.G S a5 y5 (fun y17 => l12 S S.n (K true) (fun y18 => K y18) a0 a1 a2 a3 a4 a5 a6 a7 y17 a2 (a2.length : Int) 0)))))))))))))))))
noncomputable def o : Orac := ⟨40, sin, sout, fun s K => G sl0 s.2.1.1 s.2.1.2.1 s.2.1.2.2.1 s.2.1.2.2.2.1 s.2.1.2.2.2.2.1 s.2.1.2.2.2.2.2.1 s.2.1.2.2.2.2.2.2.1 s.2.1.2.2.2.2.2.2.2.1 (fun x0 => K ((), (x0, ())))⟩
noncomputable def C : Ctx := ⟨tyT, [impl_Keep_rest.o, impl_StripeOk.o, impl_StripeRead.o, impl_Stripe_shaped.o, impl_Stripe_top.o, impl_Stripe_versions.o, impl_encode.o, impl_kindOk.o, impl_vectorOf.o, impl_versOk.o], [⟨12, 0, h12, x12, y12, fun s kx kr => r12 sl0 sl0.n kx kr s⟩], 130, 0⟩
theorem ctx : CtxOk Tryz.prog C := ⟨tyOk, all1 impl_Keep_rest.ok (all1 impl_StripeOk.ok (all1 impl_StripeRead.ok (all1 impl_Stripe_shaped.ok (all1 impl_Stripe_top.ok (all1 impl_Stripe_versions.ok (all1 impl_encode.ok (all1 impl_kindOk.ok (all1 impl_vectorOf.ok (all1 impl_versOk.ok (all0))))))))))⟩
theorem e12 (β : Type) (L : h12.sig.den → Option β) (kx : x12.sig.den → Option β) (kr : y12.sig.den → Option β) (s : h12.sig.den) : evalBody C (nthC (loopsOf (bodyC Tryz.f40)) 0) 0 h12 x12 y12 L kx kr s = b12 sl0 (fun x0 x1 x2 x3 x4 x5 x6 x7 x8 x9 x10 x11 => L (((x0, (x1, (x2, (x3, (x4, (x5, (x6, (x7, ())))))))), (x8, ())), (x9, (x10, (x11, ()))))) (kx ((), ())) (fun x0 => kr ((), (x0, ()))) s.1.1.1 s.1.1.2.1 s.1.1.2.2.1 s.1.1.2.2.2.1 s.1.1.2.2.2.2.1 s.1.1.2.2.2.2.2.1 s.1.1.2.2.2.2.2.2.1 s.1.1.2.2.2.2.2.2.2.1 s.1.2.1 s.2.1 s.2.2.1 s.2.2.2.1 := by kernel_rfl
theorem g12 : LS Tryz.prog C ⟨12, 0, h12, x12, y12, fun s kx kr => r12 sl0 sl0.n kx kr s⟩ (loopsOf (bodyC Tryz.f40)) := LS.at (i := 0) (by kernel_rfl) (loop_good mixed ctx (ctx_nat ctx) (N := sl0.n) (fun _ _ _ _ => rfl) e12 (all1 (LS.none (by kernel_rfl)) (all0)))
theorem eG (β : Type) (s : sin.den) (K : sout.den → Option β) : evalFn C Tryz.f40 sin sout s K = o.F s K := by kernel_rfl
theorem ok : OracOk Tryz.prog o := fn_ok mixed Tryz.func40 (by kernel_rfl) ctx (c := bodyC Tryz.f40) (by kernel_rfl) (all1 g12 (all0)) (by kernel_rfl) (by kernel_rfl) (by kernel_rfl) (Nat.le_of_ble_eq_true (by kernel_rfl)) eG (by kernel_rfl) (Nat.le_of_ble_eq_true (by kernel_rfl))
end impl_KeepOk
end Go.Proofs.YtnbighmbgmjbkaaGreat.E
end
section
set_option linter.unusedVariables false
set_option linter.unusedSimpArgs false
namespace Go.Proofs.YtnbighmbgmjbkaaGreat.E
open Go Go.RowKit
set_option linter.unusedVariables false
set_option maxRecDepth 100000
namespace laws_lkInts
def sin : Sig := ⟨[], [.one (.val (.sl I) false), .one (.val (.sl I) false)]⟩
def sout : Sig := ⟨[], [.one (.val .bool false)]⟩
def h4 : SS := ⟨[0, 1, 5], ⟨[], [.one (.val (.sl I) false), .one (.val (.sl I) false), .one (.val I false)]⟩⟩
def x4 : SS := ⟨[], ⟨[], []⟩⟩
def y4 : SS := ⟨[4], ⟨[], [.one (.val .bool false)]⟩⟩
noncomputable def b4 {β : Type} (S : Sl) (L : (List Int) → (List Int) → Int → Option β) (kx : Option β) (kr : Bool → Option β) (s0 : (List Int)) (s1 : (List Int)) (s2 : Int) : Option β := bif (S.lt s2 (s0.length : Int)) then (bif (S.ir s2 s0.length) then (bif (S.ir s2 s1.length) then (bif (!S.eq (List.getD s0 (Int.toNat s2) 0) (List.getD s1 (Int.toNat s2) 0)) then (kr false) else (L s0 s1 (S.w (s2 + 1)))) else (none)) else (none)) else (kx)
noncomputable def r4 {β : Type} (S : Sl) (n : Nat) (kx : x4.sig.den → Option β) (kr : y4.sig.den → Option β) (s : h4.sig.den) : Option β := rounds (fun L kx kr s => b4 S (fun x0 x1 x2 => L ((), (x0, (x1, (x2, ()))))) (kx ((), ())) (fun x0 => kr ((), (x0, ()))) s.2.1 s.2.2.1 s.2.2.2.1) kx kr n s
noncomputable def l4 {β : Type} (S : Sl) (n : Nat) (kx : Option β) (kr : Bool → Option β) (s0 : (List Int)) (s1 : (List Int)) (s2 : Int) : Option β := r4 S n (fun s => kx) (fun s => kr s.2.1) ((), (s0, (s1, (s2, ()))))
theorem t4 {β : Type} (S : Sl) (n : Nat) (kx : Option β) (kr : Bool → Option β) (s0 : (List Int)) (s1 : (List Int)) (s2 : Int) : l4 S (n + 1) kx kr s0 s1 s2 = b4 S (l4 S n kx kr) kx kr s0 s1 s2 := by kernel_rfl
noncomputable def G {β : Type} (S : Sl) (a0 : (List Int)) (a1 : (List Int)) (K : Bool → Option β) : Option β := bif (!S.eq (a0.length : Int) (a1.length : Int)) then (K false) else (l4 S S.n (K true) (fun y1 => K y1) a0 a1 0)
noncomputable def o : Orac := ⟨26, sin, sout, fun s K => G sl0 s.2.1 s.2.2.1 (fun x0 => K ((), (x0, ())))⟩
noncomputable def C : Ctx := ⟨tyT, [], [⟨4, 0, h4, x4, y4, fun s kx kr => r4 sl0 sl0.n kx kr s⟩], 26, 0⟩
theorem ctx : CtxOk Tryz.prog C := ⟨tyOk, all0⟩
theorem e4 (β : Type) (L : h4.sig.den → Option β) (kx : x4.sig.den → Option β) (kr : y4.sig.den → Option β) (s : h4.sig.den) : evalBody C (nthC (loopsOf (bodyC Tryz.f26)) 0) 0 h4 x4 y4 L kx kr s = b4 sl0 (fun x0 x1 x2 => L ((), (x0, (x1, (x2, ()))))) (kx ((), ())) (fun x0 => kr ((), (x0, ()))) s.2.1 s.2.2.1 s.2.2.2.1 := by kernel_rfl
theorem g4 : LS Tryz.prog C ⟨4, 0, h4, x4, y4, fun s kx kr => r4 sl0 sl0.n kx kr s⟩ (loopsOf (bodyC Tryz.f26)) := LS.at (i := 0) (by kernel_rfl) (loop_good mixed ctx (ctx_nat ctx) (N := sl0.n) (fun _ _ _ _ => rfl) e4 (all1 (LS.none (by kernel_rfl)) (all0)))
theorem eG (β : Type) (s : sin.den) (K : sout.den → Option β) : evalFn C Tryz.f26 sin sout s K = o.F s K := by kernel_rfl
theorem ok : OracOk Tryz.prog o := fn_ok mixed Tryz.func26 (by kernel_rfl) ctx (c := bodyC Tryz.f26) (by kernel_rfl) (all1 g4 (all0)) (by kernel_rfl) (by kernel_rfl) (by kernel_rfl) (Nat.le_of_ble_eq_true (by kernel_rfl)) eG (by kernel_rfl) (Nat.le_of_ble_eq_true (by kernel_rfl))
end laws_lkInts
end Go.Proofs.YtnbighmbgmjbkaaGreat.E
end
section
set_option linter.unusedVariables false
set_option linter.unusedSimpArgs false
namespace Go.Proofs.YtnbighmbgmjbkaaGreat.E
open Go Go.RowKit
set_option linter.unusedVariables false
set_option maxRecDepth 100000
namespace laws_lkBools
def sin : Sig := ⟨[], [.one (.val (.sl .bool) false), .one (.val (.sl .bool) false)]⟩
def sout : Sig := ⟨[], [.one (.val .bool false)]⟩
def h4 : SS := ⟨[0, 1, 5], ⟨[], [.one (.val (.sl .bool) false), .one (.val (.sl .bool) false), .one (.val I false)]⟩⟩
def x4 : SS := ⟨[], ⟨[], []⟩⟩
def y4 : SS := ⟨[4], ⟨[], [.one (.val .bool false)]⟩⟩
noncomputable def b4 {β : Type} (S : Sl) (L : (List Bool) → (List Bool) → Int → Option β) (kx : Option β) (kr : Bool → Option β) (s0 : (List Bool)) (s1 : (List Bool)) (s2 : Int) : Option β := bif (S.lt s2 (s0.length : Int)) then (bif (S.ir s2 s0.length) then (bif (S.ir s2 s1.length) then (bif ((List.getD s0 (Int.toNat s2) false) != (List.getD s1 (Int.toNat s2) false)) then (kr false) else (L s0 s1 (S.w (s2 + 1)))) else (none)) else (none)) else (kx)
noncomputable def r4 {β : Type} (S : Sl) (n : Nat) (kx : x4.sig.den → Option β) (kr : y4.sig.den → Option β) (s : h4.sig.den) : Option β := rounds (fun L kx kr s => b4 S (fun x0 x1 x2 => L ((), (x0, (x1, (x2, ()))))) (kx ((), ())) (fun x0 => kr ((), (x0, ()))) s.2.1 s.2.2.1 s.2.2.2.1) kx kr n s
noncomputable def l4 {β : Type} (S : Sl) (n : Nat) (kx : Option β) (kr : Bool → Option β) (s0 : (List Bool)) (s1 : (List Bool)) (s2 : Int) : Option β := r4 S n (fun s => kx) (fun s => kr s.2.1) ((), (s0, (s1, (s2, ()))))
theorem t4 {β : Type} (S : Sl) (n : Nat) (kx : Option β) (kr : Bool → Option β) (s0 : (List Bool)) (s1 : (List Bool)) (s2 : Int) : l4 S (n + 1) kx kr s0 s1 s2 = b4 S (l4 S n kx kr) kx kr s0 s1 s2 := by kernel_rfl
noncomputable def G {β : Type} (S : Sl) (a0 : (List Bool)) (a1 : (List Bool)) (K : Bool → Option β) : Option β := bif (!S.eq (a0.length : Int) (a1.length : Int)) then (K false) else (l4 S S.n (K true) (fun y1 => K y1) a0 a1 0)
noncomputable def o : Orac := ⟨95, sin, sout, fun s K => G sl0 s.2.1 s.2.2.1 (fun x0 => K ((), (x0, ())))⟩
noncomputable def C : Ctx := ⟨tyT, [], [⟨4, 0, h4, x4, y4, fun s kx kr => r4 sl0 sl0.n kx kr s⟩], 26, 0⟩
theorem ctx : CtxOk Tryz.prog C := ⟨tyOk, all0⟩
theorem e4 (β : Type) (L : h4.sig.den → Option β) (kx : x4.sig.den → Option β) (kr : y4.sig.den → Option β) (s : h4.sig.den) : evalBody C (nthC (loopsOf (bodyC Tryz.f95)) 0) 0 h4 x4 y4 L kx kr s = b4 sl0 (fun x0 x1 x2 => L ((), (x0, (x1, (x2, ()))))) (kx ((), ())) (fun x0 => kr ((), (x0, ()))) s.2.1 s.2.2.1 s.2.2.2.1 := by kernel_rfl
theorem g4 : LS Tryz.prog C ⟨4, 0, h4, x4, y4, fun s kx kr => r4 sl0 sl0.n kx kr s⟩ (loopsOf (bodyC Tryz.f95)) := LS.at (i := 0) (by kernel_rfl) (loop_good mixed ctx (ctx_nat ctx) (N := sl0.n) (fun _ _ _ _ => rfl) e4 (all1 (LS.none (by kernel_rfl)) (all0)))
theorem eG (β : Type) (s : sin.den) (K : sout.den → Option β) : evalFn C Tryz.f95 sin sout s K = o.F s K := by kernel_rfl
theorem ok : OracOk Tryz.prog o := fn_ok mixed Tryz.func95 (by kernel_rfl) ctx (c := bodyC Tryz.f95) (by kernel_rfl) (all1 g4 (all0)) (by kernel_rfl) (by kernel_rfl) (by kernel_rfl) (Nat.le_of_ble_eq_true (by kernel_rfl)) eG (by kernel_rfl) (Nat.le_of_ble_eq_true (by kernel_rfl))
end laws_lkBools
end Go.Proofs.YtnbighmbgmjbkaaGreat.E
end
section
set_option linter.unusedVariables false
set_option linter.unusedSimpArgs false
namespace Go.Proofs.YtnbighmbgmjbkaaGreat.E
open Go Go.RowKit
set_option linter.unusedVariables false
set_option maxRecDepth 100000
namespace laws_lkStripe
def sin : Sig := ⟨[], [.agg [.val I false, .val (.sl I) false, .val (.sl I) false, .val (.sl .bool) false], .agg [.val I false, .val (.sl I) false, .val (.sl I) false, .val (.sl .bool) false]]⟩
def sout : Sig := ⟨[], [.one (.val .bool false)]⟩
noncomputable def G {β : Type} (S : Sl) (a0 : Int) (a1 : (List Int)) (a2 : (List Int)) (a3 : (List Bool)) (a4 : Int) (a5 : (List Int)) (a6 : (List Int)) (a7 : (List Bool)) (K : Bool → Option β) : Option β := bif (S.eq a0 a4) then (laws_lkInts.G S a1 a5 (fun y1 => bif y1 then (laws_lkInts.G S a2 a6 (fun y2 => bif y2 then (laws_lkBools.G S a3 a7 (fun y3 => K y3)) else (K false))) else (K false))) else (K false)
noncomputable def o : Orac := ⟨23, sin, sout, fun s K => G sl0 s.2.1.1 s.2.1.2.1 s.2.1.2.2.1 s.2.1.2.2.2.1 s.2.2.1.1 s.2.2.1.2.1 s.2.2.1.2.2.1 s.2.2.1.2.2.2.1 (fun x0 => K ((), (x0, ())))⟩
noncomputable def C : Ctx := ⟨tyT, [laws_lkBools.o, laws_lkInts.o], [], 31, 0⟩
theorem ctx : CtxOk Tryz.prog C := ⟨tyOk, all1 laws_lkBools.ok (all1 laws_lkInts.ok (all0))⟩
theorem eG (β : Type) (s : sin.den) (K : sout.den → Option β) : evalFn C Tryz.f23 sin sout s K = o.F s K := by kernel_rfl
theorem ok : OracOk Tryz.prog o := fn_ok mixed Tryz.func23 (by kernel_rfl) ctx (c := bodyC Tryz.f23) (by kernel_rfl) (all0) (by kernel_rfl) (by kernel_rfl) (by kernel_rfl) (Nat.le_of_ble_eq_true (by kernel_rfl)) eG (by kernel_rfl) (Nat.le_of_ble_eq_true (by kernel_rfl))
end laws_lkStripe
end Go.Proofs.YtnbighmbgmjbkaaGreat.E
end
section
set_option linter.unusedVariables false
set_option linter.unusedSimpArgs false
namespace Go.Proofs.YtnbighmbgmjbkaaGreat.E
open Go Go.RowKit
set_option linter.unusedVariables false
set_option maxRecDepth 100000
namespace spec_l6Open
def sin : Sig := ⟨[], [.one (.val (.sl (.int .u8)) false)]⟩
def sout : Sig := ⟨[.box [.val (.sl (.int .u8)) false, .val I false]], [.one (.ref (.ptr 0))]⟩
noncomputable def G {β : Type} (S : Sl) (a0 : (List Int)) (K : (List Int) → Int → Option β) : Option β := bif (S.lt 2000 (a0.length : Int)) then (bif ((S.le 0 0) && (S.le 0 2000) && (S.le 2000 (a0.length : Int)) && (S.le (a0.length : Int) (a0.length : Int))) then (K (cutL a0 (Int.toNat 0) (Int.toNat 2000)) 0) else (none)) else (K a0 0)
noncomputable def o : Orac := ⟨81, sin, sout, fun s K => G sl0 s.2.1 (fun x0 x1 => K (((x0, (x1, ())), ()), ()))⟩
noncomputable def C : Ctx := ⟨tyT, [], [], 11, 0⟩
theorem ctx : CtxOk Tryz.prog C := ⟨tyOk, all0⟩
theorem eG (β : Type) (s : sin.den) (K : sout.den → Option β) : evalFn C Tryz.f81 sin sout s K = o.F s K := by kernel_rfl
theorem ok : OracOk Tryz.prog o := fn_ok mixed Tryz.func81 (by kernel_rfl) ctx (c := bodyC Tryz.f81) (by kernel_rfl) (all0) (by kernel_rfl) (by kernel_rfl) (by kernel_rfl) (Nat.le_of_ble_eq_true (by kernel_rfl)) eG (by kernel_rfl) (Nat.le_of_ble_eq_true (by kernel_rfl))
end spec_l6Open
end Go.Proofs.YtnbighmbgmjbkaaGreat.E
end
section
set_option linter.unusedVariables false
set_option linter.unusedSimpArgs false
namespace Go.Proofs.YtnbighmbgmjbkaaGreat.E
open Go Go.RowKit
set_option linter.unusedVariables false
set_option maxRecDepth 100000
namespace spec_l6Rd_pick
def sin : Sig := ⟨[.box [.val (.sl (.int .u8)) false, .val I false]], [.one (.ref (.ptr 0)), .one (.val I false)]⟩
def sout : Sig := ⟨[.box [.val (.sl (.int .u8)) false, .val I false]], [.one (.val I false)]⟩
noncomputable def G {β : Type} (S : Sl) (a0 : (List Int)) (a1 : Int) (a2 : Int) (K : (List Int) → Int → Int → Option β) : Option β := bif (S.lt a2 1) then (K a0 (S.w (a1 + 1)) 0) else (bif (S.eq (a0.length : Int) 0) then (K a0 (S.w (a1 + 1)) 0) else (bif (S.lt (S.w ((S.w (a1 + 1)) - 1)) (a0.length : Int)) then (bif (S.ir (S.w ((S.w (a1 + 1)) - 1)) a0.length) then (bif (!(a2 == 0)) then (K a0 (S.w (a1 + 1)) (Int.tmod (S.w (List.getD a0 (Int.toNat (S.w ((S.w (a1 + 1)) - 1))) 0)) a2)) else (none)) else (none)) else (bif (!((a0.length : Int) == 0)) then (bif (S.ir (Int.tmod (S.w ((S.w (a1 + 1)) - 1)) (a0.length : Int)) a0.length) then (bif (!((a0.length : Int) == 0)) then (bif (S.ir (Int.tmod (S.w ((S.w ((S.w ((S.w (a1 + 1)) - 1)) * 7)) + 3)) (a0.length : Int)) a0.length) then (bif (!((a0.length : Int) == 0)) then (bif (!(a2 == 0)) then (K a0 (S.w (a1 + 1)) (Int.tmod (S.xr .i64 (S.w ((S.w ((S.w ((S.w ((S.w (List.getD a0 (Int.toNat (Int.tmod (S.w ((S.w (a1 + 1)) - 1)) (a0.length : Int))) 0)) * 131)) + (S.w ((S.w (List.getD a0 (Int.toNat (Int.tmod (S.w ((S.w ((S.w ((S.w (a1 + 1)) - 1)) * 7)) + 3)) (a0.length : Int))) 0)) * 1117)))) + (S.w ((S.w ((S.w (a1 + 1)) - 1)) * 29)))) + (S.w ((S.w (Int.tdiv (S.w ((S.w (a1 + 1)) - 1)) (a0.length : Int))) * 53)))) (S.w (Int.tdiv (S.w ((S.w ((S.w ((S.w ((S.w (List.getD a0 (Int.toNat (Int.tmod (S.w ((S.w (a1 + 1)) - 1)) (a0.length : Int))) 0)) * 131)) + (S.w ((S.w (List.getD a0 (Int.toNat (Int.tmod (S.w ((S.w ((S.w ((S.w (a1 + 1)) - 1)) * 7)) + 3)) (a0.length : Int))) 0)) * 1117)))) + (S.w ((S.w ((S.w (a1 + 1)) - 1)) * 29)))) + (S.w ((S.w (Int.tdiv (S.w ((S.w (a1 + 1)) - 1)) (a0.length : Int))) * 53)))) 64))) a2)) else (none)) else (none)) else (none)) else (none)) else (none)) else (none))))
noncomputable def o : Orac := ⟨115, sin, sout, fun s K => G sl0 s.1.1.1 s.1.1.2.1 s.2.1 (fun x0 x1 x2 => K (((x0, (x1, ())), ()), (x2, ())))⟩
noncomputable def C : Ctx := ⟨tyT, [], [], 99, 1⟩
theorem ctx : CtxOk Tryz.prog C := ⟨tyOk, all0⟩
theorem eG (β : Type) (s : sin.den) (K : sout.den → Option β) : evalFn C Tryz.f115 sin sout s K = o.F s K := by kernel_rfl
theorem ok : OracOk Tryz.prog o := fn_ok mixed Tryz.func115 (by kernel_rfl) ctx (c := bodyC Tryz.f115) (by kernel_rfl) (all0) (by kernel_rfl) (by kernel_rfl) (by kernel_rfl) (Nat.le_of_ble_eq_true (by kernel_rfl)) eG (by kernel_rfl) (Nat.le_of_ble_eq_true (by kernel_rfl))
end spec_l6Rd_pick
end Go.Proofs.YtnbighmbgmjbkaaGreat.E
end
section
set_option linter.unusedVariables false
set_option linter.unusedSimpArgs false
namespace Go.Proofs.YtnbighmbgmjbkaaGreat.E
open Go Go.RowKit
set_option linter.unusedVariables false
set_option maxRecDepth 100000
namespace spec_l91Kind
def sin : Sig := ⟨[.box [.val (.sl (.int .u8)) false, .val I false]], [.one (.ref (.ptr 0))]⟩
def sout : Sig := ⟨[.box [.val (.sl (.int .u8)) false, .val I false]], [.one (.val I false)]⟩
noncomputable def G {β : Type} (S : Sl) (a0 : (List Int)) (a1 : Int) (K : (List Int) → Int → Int → Option β) : Option β := spec_l6Rd_pick.G S a0 a1 40 (fun y1 y2 y3 => bif (S.eq y3 0) then (spec_l6Rd_pick.G S y1 y2 2 (fun y4 y5 y6 => bif (S.ir y6 [0, 3].length) then (K y4 y5 (List.getD [0, 3] (Int.toNat y6) 0)) else (none))) else (spec_l6Rd_pick.G S y1 y2 2 (fun y7 y8 y9 => K y7 y8 (S.w ((1 : Int) + y9)))))
noncomputable def o : Orac := ⟨133, sin, sout, fun s K => G sl0 s.1.1.1 s.1.1.2.1 (fun x0 x1 x2 => K (((x0, (x1, ())), ()), (x2, ())))⟩
noncomputable def C : Ctx := ⟨tyT, [spec_l6Rd_pick.o], [], 14, 1⟩
theorem ctx : CtxOk Tryz.prog C := ⟨tyOk, all1 spec_l6Rd_pick.ok (all0)⟩
theorem eG (β : Type) (s : sin.den) (K : sout.den → Option β) : evalFn C Tryz.f133 sin sout s K = o.F s K := by kernel_rfl
theorem ok : OracOk Tryz.prog o := fn_ok mixed Tryz.func133 (by kernel_rfl) ctx (c := bodyC Tryz.f133) (by kernel_rfl) (all0) (by kernel_rfl) (by kernel_rfl) (by kernel_rfl) (Nat.le_of_ble_eq_true (by kernel_rfl)) eG (by kernel_rfl) (Nat.le_of_ble_eq_true (by kernel_rfl))
end spec_l91Kind
end Go.Proofs.YtnbighmbgmjbkaaGreat.E
end
section
set_option linter.unusedVariables false
set_option linter.unusedSimpArgs false
namespace Go.Proofs.YtnbighmbgmjbkaaGreat.E
open Go Go.RowKit
set_option linter.unusedVariables false
set_option maxRecDepth 100000
namespace spec_l91Vec
def sin : Sig := ⟨[.box [.val (.sl (.int .u8)) false, .val I false]], [.one (.ref (.ptr 0))]⟩
def sout : Sig := ⟨[.box [.val (.sl (.int .u8)) false, .val I false]], [.one (.val (.sl I) false)]⟩
def h3 : SS := ⟨[0, 3, 4], ⟨[.box [.val (.sl (.int .u8)) false, .val I false], .buf I false], [.one (.ref (.ptr 0)), .one (.ref (.own 1)), .one (.val I false)]⟩⟩
def x3 : SS := ⟨[0, 3], ⟨[.box [.val (.sl (.int .u8)) false, .val I false], .buf I false], [.one (.ref (.ptr 0)), .one (.ref (.own 1))]⟩⟩
def y3 : SS := ⟨[], ⟨[], []⟩⟩
noncomputable def b3 {β : Type} (S : Sl) (L : (List Int) → Int → (List Int) → Int → Option β) (kx : (List Int) → Int → (List Int) → Option β) (kr : Option β) (s0 : (List Int)) (s1 : Int) (s2 : (List Int)) (s3 : Int) : Option β := bif (S.lt s3 4) then (spec_l6Rd_pick.G S s0 s1 4 (fun y1 y2 y3 => spec_l6Rd_pick.G S y1 y2 31 (fun y4 y5 y6 => spec_l6Rd_pick.G S y4 y5 31 (fun y7 y8 y9 => spec_l6Rd_pick.G S y7 y8 4 (fun y10 y11 y12 => bif (S.ir y12 [0, y3, y6, y9].length) then (bif (S.fw (s2 ++ [(List.getD [0, y3, y6, y9] (Int.toNat y12) 0)]).length) then (L y10 y11 (s2 ++ [(List.getD [0, y3, y6, y9] (Int.toNat y12) 0)]) (S.w (s3 + 1))) else (none)) else (none)))))) else (kx s0 s1 s2)
noncomputable def r3 {β : Type} (S : Sl) (n : Nat) (kx : x3.sig.den → Option β) (kr : y3.sig.den → Option β) (s : h3.sig.den) : Option β := rounds (fun L kx kr s => b3 S (fun x0 x1 x2 x3 => L (((x0, (x1, ())), (x2, ())), (x3, ()))) (fun x0 x1 x2 => kx (((x0, (x1, ())), (x2, ())), ())) (kr ((), ())) s.1.1.1 s.1.1.2.1 s.1.2.1 s.2.1) kx kr n s
noncomputable def l3 {β : Type} (S : Sl) (n : Nat) (kx : (List Int) → Int → (List Int) → Option β) (kr : Option β) (s0 : (List Int)) (s1 : Int) (s2 : (List Int)) (s3 : Int) : Option β := r3 S n (fun s => kx s.1.1.1 s.1.1.2.1 s.1.2.1) (fun s => kr) (((s0, (s1, ())), (s2, ())), (s3, ()))
theorem t3 {β : Type} (S : Sl) (n : Nat) (kx : (List Int) → Int → (List Int) → Option β) (kr : Option β) (s0 : (List Int)) (s1 : Int) (s2 : (List Int)) (s3 : Int) : l3 S (n + 1) kx kr s0 s1 s2 s3 = b3 S (l3 S n kx kr) kx kr s0 s1 s2 s3 := by kernel_rfl
noncomputable def G {β : Type} (S : Sl) (a0 : (List Int)) (a1 : Int) (K : (List Int) → Int → (List Int) → Option β) : Option β := l3 S S.n (fun y1 y2 y3 => spec_l6Rd_pick.G S y1 y2 40 (fun y4 y5 y6 => bif (S.eq y6 0) then (bif ((S.le 0 1) && (S.le 1 (y3.length : Int)) && (S.le (y3.length : Int) (y3.length : Int)) && (S.le (y3.length : Int) (y3.length : Int))) then (K y4 y5 (cutL y3 (Int.toNat 1) (Int.toNat (y3.length : Int)))) else (none)) else (bif (S.eq y6 1) then (spec_l6Rd_pick.G S y4 y5 (y3.length : Int) (fun y7 y8 y9 => spec_l6Rd_pick.G S y7 y8 2 (fun y10 y11 y12 => bif (S.ir y12 [(-1), 31].length) then (bif (S.ir y9 y3.length) then (K y10 y11 (List.set y3 (Int.toNat y9) (List.getD [(-1), 31] (Int.toNat y12) 0))) else (none)) else (none)))) else (K y4 y5 y3)))) none a0 a1 [] 0
noncomputable def o : Orac := ⟨83, sin, sout, fun s K => G sl0 s.1.1.1 s.1.1.2.1 (fun x0 x1 x2 => K (((x0, (x1, ())), ()), (x2, ())))⟩
noncomputable def C : Ctx := ⟨tyT, [spec_l6Rd_pick.o], [⟨3, 0, h3, x3, y3, fun s kx kr => r3 sl0 sl0.n kx kr s⟩], 44, 1⟩
theorem ctx : CtxOk Tryz.prog C := ⟨tyOk, all1 spec_l6Rd_pick.ok (all0)⟩
theorem e3 (β : Type) (L : h3.sig.den → Option β) (kx : x3.sig.den → Option β) (kr : y3.sig.den → Option β) (s : h3.sig.den) : evalBody C (nthC (loopsOf (bodyC Tryz.f83)) 0) 0 h3 x3 y3 L kx kr s = b3 sl0 (fun x0 x1 x2 x3 => L (((x0, (x1, ())), (x2, ())), (x3, ()))) (fun x0 x1 x2 => kx (((x0, (x1, ())), (x2, ())), ())) (kr ((), ())) s.1.1.1 s.1.1.2.1 s.1.2.1 s.2.1 := by kernel_rfl
theorem g3 : LS Tryz.prog C ⟨3, 0, h3, x3, y3, fun s kx kr => r3 sl0 sl0.n kx kr s⟩ (loopsOf (bodyC Tryz.f83)) := LS.at (i := 0) (by kernel_rfl) (loop_good mixed ctx (ctx_nat ctx) (N := sl0.n) (fun _ _ _ _ => rfl) e3 (all1 (LS.none (by kernel_rfl)) (all0)))
theorem eG (β : Type) (s : sin.den) (K : sout.den → Option β) : evalFn C Tryz.f83 sin sout s K = o.F s K := by kernel_rfl
theorem ok : OracOk Tryz.prog o := fn_ok mixed Tryz.func83 (by kernel_rfl) ctx (c := bodyC Tryz.f83) (by kernel_rfl) (all1 g3 (all0)) (by kernel_rfl) (by kernel_rfl) (by kernel_rfl) (Nat.le_of_ble_eq_true (by kernel_rfl)) eG (by kernel_rfl) (Nat.le_of_ble_eq_true (by kernel_rfl))
end spec_l91Vec
end Go.Proofs.YtnbighmbgmjbkaaGreat.E
end
section
set_option linter.unusedVariables false
set_option linter.unusedSimpArgs false
namespace Go.Proofs.YtnbighmbgmjbkaaGreat.E
open Go Go.RowKit
set_option linter.unusedVariables false
set_option maxRecDepth 100000
namespace spec_l6In
def sin : Sig := ⟨[], [.one (.val I false), .one (.val I false), .one (.val I false)]⟩
def sout : Sig := ⟨[], [.one (.val .bool false)]⟩
noncomputable def G {β : Type} (S : Sl) (a0 : Int) (a1 : Int) (a2 : Int) (K : Bool → Option β) : Option β := bif (S.le a1 a0) then (K (S.le a0 a2)) else (K false)
noncomputable def o : Orac := ⟨119, sin, sout, fun s K => G sl0 s.2.1 s.2.2.1 s.2.2.2.1 (fun x0 => K ((), (x0, ())))⟩
noncomputable def C : Ctx := ⟨tyT, [], [], 15, 0⟩
theorem ctx : CtxOk Tryz.prog C := ⟨tyOk, all0⟩
theorem eG (β : Type) (s : sin.den) (K : sout.den → Option β) : evalFn C Tryz.f119 sin sout s K = o.F s K := by kernel_rfl
theorem ok : OracOk Tryz.prog o := fn_ok mixed Tryz.func119 (by kernel_rfl) ctx (c := bodyC Tryz.f119) (by kernel_rfl) (all0) (by kernel_rfl) (by kernel_rfl) (by kernel_rfl) (Nat.le_of_ble_eq_true (by kernel_rfl)) eG (by kernel_rfl) (Nat.le_of_ble_eq_true (by kernel_rfl))
end spec_l6In
end Go.Proofs.YtnbighmbgmjbkaaGreat.E
end
section
set_option linter.unusedVariables false
set_option linter.unusedSimpArgs false
namespace Go.Proofs.YtnbighmbgmjbkaaGreat.E
open Go Go.RowKit
set_option linter.unusedVariables false
set_option maxRecDepth 100000
namespace spec_FieldOk
def sin : Sig := ⟨[], [.one (.val I false)]⟩
def sout : Sig := ⟨[], [.one (.val .bool false)]⟩
noncomputable def G {β : Type} (S : Sl) (a0 : Int) (K : Bool → Option β) : Option β := spec_l6In.G S a0 0 30 (fun y1 => K y1)
noncomputable def o : Orac := ⟨170, sin, sout, fun s K => G sl0 s.2.1 (fun x0 => K ((), (x0, ())))⟩
noncomputable def C : Ctx := ⟨tyT, [spec_l6In.o], [], 5, 0⟩
theorem ctx : CtxOk Tryz.prog C := ⟨tyOk, all1 spec_l6In.ok (all0)⟩
theorem eG (β : Type) (s : sin.den) (K : sout.den → Option β) : evalFn C Tryz.f170 sin sout s K = o.F s K := by kernel_rfl
theorem ok : OracOk Tryz.prog o := fn_ok mixed Tryz.func170 (by kernel_rfl) ctx (c := bodyC Tryz.f170) (by kernel_rfl) (all0) (by kernel_rfl) (by kernel_rfl) (by kernel_rfl) (Nat.le_of_ble_eq_true (by kernel_rfl)) eG (by kernel_rfl) (Nat.le_of_ble_eq_true (by kernel_rfl))
end spec_FieldOk
end Go.Proofs.YtnbighmbgmjbkaaGreat.E
end
section
set_option linter.unusedVariables false
set_option linter.unusedSimpArgs false
namespace Go.Proofs.YtnbighmbgmjbkaaGreat.E
open Go Go.RowKit
set_option linter.unusedVariables false
set_option maxRecDepth 100000
namespace spec_VecOk
def sin : Sig := ⟨[], [.one (.val (.sl I) false)]⟩
def sout : Sig := ⟨[], [.one (.val .bool false)]⟩
def h2 : SS := ⟨[0, 3], ⟨[], [.one (.val (.sl I) false), .one (.val I false)]⟩⟩
def x2 : SS := ⟨[0], ⟨[], [.one (.val (.sl I) false)]⟩⟩
def y2 : SS := ⟨[2], ⟨[], [.one (.val .bool false)]⟩⟩
noncomputable def b2 {β : Type} (S : Sl) (L : (List Int) → Int → Option β) (kx : (List Int) → Option β) (kr : Bool → Option β) (s0 : (List Int)) (s1 : Int) : Option β := bif (S.lt s1 (s0.length : Int)) then (bif (S.ir s1 s0.length) then (spec_FieldOk.G S (List.getD s0 (Int.toNat s1) 0) (fun y1 => bif (!y1) then (kr false) else (L s0 (S.w (s1 + 1))))) else (none)) else (kx s0)
noncomputable def r2 {β : Type} (S : Sl) (n : Nat) (kx : x2.sig.den → Option β) (kr : y2.sig.den → Option β) (s : h2.sig.den) : Option β := rounds (fun L kx kr s => b2 S (fun x0 x1 => L ((), (x0, (x1, ())))) (fun x0 => kx ((), (x0, ()))) (fun x0 => kr ((), (x0, ()))) s.2.1 s.2.2.1) kx kr n s
noncomputable def l2 {β : Type} (S : Sl) (n : Nat) (kx : (List Int) → Option β) (kr : Bool → Option β) (s0 : (List Int)) (s1 : Int) : Option β := r2 S n (fun s => kx s.2.1) (fun s => kr s.2.1) ((), (s0, (s1, ())))
theorem t2 {β : Type} (S : Sl) (n : Nat) (kx : (List Int) → Option β) (kr : Bool → Option β) (s0 : (List Int)) (s1 : Int) : l2 S (n + 1) kx kr s0 s1 = b2 S (l2 S n kx kr) kx kr s0 s1 := by kernel_rfl
noncomputable def G {β : Type} (S : Sl) (a0 : (List Int)) (K : Bool → Option β) : Option β := l2 S S.n (fun y1 => K (S.eq (y1.length : Int) 4)) (fun y2 => K y2) a0 0
noncomputable def o : Orac := ⟨85, sin, sout, fun s K => G sl0 s.2.1 (fun x0 => K ((), (x0, ())))⟩
noncomputable def C : Ctx := ⟨tyT, [spec_FieldOk.o], [⟨2, 0, h2, x2, y2, fun s kx kr => r2 sl0 sl0.n kx kr s⟩], 19, 0⟩
theorem ctx : CtxOk Tryz.prog C := ⟨tyOk, all1 spec_FieldOk.ok (all0)⟩
theorem e2 (β : Type) (L : h2.sig.den → Option β) (kx : x2.sig.den → Option β) (kr : y2.sig.den → Option β) (s : h2.sig.den) : evalBody C (nthC (loopsOf (bodyC Tryz.f85)) 0) 0 h2 x2 y2 L kx kr s = b2 sl0 (fun x0 x1 => L ((), (x0, (x1, ())))) (fun x0 => kx ((), (x0, ()))) (fun x0 => kr ((), (x0, ()))) s.2.1 s.2.2.1 := by kernel_rfl
theorem g2 : LS Tryz.prog C ⟨2, 0, h2, x2, y2, fun s kx kr => r2 sl0 sl0.n kx kr s⟩ (loopsOf (bodyC Tryz.f85)) := LS.at (i := 0) (by kernel_rfl) (loop_good mixed ctx (ctx_nat ctx) (N := sl0.n) (fun _ _ _ _ => rfl) e2 (all1 (LS.none (by kernel_rfl)) (all0)))
theorem eG (β : Type) (s : sin.den) (K : sout.den → Option β) : evalFn C Tryz.f85 sin sout s K = o.F s K := by kernel_rfl
theorem ok : OracOk Tryz.prog o := fn_ok mixed Tryz.func85 (by kernel_rfl) ctx (c := bodyC Tryz.f85) (by kernel_rfl) (all1 g2 (all0)) (by kernel_rfl) (by kernel_rfl) (by kernel_rfl) (Nat.le_of_ble_eq_true (by kernel_rfl)) eG (by kernel_rfl) (Nat.le_of_ble_eq_true (by kernel_rfl))
end spec_VecOk
end Go.Proofs.YtnbighmbgmjbkaaGreat.E
end
section
set_option linter.unusedVariables false
set_option linter.unusedSimpArgs false
namespace Go.Proofs.YtnbighmbgmjbkaaGreat.E
open Go Go.RowKit
set_option linter.unusedVariables false
set_option maxRecDepth 100000
namespace spec_l2Dot
def sin : Sig := ⟨[], [.one (.val (.sl I) false), .one (.val (.sl I) false)]⟩
def sout : Sig := ⟨[], [.one (.val I false)]⟩
def h3 : SS := ⟨[0, 1, 5, 6], ⟨[], [.one (.val (.sl I) false), .one (.val (.sl I) false), .one (.val I false), .one (.val I false)]⟩⟩
def x3 : SS := ⟨[5], ⟨[], [.one (.val I false)]⟩⟩
def y3 : SS := ⟨[], ⟨[], []⟩⟩
noncomputable def b3 {β : Type} (S : Sl) (L : (List Int) → (List Int) → Int → Int → Option β) (kx : Int → Option β) (kr : Option β) (s0 : (List Int)) (s1 : (List Int)) (s2 : Int) (s3 : Int) : Option β := bif (S.lt s3 (s0.length : Int)) then (bif (S.ir s3 s0.length) then (bif (S.ir s3 s1.length) then (L s0 s1 (Int.tmod (S.w (s2 + (S.w ((List.getD s0 (Int.toNat s3) 0) * (List.getD s1 (Int.toNat s3) 0))))) 31) (S.w (s3 + 1))) else (none)) else (none)) else (kx s2)
noncomputable def r3 {β : Type} (S : Sl) (n : Nat) (kx : x3.sig.den → Option β) (kr : y3.sig.den → Option β) (s : h3.sig.den) : Option β := rounds (fun L kx kr s => b3 S (fun x0 x1 x2 x3 => L ((), (x0, (x1, (x2, (x3, ())))))) (fun x0 => kx ((), (x0, ()))) (kr ((), ())) s.2.1 s.2.2.1 s.2.2.2.1 s.2.2.2.2.1) kx kr n s
noncomputable def l3 {β : Type} (S : Sl) (n : Nat) (kx : Int → Option β) (kr : Option β) (s0 : (List Int)) (s1 : (List Int)) (s2 : Int) (s3 : Int) : Option β := r3 S n (fun s => kx s.2.1) (fun s => kr) ((), (s0, (s1, (s2, (s3, ())))))
theorem t3 {β : Type} (S : Sl) (n : Nat) (kx : Int → Option β) (kr : Option β) (s0 : (List Int)) (s1 : (List Int)) (s2 : Int) (s3 : Int) : l3 S (n + 1) kx kr s0 s1 s2 s3 = b3 S (l3 S n kx kr) kx kr s0 s1 s2 s3 := by kernel_rfl
noncomputable def G {β : Type} (S : Sl) (a0 : (List Int)) (a1 : (List Int)) (K : Int → Option β) : Option β := l3 S S.n (fun y1 => K y1) none a0 a1 0 0
noncomputable def o : Orac := ⟨189, sin, sout, fun s K => G sl0 s.2.1 s.2.2.1 (fun x0 => K ((), (x0, ())))⟩
noncomputable def C : Ctx := ⟨tyT, [], [⟨3, 0, h3, x3, y3, fun s kx kr => r3 sl0 sl0.n kx kr s⟩], 26, 0⟩
theorem ctx : CtxOk Tryz.prog C := ⟨tyOk, all0⟩
theorem e3 (β : Type) (L : h3.sig.den → Option β) (kx : x3.sig.den → Option β) (kr : y3.sig.den → Option β) (s : h3.sig.den) : evalBody C (nthC (loopsOf (bodyC Tryz.f189)) 0) 0 h3 x3 y3 L kx kr s = b3 sl0 (fun x0 x1 x2 x3 => L ((), (x0, (x1, (x2, (x3, ())))))) (fun x0 => kx ((), (x0, ()))) (kr ((), ())) s.2.1 s.2.2.1 s.2.2.2.1 s.2.2.2.2.1 := by kernel_rfl
theorem g3 : LS Tryz.prog C ⟨3, 0, h3, x3, y3, fun s kx kr => r3 sl0 sl0.n kx kr s⟩ (loopsOf (bodyC Tryz.f189)) := LS.at (i := 0) (by kernel_rfl) (loop_good mixed ctx (ctx_nat ctx) (N := sl0.n) (fun _ _ _ _ => rfl) e3 (all1 (LS.none (by kernel_rfl)) (all0)))
theorem eG (β : Type) (s : sin.den) (K : sout.den → Option β) : evalFn C Tryz.f189 sin sout s K = o.F s K := by kernel_rfl
theorem ok : OracOk Tryz.prog o := fn_ok mixed Tryz.func189 (by kernel_rfl) ctx (c := bodyC Tryz.f189) (by kernel_rfl) (all1 g3 (all0)) (by kernel_rfl) (by kernel_rfl) (by kernel_rfl) (Nat.le_of_ble_eq_true (by kernel_rfl)) eG (by kernel_rfl) (Nat.le_of_ble_eq_true (by kernel_rfl))
end spec_l2Dot
end Go.Proofs.YtnbighmbgmjbkaaGreat.E
end
section
set_option linter.unusedVariables false
set_option linter.unusedSimpArgs false
namespace Go.Proofs.YtnbighmbgmjbkaaGreat.E
open Go Go.RowKit
set_option linter.unusedVariables false
set_option maxRecDepth 100000
namespace spec_l4Row
def sin : Sig := ⟨[], [.one (.val I false), .one (.val I false)]⟩
def sout : Sig := ⟨[], [.one (.val (.sl I) false)]⟩
noncomputable def G {β : Type} (S : Sl) (a0 : Int) (a1 : Int) (K : (List Int) → Option β) : Option β := bif (S.eq a0 1) then (bif (S.ir a1 [[1, 0, 0, 0], [0, 1, 0, 0], [0, 0, 1, 0], [0, 0, 0, 1], [1, 1, 0, 0], [0, 0, 1, 1], [1, 2, 4, 8], [1, 3, 9, 27]].length) then (K (List.getD [[1, 0, 0, 0], [0, 1, 0, 0], [0, 0, 1, 0], [0, 0, 0, 1], [1, 1, 0, 0], [0, 0, 1, 1], [1, 2, 4, 8], [1, 3, 9, 27]] (Int.toNat a1) [])) else (none)) else (K [1, (S.w (a1 + 1)), (Int.tmod (S.w ((S.w (a1 + 1)) * (S.w (a1 + 1)))) 31), (Int.tmod (S.w ((S.w ((S.w (a1 + 1)) * (S.w (a1 + 1)))) * (S.w (a1 + 1)))) 31)])
noncomputable def o : Orac := ⟨190, sin, sout, fun s K => G sl0 s.2.1 s.2.2.1 (fun x0 => K ((), (x0, ())))⟩
noncomputable def C : Ctx := ⟨tyT, [], [], 34, 0⟩
theorem ctx : CtxOk Tryz.prog C := ⟨tyOk, all0⟩
theorem eG (β : Type) (s : sin.den) (K : sout.den → Option β) : evalFn C Tryz.f190 sin sout s K = o.F s K := by kernel_rfl
theorem ok : OracOk Tryz.prog o := fn_ok mixed Tryz.func190 (by kernel_rfl) ctx (c := bodyC Tryz.f190) (by kernel_rfl) (all0) (by kernel_rfl) (by kernel_rfl) (by kernel_rfl) (Nat.le_of_ble_eq_true (by kernel_rfl)) eG (by kernel_rfl) (Nat.le_of_ble_eq_true (by kernel_rfl))
end spec_l4Row
end Go.Proofs.YtnbighmbgmjbkaaGreat.E
end
section
set_option linter.unusedVariables false
set_option linter.unusedSimpArgs false
namespace Go.Proofs.YtnbighmbgmjbkaaGreat.E
open Go Go.RowKit
set_option linter.unusedVariables false
set_option maxRecDepth 100000
namespace spec_l4All
def sin : Sig := ⟨[], [.one (.val I false), .one (.val (.sl I) false)]⟩
def sout : Sig := ⟨[.buf I false], [.one (.ref (.own 0))]⟩
def h3 : SS := ⟨[0, 1, 5, 6], ⟨[.buf I false], [.one (.val I false), .one (.val (.sl I) false), .one (.ref (.own 0)), .one (.val I false)]⟩⟩
def x3 : SS := ⟨[5], ⟨[.buf I false], [.one (.ref (.own 0))]⟩⟩
def y3 : SS := ⟨[], ⟨[], []⟩⟩
noncomputable def b3 {β : Type} (S : Sl) (L : (List Int) → Int → (List Int) → Int → Option β) (kx : (List Int) → Option β) (kr : Option β) (s0 : (List Int)) (s1 : Int) (s2 : (List Int)) (s3 : Int) : Option β := bif (S.lt s3 8) then (spec_l4Row.G S s1 s3 (fun y1 => spec_l2Dot.G S y1 s2 (fun y2 => bif (S.fw (s0 ++ [y2]).length) then (L (s0 ++ [y2]) s1 s2 (S.w (s3 + 1))) else (none)))) else (kx s0)
noncomputable def r3 {β : Type} (S : Sl) (n : Nat) (kx : x3.sig.den → Option β) (kr : y3.sig.den → Option β) (s : h3.sig.den) : Option β := rounds (fun L kx kr s => b3 S (fun x0 x1 x2 x3 => L ((x0, ()), (x1, (x2, (x3, ()))))) (fun x0 => kx ((x0, ()), ())) (kr ((), ())) s.1.1 s.2.1 s.2.2.1 s.2.2.2.1) kx kr n s
noncomputable def l3 {β : Type} (S : Sl) (n : Nat) (kx : (List Int) → Option β) (kr : Option β) (s0 : (List Int)) (s1 : Int) (s2 : (List Int)) (s3 : Int) : Option β := r3 S n (fun s => kx s.1.1) (fun s => kr) ((s0, ()), (s1, (s2, (s3, ()))))
theorem t3 {β : Type} (S : Sl) (n : Nat) (kx : (List Int) → Option β) (kr : Option β) (s0 : (List Int)) (s1 : Int) (s2 : (List Int)) (s3 : Int) : l3 S (n + 1) kx kr s0 s1 s2 s3 = b3 S (l3 S n kx kr) kx kr s0 s1 s2 s3 := by kernel_rfl
noncomputable def G {β : Type} (S : Sl) (a0 : Int) (a1 : (List Int)) (K : (List Int) → Option β) : Option β := l3 S S.n (fun y1 => K y1) none [] a0 a1 0
noncomputable def o : Orac := ⟨125, sin, sout, fun s K => G sl0 s.2.1 s.2.2.1 (fun x0 => K ((x0, ()), ()))⟩
noncomputable def C : Ctx := ⟨tyT, [spec_l2Dot.o, spec_l4Row.o], [⟨3, 0, h3, x3, y3, fun s kx kr => r3 sl0 sl0.n kx kr s⟩], 21, 0⟩
theorem ctx : CtxOk Tryz.prog C := ⟨tyOk, all1 spec_l2Dot.ok (all1 spec_l4Row.ok (all0))⟩
theorem e3 (β : Type) (L : h3.sig.den → Option β) (kx : x3.sig.den → Option β) (kr : y3.sig.den → Option β) (s : h3.sig.den) : evalBody C (nthC (loopsOf (bodyC Tryz.f125)) 0) 0 h3 x3 y3 L kx kr s = b3 sl0 (fun x0 x1 x2 x3 => L ((x0, ()), (x1, (x2, (x3, ()))))) (fun x0 => kx ((x0, ()), ())) (kr ((), ())) s.1.1 s.2.1 s.2.2.1 s.2.2.2.1 := by kernel_rfl
theorem g3 : LS Tryz.prog C ⟨3, 0, h3, x3, y3, fun s kx kr => r3 sl0 sl0.n kx kr s⟩ (loopsOf (bodyC Tryz.f125)) := LS.at (i := 0) (by kernel_rfl) (loop_good mixed ctx (ctx_nat ctx) (N := sl0.n) (fun _ _ _ _ => rfl) e3 (all1 (LS.none (by kernel_rfl)) (all0)))
theorem eG (β : Type) (s : sin.den) (K : sout.den → Option β) : evalFn C Tryz.f125 sin sout s K = o.F s K := by kernel_rfl
theorem ok : OracOk Tryz.prog o := fn_ok mixed Tryz.func125 (by kernel_rfl) ctx (c := bodyC Tryz.f125) (by kernel_rfl) (all1 g3 (all0)) (by kernel_rfl) (by kernel_rfl) (by kernel_rfl) (Nat.le_of_ble_eq_true (by kernel_rfl)) eG (by kernel_rfl) (Nat.le_of_ble_eq_true (by kernel_rfl))
end spec_l4All
end Go.Proofs.YtnbighmbgmjbkaaGreat.E
end
